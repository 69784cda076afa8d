/- What functions of the program compute, as plain functions, and that a call gives just that. Conditions: those named in each theorem. -/
import Derived.Test.YtkbacbikbndakaaF2
set_option linter.unusedVariables false
namespace Go.Proofs
open Go.G Go.RowKit
set_option maxRecDepth 100000

def k_sort_rotate_func (M : Nat → Prop) (w0 : World) {α_ : Type} (I_ : World → List α_ → Prop) (G_ : List Nat) (r : (List α_)) (a : Act) (w : World) : Prop :=
  ∃ (σ : Nat → Value) , a = fr 53 (ovl σ []) ∧ Chg (G_ ++ ([])) w0 w ∧ I_ w r
def s_sort_rotate_func {α_ : Type} (ls_ : α_ → α_ → Option Bool) (d_ : List α_) (a_ : Int) (m : Int) (b : Int) : Option ((List α_)) :=
  (iter (S := Int × Int × (List α_)) (R := (List α_)) (fun s15 =>
  (bif (s15.1 != s15.2.1) then (bif (decide (s15.2.1 < s15.1)) then (s_sort_swapRange_func ls_ s15.2.2 (w64 (m - s15.1)) m s15.2.1).bind fun r26 =>
  some (.nx (w64 (s15.1 - s15.2.1), s15.2.1, r26)) else (s_sort_swapRange_func ls_ s15.2.2 (w64 (m - s15.1)) (w64 ((w64 (m + s15.2.1)) - s15.1)) s15.1).bind fun r28 =>
  some (.nx (s15.1, w64 (s15.2.1 - s15.1), r28))) else some (.br (s15.1, s15.2.1, s15.2.2)))) FU (w64 (m - a_), w64 (b - m), d_)).bind fun o19 => after o19 (fun r_ => some r_) (fun s15 =>
  (s_sort_swapRange_func ls_ s15.2.2 (w64 (m - s15.1)) m s15.1).bind fun r30 =>
  some r30)
set_option maxHeartbeats 4000000 in
theorem c_sort_rotate_func {M : Nat → Prop} {w : World} {α_ : Type} {n0_ : Nat} {I_ : World → List α_ → Prop} {G_ : List Nat} {g_ sf_ : Nat} {lb_ sb_ : Array Value} (ls_ : α_ → α_ → Option Bool) (d_ : List α_) (a_ : Int) (m : Int) (b : Int) (hN_ : n0_ ≤ w.heap.size) (hE_ : Env Try.prog n0_ I_ G_ ls_ g_ lb_ sf_ sb_) (hI_ : I_ w d_) (hI : Own (Nw w (G_ ++ ([]))) M w (G_ ++ ([]))) (hM : ∀ g, w.heap.size ≤ g → M g) {r : (List α_)} (hs : s_sort_rotate_func ls_ d_ a_ m b = some r) :
    Gives Try.prog 132 [(.agg #[(.func (.func g_) #[] lb_), (.func (.func sf_) #[] sb_)]), (.int .i64 a_), (.int .i64 m), (.int .i64 b)] w (fun v w' => v = (.tuple #[]) ∧ Chg (G_ ++ ([])) w w' ∧ I_ w' r) := by
 refine calls_fr Try.func132 rfl Try.ntmps132 (Nat.le_of_ble_eq_true rfl) ?_
 have hO := hI
 have hC := Chg.refl (G_ ++ ([])) w
 unfold s_sort_rotate_func at hs
 refine wp_mono (Q := KPostN (k_sort_rotate_func M w I_ G_ r)) ?_ (fun e a a3 h => ?_)
 rotate_left
 ·cases e
  case ret =>
   obtain ⟨σ, rfl, hrest⟩ := h
   exact ret0x Try.results132  ⟨rfl, hrest⟩
  case normal =>
   obtain ⟨σ, rfl, hrest⟩ := h
   exact ret0n Try.results132  ⟨rfl, hrest⟩
  all_goals exact (h : False).elim
 refine c_sr ?_
 obtain ⟨a3, a2, b2, b1, a4, a0⟩ := new_block w [(.func (.func g_) #[] lb_), (.func (.func sf_) #[] sb_)] 136
 refine pl_val (w' := a3) (.pointer (some ⟨a2, 0, none⟩)) (y_box rfl (by rw [b2, b1]; kernel_rfl)) ?_
 have hI_ := hE_.ext hI_ a4 (fun _ h => nomatch h)
 have hC := hC.ext a4
 have hO := hO.new1 a4 b1 a0.lt
 refine c_nil ?_
 refine c_sr ?_
 refine pl_val (.int .i64 m) (y_move rfl) ?_
 refine pl_val (.int .i64 a_) (y_move rfl) ?_
 refine pl_val (.int .i64 (w64 (m - a_))) (y_sub rfl rfl) ?_
 refine pl_val (.int .i64 (w64 (m - a_))) (y_assign rfl) ?_
 refine c_nil ?_
 refine c_sr ?_
 refine pl_val (.int .i64 b) (y_move rfl) ?_
 refine pl_val (.int .i64 m) (y_move rfl) ?_
 refine pl_val (.int .i64 (w64 (b - m))) (y_sub rfl rfl) ?_
 refine pl_val (.int .i64 (w64 (b - m))) (y_assign rfl) ?_
 refine c_nil ?_
 refine c_seq ?_
 obtain ⟨o19, b3, hs⟩ := bind_some hs
 refine wp_block ?_
 refine wp_iter (id := 0) (I := fun s15 a a1 => ∃ (σ : Nat → Value), a = fr 53 (ovl σ [(2, (.int .i64 m)), (4, (.pointer (some ⟨a2, 0, none⟩))), (8, (.int .i64 s15.1)), (9, (.int .i64 s15.2.1))]) ∧ Chg (G_ ++ ([])) w a1 ∧ Own (Nw w (G_ ++ ([]))) M a1 (([a2]) ++ (G_ ++ [])) ∧ I_ a1 s15.2.2 ∧ BoxV a1 a2 136 [(.func (.func g_) #[] lb_), (.func (.func sf_) #[] sb_)]) (J := fun s15 a a1 => ∃ (σ : Nat → Value), a = fr 53 (ovl σ [(2, (.int .i64 m)), (4, (.pointer (some ⟨a2, 0, none⟩))), (8, (.int .i64 s15.1))]) ∧ Chg (G_ ++ ([])) w a1 ∧ Own (Nw w (G_ ++ ([]))) M a1 (([a2]) ++ (G_ ++ [])) ∧ I_ a1 s15.2.2 ∧ BoxV a1 a2 136 [(.func (.func g_) #[] lb_), (.func (.func sf_) #[] sb_)]) (K := (k_sort_rotate_func M w I_ G_)) ?_ FU (w64 (m - a_), w64 (b - m), d_) o19 _ _ ?_ b3 ?_
 ·rintro s15 o19 a a1 ⟨σ, rfl, hC, hO, a5, a0⟩ hs
  refine c_seq ?_
  refine c_sr ?_
  refine pl_val (.int .i64 s15.1) (y_move rfl) ?_
  refine pl_val (.int .i64 s15.2.1) (y_move rfl) ?_
  refine pl_val (.bool (s15.1 != s15.2.1)) (y_neq rfl rfl) ?_
  refine c_nil ?_
  rcases bif_some hs with ⟨a6, hs⟩ | ⟨a6, hs⟩
  ·refine c_condT (congrArg Value.bool a6) ?_
   refine wp_skip ?_
   refine wp_block ?_
   refine c_sr ?_
   refine pl_val (.int .i64 s15.1) (y_move rfl) ?_
   refine pl_val (.int .i64 s15.2.1) (y_move rfl) ?_
   refine pl_val (.bool (decide (s15.2.1 < s15.1))) (y_gtr rfl rfl) ?_
   refine c_nil ?_
   rcases bif_some hs with ⟨a7, hs⟩ | ⟨a7, hs⟩
   ·refine c_condT (congrArg Value.bool a7) ?_
    refine c_sr ?_
    refine pl_val (.agg #[(.func (.func g_) #[] lb_), (.func (.func sf_) #[] sb_)]) (y_load rfl ((box_load Ag136 Sz136 a0 [] [(.func (.func g_) #[] lb_), (.func (.func sf_) #[] sb_)] [] rfl rfl (fun h => nomatch h)) _ (Chg.refl _ _))) ?_
    refine pl_val (.int .i64 m) (y_move rfl) ?_
    refine pl_val (.int .i64 s15.1) (y_move rfl) ?_
    refine pl_val (.int .i64 (w64 (m - s15.1))) (y_sub rfl rfl) ?_
    refine pl_val (.int .i64 m) (y_move rfl) ?_
    refine pl_val (.int .i64 s15.2.1) (y_move rfl) ?_
    have hO := hO.fr1
    have b4 := Own.lend (F := (G_ ++ ([]))) (R := ([a2]) ++ ([])) (Own.perm hO (by simp))
    obtain ⟨r26, b5, hs⟩ := bind_some hs
    refine pl_call Bd133 rfl (c_sort_swapRange_func (M := M) ls_ s15.2.2 (w64 (m - s15.1)) m s15.2.1 (Nat.le_trans hN_ hC.size) hE_ a5 b4 hO.fut b5) ?_
    rintro _ c5 ⟨rfl, a8, b6⟩
    have a0 := a0.ap a8 hO nil_mem (mem_l (List.mem_singleton.2 rfl))
    have hC := hC.st a8 hO nil_mem
    have hO := hO.ext a8
    refine c_nil ?_
    refine c_region ?_
    refine pl_val (.int .i64 s15.1) (y_move rfl) ?_
    refine pl_val (.int .i64 s15.2.1) (y_move rfl) ?_
    refine pl_val (.int .i64 (w64 (s15.1 - s15.2.1))) (y_sub rfl rfl) ?_
    refine pl_val (.int .i64 (w64 (s15.1 - s15.2.1))) (y_assign rfl) ?_
    refine c_nil ?_
    cases hs
    have hO := hO.fr1
    exact ⟨_, fr_ovl 53 ⟨rfl, rfl, rfl, rfl, trivial⟩, hC, hO, b6, a0⟩
   refine c_condF (congrArg Value.bool a7) ?_
   refine c_sr ?_
   refine pl_val (.agg #[(.func (.func g_) #[] lb_), (.func (.func sf_) #[] sb_)]) (y_load rfl ((box_load Ag136 Sz136 a0 [] [(.func (.func g_) #[] lb_), (.func (.func sf_) #[] sb_)] [] rfl rfl (fun h => nomatch h)) _ (Chg.refl _ _))) ?_
   refine pl_val (.int .i64 m) (y_move rfl) ?_
   refine pl_val (.int .i64 s15.1) (y_move rfl) ?_
   refine pl_val (.int .i64 (w64 (m - s15.1))) (y_sub rfl rfl) ?_
   refine pl_val (.int .i64 m) (y_move rfl) ?_
   refine pl_val (.int .i64 s15.2.1) (y_move rfl) ?_
   refine pl_val (.int .i64 (w64 (m + s15.2.1))) (y_add rfl rfl) ?_
   refine pl_val (.int .i64 s15.1) (y_move rfl) ?_
   refine pl_val (.int .i64 (w64 ((w64 (m + s15.2.1)) - s15.1))) (y_sub rfl rfl) ?_
   refine pl_val (.int .i64 s15.1) (y_move rfl) ?_
   have hO := hO.fr1
   have b7 := Own.lend (F := (G_ ++ ([]))) (R := ([a2]) ++ ([])) (Own.perm hO (by simp))
   obtain ⟨r28, b8, hs⟩ := bind_some hs
   refine pl_call Bd133 rfl (c_sort_swapRange_func (M := M) ls_ s15.2.2 (w64 (m - s15.1)) (w64 ((w64 (m + s15.2.1)) - s15.1)) s15.1 (Nat.le_trans hN_ hC.size) hE_ a5 b7 hO.fut b8) ?_
   rintro _ c6 ⟨rfl, a9, b9⟩
   have a0 := a0.ap a9 hO nil_mem (mem_l (List.mem_singleton.2 rfl))
   have hC := hC.st a9 hO nil_mem
   have hO := hO.ext a9
   refine c_nil ?_
   refine c_region ?_
   refine pl_val (.int .i64 s15.2.1) (y_move rfl) ?_
   refine pl_val (.int .i64 s15.1) (y_move rfl) ?_
   refine pl_val (.int .i64 (w64 (s15.2.1 - s15.1))) (y_sub rfl rfl) ?_
   refine pl_val (.int .i64 (w64 (s15.2.1 - s15.1))) (y_assign rfl) ?_
   refine c_nil ?_
   cases hs
   have hO := hO.fr1
   exact ⟨_, fr_ovl 53 ⟨rfl, rfl, rfl, rfl, trivial⟩, hC, hO, b9, a0⟩
  refine c_condF (congrArg Value.bool a6) ?_
  refine wp_exit ?_
  cases hs
  have hO := hO.fr1
  have hO := hO.fr1
  exact ⟨rfl, _, fr_ovl 53 ⟨rfl, rfl, rfl, trivial⟩, hC, hO, a5, a0⟩
 ·skip
  have hO := hO.fr1
  have hO := hO.fr1
  exact ⟨_, fr_ovl 53 ⟨rfl, rfl, rfl, rfl, trivial⟩, hC, hO, hI_, a0⟩
 cases o19 with
 | nx _ => exact True.intro
 | rt r_ =>
  have hs := after_rt hs
  intro c0 a3 hK
  cases hs
  exact hK
 | br s15 =>
  have hs := after_br hs
  rintro c0 a1 ⟨σ, rfl, hC, hO, c1, a0⟩
  refine c_region ?_
  refine pl_val (.agg #[(.func (.func g_) #[] lb_), (.func (.func sf_) #[] sb_)]) (y_load rfl ((box_load Ag136 Sz136 a0 [] [(.func (.func g_) #[] lb_), (.func (.func sf_) #[] sb_)] [] rfl rfl (fun h => nomatch h)) _ (Chg.refl _ _))) ?_
  refine pl_val (.int .i64 m) (y_move rfl) ?_
  refine pl_val (.int .i64 s15.1) (y_move rfl) ?_
  refine pl_val (.int .i64 (w64 (m - s15.1))) (y_sub rfl rfl) ?_
  refine pl_val (.int .i64 m) (y_move rfl) ?_
  refine pl_val (.int .i64 s15.1) (y_move rfl) ?_
  have hO := hO.fr1
  have c2 := Own.lend (F := (G_ ++ ([]))) (R := ([a2]) ++ ([])) (Own.perm hO (by simp))
  obtain ⟨r30, c3, hs⟩ := bind_some hs
  refine pl_call Bd133 rfl (c_sort_swapRange_func (M := M) ls_ s15.2.2 (w64 (m - s15.1)) m s15.1 (Nat.le_trans hN_ hC.size) hE_ c1 c2 hO.fut c3) ?_
  rintro _ c7 ⟨rfl, b0, c4⟩
  have a0 := a0.ap b0 hO nil_mem (mem_l (List.mem_singleton.2 rfl))
  have hC := hC.st b0 hO nil_mem
  have hO := hO.ext b0
  refine c_nil ?_
  cases hs
  exact ⟨_, fr_ovl 53 trivial, hC, c4⟩

theorem Bd132 : Bodied Try.prog 132 := bodied Try.func132 (by kernel_rfl) rfl

theorem Bd131 : Bodied Try.prog 131 := bodied Try.func131 (by kernel_rfl) rfl

def k_sort_symMerge_func (M : Nat → Prop) (w0 : World) {α_ : Type} (I_ : World → List α_ → Prop) (G_ : List Nat) (r : (List α_)) (a : Act) (w : World) : Prop :=
  ∃ (σ : Nat → Value) , a = fr 177 (ovl σ []) ∧ Chg (G_ ++ ([])) w0 w ∧ I_ w r
def s_sort_symMerge_func {α_ : Type} : Nat → (α_ → α_ → Option Bool) → (List α_) → (Int) → (Int) → (Int) → Option ((List α_))
  | 0, _, _, _, _, _ => none
  | fu_ + 1, ls_, d_, a_, m, b =>
  (bif ((w64 (m - a_)) == 1) then (iter (S := Int × Int) (R := (List α_)) (fun s7 =>
  (bif (decide (s7.1 < s7.2)) then (lsx ls_ d_ (w64 (ishr .u64 (IntKind.u64.wrap (w64 (s7.1 + s7.2))) 1)) a_).bind fun r15 =>
  (bif r15 then some (.nx (w64 ((w64 (ishr .u64 (IntKind.u64.wrap (w64 (s7.1 + s7.2))) 1)) + 1), s7.2)) else some (.nx (s7.1, w64 (ishr .u64 (IntKind.u64.wrap (w64 (s7.1 + s7.2))) 1)))) else some (.br (s7.1, s7.2)))) FU (m, b)).bind fun o11 => after o11 (fun r_ => some r_) (fun s7 =>
  (forC (S := (List α_)) (R := (List α_)) (fun k24 s22 =>
  (swx s22 k24 (w64 (k24 + 1))).bind fun y31 =>
  some (.nx y31)) a_ (w64 (s7.1 - 1)) d_).bind fun o26 => after o26 (fun r_ => some r_) (fun s22 =>
  some s22)) else (bif ((w64 (b - m)) == 1) then (iter (S := Int × Int) (R := (List α_)) (fun s37 =>
  (bif (decide (s37.1 < s37.2)) then (lsx ls_ d_ m (w64 (ishr .u64 (IntKind.u64.wrap (w64 (s37.1 + s37.2))) 1))).bind fun r45 =>
  (bif (!r45) then some (.nx (w64 ((w64 (ishr .u64 (IntKind.u64.wrap (w64 (s37.1 + s37.2))) 1)) + 1), s37.2)) else some (.nx (s37.1, w64 (ishr .u64 (IntKind.u64.wrap (w64 (s37.1 + s37.2))) 1)))) else some (.br (s37.1, s37.2)))) FU (a_, m)).bind fun o41 => after o41 (fun r_ => some r_) (fun s37 =>
  (iter (S := Int × (List α_)) (R := (List α_)) (fun s54 =>
  (bif (decide (s37.1 < s54.1)) then (swx s54.2 s54.1 (w64 (s54.1 - 1))).bind fun y64 =>
  some (.nx (w64 (s54.1 - 1), y64)) else some (.br (s54.1, s54.2)))) FU (m, d_)).bind fun o58 => after o58 (fun r_ => some r_) (fun s54 =>
  some s54.2)) else (bif (decide ((w64 (ishr .u64 (IntKind.u64.wrap (w64 (a_ + b))) 1)) < m)) then some (w64 ((w64 ((w64 (ishr .u64 (IntKind.u64.wrap (w64 (a_ + b))) 1)) + m)) - b), w64 (ishr .u64 (IntKind.u64.wrap (w64 (a_ + b))) 1)) else some (a_, m)).bind fun s65 =>
  (iter (S := Int × Int) (R := (List α_)) (fun s73 =>
  (bif (decide (s73.1 < s73.2)) then (lsx ls_ d_ (w64 ((w64 ((w64 ((w64 (ishr .u64 (IntKind.u64.wrap (w64 (a_ + b))) 1)) + m)) - 1)) - (w64 (ishr .u64 (IntKind.u64.wrap (w64 (s73.1 + s73.2))) 1)))) (w64 (ishr .u64 (IntKind.u64.wrap (w64 (s73.1 + s73.2))) 1))).bind fun r81 =>
  (bif (!r81) then some (.nx (w64 ((w64 (ishr .u64 (IntKind.u64.wrap (w64 (s73.1 + s73.2))) 1)) + 1), s73.2)) else some (.nx (s73.1, w64 (ishr .u64 (IntKind.u64.wrap (w64 (s73.1 + s73.2))) 1)))) else some (.br (s73.1, s73.2)))) FU (s65.1, s65.2)).bind fun o77 => after o77 (fun r_ => some r_) (fun s73 =>
  (bif ((decide (s73.1 < m)) && (decide (m < (w64 ((w64 ((w64 (ishr .u64 (IntKind.u64.wrap (w64 (a_ + b))) 1)) + m)) - s73.1))))) then (s_sort_rotate_func ls_ d_ s73.1 m (w64 ((w64 ((w64 (ishr .u64 (IntKind.u64.wrap (w64 (a_ + b))) 1)) + m)) - s73.1))).bind fun r97 =>
  some r97 else some d_).bind fun s91 =>
  (bif ((decide (a_ < s73.1)) && (decide (s73.1 < (w64 (ishr .u64 (IntKind.u64.wrap (w64 (a_ + b))) 1))))) then (s_sort_symMerge_func fu_ ls_ s91 a_ s73.1 (w64 (ishr .u64 (IntKind.u64.wrap (w64 (a_ + b))) 1))).bind fun r112 =>
  some r112 else some s91).bind fun s106 =>
  (bif ((decide ((w64 (ishr .u64 (IntKind.u64.wrap (w64 (a_ + b))) 1)) < (w64 ((w64 ((w64 (ishr .u64 (IntKind.u64.wrap (w64 (a_ + b))) 1)) + m)) - s73.1)))) && (decide ((w64 ((w64 ((w64 (ishr .u64 (IntKind.u64.wrap (w64 (a_ + b))) 1)) + m)) - s73.1)) < b))) then (s_sort_symMerge_func fu_ ls_ s106 (w64 (ishr .u64 (IntKind.u64.wrap (w64 (a_ + b))) 1)) (w64 ((w64 ((w64 (ishr .u64 (IntKind.u64.wrap (w64 (a_ + b))) 1)) + m)) - s73.1)) b).bind fun r119 =>
  some r119 else some s106))))
set_option maxHeartbeats 4000000 in
theorem c_sort_symMerge_func : ∀ (fu_ : Nat) {M : Nat → Prop} {w : World} {α_ : Type} {n0_ : Nat} {I_ : World → List α_ → Prop} {G_ : List Nat} {g_ sf_ : Nat} {lb_ sb_ : Array Value} (ls_ : α_ → α_ → Option Bool) (d_ : List α_) (a_ : Int) (m : Int) (b : Int) (hN_ : n0_ ≤ w.heap.size) (hE_ : Env Try.prog n0_ I_ G_ ls_ g_ lb_ sf_ sb_) (hI_ : I_ w d_) (hI : Own (Nw w (G_ ++ ([]))) M w (G_ ++ ([]))) (hM : ∀ g, w.heap.size ≤ g → M g) {r : (List α_)} (hs : s_sort_symMerge_func fu_ ls_ d_ a_ m b = some r), Gives Try.prog 131 [(.agg #[(.func (.func g_) #[] lb_), (.func (.func sf_) #[] sb_)]), (.int .i64 a_), (.int .i64 m), (.int .i64 b)] w (fun v w' => v = (.tuple #[]) ∧ Chg (G_ ++ ([])) w w' ∧ I_ w' r) := by
 intro fu_
 induction fu_ with
 | zero => intro M w α_ n0_ I_ G_ g_ sf_ lb_ sb_ ls_ d_ a_ m b hN_ hE_ hI_ hI hM r hs; exact (nomatch hs)
 | succ fu_ c_ih =>
 intro M w α_ n0_ I_ G_ g_ sf_ lb_ sb_ ls_ d_ a_ m b hN_ hE_ hI_ hI hM r hs
 refine calls_fr Try.func131 rfl Try.ntmps131 (Nat.le_of_ble_eq_true rfl) ?_
 have hO := hI
 have hC := Chg.refl (G_ ++ ([])) w
 rw [s_sort_symMerge_func] at hs
 refine wp_mono (Q := KPostN (k_sort_symMerge_func M w I_ G_ r)) ?_ (fun e a b1 h => ?_)
 rotate_left
 ·cases e
  case ret =>
   obtain ⟨σ, rfl, hrest⟩ := h
   exact ret0x Try.results131  ⟨rfl, hrest⟩
  case normal =>
   obtain ⟨σ, rfl, hrest⟩ := h
   exact ret0n Try.results131  ⟨rfl, hrest⟩
  all_goals exact (h : False).elim
 refine c_sr ?_
 obtain ⟨b1, a1, e8, e3, c3, a0⟩ := new_block w [(.func (.func g_) #[] lb_), (.func (.func sf_) #[] sb_)] 136
 refine pl_val (w' := b1) (.pointer (some ⟨a1, 0, none⟩)) (y_box rfl (by rw [e8, e3]; kernel_rfl)) ?_
 have hI_ := hE_.ext hI_ c3 (fun _ h => nomatch h)
 have hC := hC.ext c3
 have hO := hO.new1 c3 e3 a0.lt
 refine c_nil ?_
 refine c_seq ?_
 refine c_sr ?_
 refine pl_val (.int .i64 m) (y_move rfl) ?_
 refine pl_val (.int .i64 a_) (y_move rfl) ?_
 refine pl_val (.int .i64 (w64 (m - a_))) (y_sub rfl rfl) ?_
 refine pl_val (.bool ((w64 (m - a_)) == 1)) (y_eql rfl rfl) ?_
 refine c_nil ?_
 rcases bif_some hs with ⟨c4, hs⟩ | ⟨c4, hs⟩
 ·refine c_condT (congrArg Value.bool c4) ?_
  refine c_sr ?_
  refine pl_val (.int .i64 m) (y_move rfl) ?_
  refine pl_val (.int .i64 m) (y_assign rfl) ?_
  refine c_nil ?_
  refine c_sr ?_
  refine pl_val (.int .i64 b) (y_move rfl) ?_
  refine pl_val (.int .i64 b) (y_assign rfl) ?_
  refine c_nil ?_
  refine c_seq ?_
  obtain ⟨o11, e9, hs⟩ := bind_some hs
  refine wp_block ?_
  refine wp_iter (id := 0) (I := fun s7 a a5 => ∃ (σ : Nat → Value), a = fr 177 (ovl σ [(1, (.int .i64 a_)), (2, (.int .i64 m)), (3, (.int .i64 b)), (4, (.pointer (some ⟨a1, 0, none⟩))), (8, (.int .i64 s7.1)), (9, (.int .i64 s7.2))]) ∧ Chg (G_ ++ ([])) w a5 ∧ Own (Nw w (G_ ++ ([]))) M a5 (([a1]) ++ (G_ ++ [])) ∧ I_ a5 d_ ∧ BoxV a5 a1 136 [(.func (.func g_) #[] lb_), (.func (.func sf_) #[] sb_)]) (J := fun s7 a a5 => ∃ (σ : Nat → Value), a = fr 177 (ovl σ [(1, (.int .i64 a_)), (2, (.int .i64 m)), (3, (.int .i64 b)), (4, (.pointer (some ⟨a1, 0, none⟩))), (8, (.int .i64 s7.1))]) ∧ Chg (G_ ++ ([])) w a5 ∧ Own (Nw w (G_ ++ ([]))) M a5 (([a1]) ++ (G_ ++ [])) ∧ I_ a5 d_ ∧ BoxV a5 a1 136 [(.func (.func g_) #[] lb_), (.func (.func sf_) #[] sb_)]) (K := (k_sort_symMerge_func M w I_ G_)) ?_ FU (m, b) o11 _ _ ?_ e9 ?_
  ·rintro s7 o11 a a5 ⟨σ, rfl, hC, hO, hI_, a0⟩ hs
   refine c_seq ?_
   refine c_sr ?_
   refine pl_val (.int .i64 s7.1) (y_move rfl) ?_
   refine pl_val (.int .i64 s7.2) (y_move rfl) ?_
   refine pl_val (.bool (decide (s7.1 < s7.2))) (y_lss rfl rfl) ?_
   refine c_nil ?_
   rcases bif_some hs with ⟨c5, hs⟩ | ⟨c5, hs⟩
   ·refine c_condT (congrArg Value.bool c5) ?_
    refine wp_skip ?_
    refine wp_block ?_
    refine c_sr ?_
    refine pl_val (.int .i64 s7.1) (y_move rfl) ?_
    refine pl_val (.int .i64 s7.2) (y_move rfl) ?_
    refine pl_val (.int .i64 (w64 (s7.1 + s7.2))) (y_add rfl rfl) ?_
    refine pl_val (.int .u64 (IntKind.u64.wrap (w64 (s7.1 + s7.2)))) (y_conv_int Try.underlying3 Try.underlying119 rfl) ?_
    refine pl_val (.int .u64 (ishr .u64 (IntKind.u64.wrap (w64 (s7.1 + s7.2))) 1)) (y_shr rfl rfl (by decide)) ?_
    refine pl_val (.int .i64 (w64 (ishr .u64 (IntKind.u64.wrap (w64 (s7.1 + s7.2))) 1))) (y_conv_int Try.underlying119 Try.underlying3 rfl) ?_
    refine pl_val (.int .i64 (w64 (ishr .u64 (IntKind.u64.wrap (w64 (s7.1 + s7.2))) 1))) (y_assign rfl) ?_
    refine c_nil ?_
    refine c_sr ?_
    refine pl_val (.pointer (some ⟨a1, 0, none⟩)) (y_faddr rfl Fa136x0) ?_
    refine pl_val (.func (.func g_) #[] lb_) (y_load rfl ((box_load Ag125 Sz125 a0 [] [(.func (.func g_) #[] lb_)] [(.func (.func sf_) #[] sb_)] rfl rfl (fun _ => rfl)) _ (Chg.refl _ _))) ?_
    refine pl_val (.int .i64 (w64 (ishr .u64 (IntKind.u64.wrap (w64 (s7.1 + s7.2))) 1))) (y_move rfl) ?_
    refine pl_val (.int .i64 a_) (y_move rfl) ?_
    obtain ⟨r15, f0, hs⟩ := bind_some hs
    refine pl_callb rfl hE_.bod rfl (hE_.less hI_ f0) ?_
    rintro _ h9 ⟨rfl, b5⟩
    have hI_ := hE_.ext hI_ b5 (fun _ h => nomatch h)
    have a0 := a0.cn b5
    have hC := hC.ext b5
    have hO := hO.ext b5
    refine c_nil ?_
    rcases bif_some hs with ⟨c6, hs⟩ | ⟨c6, hs⟩
    ·refine c_condT (congrArg Value.bool c6) ?_
     refine c_region ?_
     refine pl_val (.int .i64 (w64 (ishr .u64 (IntKind.u64.wrap (w64 (s7.1 + s7.2))) 1))) (y_move rfl) ?_
     refine pl_val (.int .i64 (w64 ((w64 (ishr .u64 (IntKind.u64.wrap (w64 (s7.1 + s7.2))) 1)) + 1))) (y_add rfl rfl) ?_
     refine pl_val (.int .i64 (w64 ((w64 (ishr .u64 (IntKind.u64.wrap (w64 (s7.1 + s7.2))) 1)) + 1))) (y_assign rfl) ?_
     refine c_nil ?_
     cases hs
     have hO := hO.fr1
     have hO := hO.fr1
     exact ⟨_, fr_ovl 177 ⟨rfl, rfl, rfl, rfl, rfl, rfl, trivial⟩, hC, hO, hI_, a0⟩
    refine c_condF (congrArg Value.bool c6) ?_
    refine c_region ?_
    refine pl_val (.int .i64 (w64 (ishr .u64 (IntKind.u64.wrap (w64 (s7.1 + s7.2))) 1))) (y_move rfl) ?_
    refine pl_val (.int .i64 (w64 (ishr .u64 (IntKind.u64.wrap (w64 (s7.1 + s7.2))) 1))) (y_assign rfl) ?_
    refine c_nil ?_
    cases hs
    have hO := hO.fr1
    have hO := hO.fr1
    exact ⟨_, fr_ovl 177 ⟨rfl, rfl, rfl, rfl, rfl, rfl, trivial⟩, hC, hO, hI_, a0⟩
   refine c_condF (congrArg Value.bool c5) ?_
   refine wp_exit ?_
   cases hs
   have hO := hO.fr1
   have hO := hO.fr1
   exact ⟨rfl, _, fr_ovl 177 ⟨rfl, rfl, rfl, rfl, rfl, trivial⟩, hC, hO, hI_, a0⟩
  ·skip
   have hO := hO.fr1
   have hO := hO.fr1
   exact ⟨_, fr_ovl 177 ⟨rfl, rfl, rfl, rfl, rfl, rfl, trivial⟩, hC, hO, hI_, a0⟩
  cases o11 with
  | nx _ => exact True.intro
  | rt r_ =>
   have hs := after_rt hs
   intro a2 b1 hK
   cases hs
   exact hK
  | br s7 =>
   have hs := after_br hs
   rintro a2 a5 ⟨σ, rfl, hC, hO, hI_, a0⟩
   refine c_seq ?_
   refine c_sr ?_
   refine pl_val (.int .i64 a_) (y_move rfl) ?_
   refine pl_val (.int .i64 a_) (y_assign rfl) ?_
   refine c_nil ?_
   obtain ⟨o26, f1, hs⟩ := bind_some hs
   refine wp_block ?_
   refine wp_forC (id := 2) (w64 (s7.1 - 1)) (I := fun k24 s22 a a4 => ∃ (σ : Nat → Value), a = fr 177 (ovl σ [(1, (.int .i64 a_)), (2, (.int .i64 m)), (3, (.int .i64 b)), (4, (.pointer (some ⟨a1, 0, none⟩))), (8, (.int .i64 s7.1)), (11, (.int .i64 k24))]) ∧ Chg (G_ ++ ([])) w a4 ∧ Own (Nw w (G_ ++ ([]))) M a4 (([a1]) ++ (G_ ++ [])) ∧ I_ a4 s22 ∧ BoxV a4 a1 136 [(.func (.func g_) #[] lb_), (.func (.func sf_) #[] sb_)]) (J := fun s22 a a4 => ∃ (σ : Nat → Value), a = fr 177 (ovl σ [(1, (.int .i64 a_)), (2, (.int .i64 m)), (3, (.int .i64 b)), (4, (.pointer (some ⟨a1, 0, none⟩)))]) ∧ Chg (G_ ++ ([])) w a4 ∧ Own (Nw w (G_ ++ ([]))) M a4 (([a1]) ++ (G_ ++ [])) ∧ I_ a4 s22 ∧ BoxV a4 a1 136 [(.func (.func g_) #[] lb_), (.func (.func sf_) #[] sb_)]) (K := (k_sort_symMerge_func M w I_ G_)) ?_ ?_ a_ d_ o26 _ _ ?_ f1 ?_
   ·rintro k24 s22 a a4 ⟨σ, rfl, hC, hO, c7, a0⟩ hlt
    refine c_seq ?_
    refine c_sr ?_
    refine pl_val (.int .i64 k24) (y_move rfl) ?_
    refine pl_val (.int .i64 s7.1) (y_move rfl) ?_
    refine pl_val (.int .i64 (w64 (s7.1 - 1))) (y_sub rfl rfl) ?_
    refine pl_val (.bool (decide (k24 < (w64 (s7.1 - 1))))) (y_lss rfl rfl) ?_
    refine c_nil ?_
    refine c_condF (congrArg Value.bool (decide_eq_false hlt)) ?_
    refine wp_exit ?_
    have hO := hO.fr1
    have hO := hO.fr1
    exact ⟨rfl, _, fr_ovl 177 ⟨rfl, rfl, rfl, rfl, trivial⟩, hC, hO, c7, a0⟩
   ·rintro k24 s22 o26 a a4 ⟨σ, rfl, hC, hO, c7, a0⟩ hlt hw hs
    refine c_seq ?_
    refine c_sr ?_
    refine pl_val (.int .i64 k24) (y_move rfl) ?_
    refine pl_val (.int .i64 s7.1) (y_move rfl) ?_
    refine pl_val (.int .i64 (w64 (s7.1 - 1))) (y_sub rfl rfl) ?_
    refine pl_val (.bool (decide (k24 < (w64 (s7.1 - 1))))) (y_lss rfl rfl) ?_
    refine c_nil ?_
    refine c_condT (congrArg Value.bool (decide_eq_true hlt)) ?_
    refine wp_skip ?_
    refine c_seq ?_
    refine wp_block ?_
    refine c_region ?_
    refine pl_val (.pointer (some ⟨a1, 1, none⟩)) (y_faddr rfl Fa136x1) ?_
    refine pl_val (.func (.func sf_) #[] sb_) (y_load rfl ((box_load Ag132 Sz132 a0 [(.func (.func g_) #[] lb_)] [(.func (.func sf_) #[] sb_)] [] rfl rfl (fun _ => rfl)) _ (Chg.refl _ _))) ?_
    refine pl_val (.int .i64 k24) (y_move rfl) ?_
    refine pl_val (.int .i64 k24) (y_move rfl) ?_
    refine pl_val (.int .i64 (w64 (k24 + 1))) (y_add rfl rfl) ?_
    obtain ⟨y31, f2, hs⟩ := bind_some hs
    obtain ⟨f3, f4, c8, f5⟩ := hE_.swap c7 f2
    refine pl_val (w' := f3) (.tuple #[]) (y_callx rfl rfl f4) ?_
    have hO := hO.fr1
    have a0 := a0.ap c8 hO same_ (mem_l (List.mem_singleton.2 rfl))
    have hC := hC.st c8 hO same_
    have hO := hO.ext c8
    refine c_nil ?_
    refine c_region ?_
    refine pl_val (.int .i64 k24) (y_move rfl) ?_
    refine pl_val (.int .i64 (w64 (k24 + 1))) (y_add rfl rfl) ?_
    refine pl_val (.int .i64 (w64 (k24 + 1))) (y_assign rfl) ?_
    refine c_nil ?_
    cases hs
    have hO := hO.fr1
    exact ⟨_, fr_ovl 177 ⟨rfl, rfl, rfl, rfl, rfl, congrArg (Value.int .i64) hw, trivial⟩, hC, hO, f5, a0⟩
   ·skip
    have hO := hO.fr1
    have hO := hO.fr1
    exact ⟨_, fr_ovl 177 ⟨rfl, rfl, rfl, rfl, rfl, rfl, trivial⟩, hC, hO, hI_, a0⟩
   cases o26 with
   | nx _ => exact True.intro
   | rt r_ =>
    have hs := after_rt hs
    intro a2 b1 hK
    cases hs
    exact hK
   | br s22 =>
    have hs := after_br hs
    rintro a2 a4 ⟨σ, rfl, hC, hO, f6, a0⟩
    refine wp_ret ?_
    cases hs
    exact ⟨_, fr_ovl 177 trivial, hC, f6⟩
 refine c_condF (congrArg Value.bool c4) ?_
 refine wp_skip ?_
 refine c_seq ?_
 refine c_sr ?_
 refine pl_val (.int .i64 b) (y_move rfl) ?_
 refine pl_val (.int .i64 m) (y_move rfl) ?_
 refine pl_val (.int .i64 (w64 (b - m))) (y_sub rfl rfl) ?_
 refine pl_val (.bool ((w64 (b - m)) == 1)) (y_eql rfl rfl) ?_
 refine c_nil ?_
 rcases bif_some hs with ⟨c9, hs⟩ | ⟨c9, hs⟩
 ·refine c_condT (congrArg Value.bool c9) ?_
  refine c_sr ?_
  refine pl_val (.int .i64 a_) (y_move rfl) ?_
  refine pl_val (.int .i64 a_) (y_assign rfl) ?_
  refine c_nil ?_
  refine c_sr ?_
  refine pl_val (.int .i64 m) (y_move rfl) ?_
  refine pl_val (.int .i64 m) (y_assign rfl) ?_
  refine c_nil ?_
  refine c_seq ?_
  obtain ⟨o41, f7, hs⟩ := bind_some hs
  refine wp_block ?_
  refine wp_iter (id := 4) (I := fun s37 a a6 => ∃ (σ : Nat → Value), a = fr 177 (ovl σ [(1, (.int .i64 a_)), (2, (.int .i64 m)), (3, (.int .i64 b)), (4, (.pointer (some ⟨a1, 0, none⟩))), (12, (.int .i64 s37.1)), (13, (.int .i64 s37.2))]) ∧ Chg (G_ ++ ([])) w a6 ∧ Own (Nw w (G_ ++ ([]))) M a6 (([a1]) ++ (G_ ++ [])) ∧ I_ a6 d_ ∧ BoxV a6 a1 136 [(.func (.func g_) #[] lb_), (.func (.func sf_) #[] sb_)]) (J := fun s37 a a6 => ∃ (σ : Nat → Value), a = fr 177 (ovl σ [(1, (.int .i64 a_)), (2, (.int .i64 m)), (3, (.int .i64 b)), (4, (.pointer (some ⟨a1, 0, none⟩))), (12, (.int .i64 s37.1))]) ∧ Chg (G_ ++ ([])) w a6 ∧ Own (Nw w (G_ ++ ([]))) M a6 (([a1]) ++ (G_ ++ [])) ∧ I_ a6 d_ ∧ BoxV a6 a1 136 [(.func (.func g_) #[] lb_), (.func (.func sf_) #[] sb_)]) (K := (k_sort_symMerge_func M w I_ G_)) ?_ FU (a_, m) o41 _ _ ?_ f7 ?_
  ·rintro s37 o41 a a6 ⟨σ, rfl, hC, hO, hI_, a0⟩ hs
   refine c_seq ?_
   refine c_sr ?_
   refine pl_val (.int .i64 s37.1) (y_move rfl) ?_
   refine pl_val (.int .i64 s37.2) (y_move rfl) ?_
   refine pl_val (.bool (decide (s37.1 < s37.2))) (y_lss rfl rfl) ?_
   refine c_nil ?_
   rcases bif_some hs with ⟨d0, hs⟩ | ⟨d0, hs⟩
   ·refine c_condT (congrArg Value.bool d0) ?_
    refine wp_skip ?_
    refine wp_block ?_
    refine c_sr ?_
    refine pl_val (.int .i64 s37.1) (y_move rfl) ?_
    refine pl_val (.int .i64 s37.2) (y_move rfl) ?_
    refine pl_val (.int .i64 (w64 (s37.1 + s37.2))) (y_add rfl rfl) ?_
    refine pl_val (.int .u64 (IntKind.u64.wrap (w64 (s37.1 + s37.2)))) (y_conv_int Try.underlying3 Try.underlying119 rfl) ?_
    refine pl_val (.int .u64 (ishr .u64 (IntKind.u64.wrap (w64 (s37.1 + s37.2))) 1)) (y_shr rfl rfl (by decide)) ?_
    refine pl_val (.int .i64 (w64 (ishr .u64 (IntKind.u64.wrap (w64 (s37.1 + s37.2))) 1))) (y_conv_int Try.underlying119 Try.underlying3 rfl) ?_
    refine pl_val (.int .i64 (w64 (ishr .u64 (IntKind.u64.wrap (w64 (s37.1 + s37.2))) 1))) (y_assign rfl) ?_
    refine c_nil ?_
    refine c_sr ?_
    refine pl_val (.pointer (some ⟨a1, 0, none⟩)) (y_faddr rfl Fa136x0) ?_
    refine pl_val (.func (.func g_) #[] lb_) (y_load rfl ((box_load Ag125 Sz125 a0 [] [(.func (.func g_) #[] lb_)] [(.func (.func sf_) #[] sb_)] rfl rfl (fun _ => rfl)) _ (Chg.refl _ _))) ?_
    refine pl_val (.int .i64 m) (y_move rfl) ?_
    refine pl_val (.int .i64 (w64 (ishr .u64 (IntKind.u64.wrap (w64 (s37.1 + s37.2))) 1))) (y_move rfl) ?_
    obtain ⟨r45, f8, hs⟩ := bind_some hs
    refine pl_callb rfl hE_.bod rfl (hE_.less hI_ f8) ?_
    rintro _ i0 ⟨rfl, b6⟩
    have hI_ := hE_.ext hI_ b6 (fun _ h => nomatch h)
    have a0 := a0.cn b6
    have hC := hC.ext b6
    have hO := hO.ext b6
    refine pl_val (.bool (!r45)) (y_not rfl) ?_
    refine c_nil ?_
    rcases bif_some hs with ⟨d1, hs⟩ | ⟨d1, hs⟩
    ·refine c_condT (congrArg Value.bool d1) ?_
     refine c_region ?_
     refine pl_val (.int .i64 (w64 (ishr .u64 (IntKind.u64.wrap (w64 (s37.1 + s37.2))) 1))) (y_move rfl) ?_
     refine pl_val (.int .i64 (w64 ((w64 (ishr .u64 (IntKind.u64.wrap (w64 (s37.1 + s37.2))) 1)) + 1))) (y_add rfl rfl) ?_
     refine pl_val (.int .i64 (w64 ((w64 (ishr .u64 (IntKind.u64.wrap (w64 (s37.1 + s37.2))) 1)) + 1))) (y_assign rfl) ?_
     refine c_nil ?_
     cases hs
     have hO := hO.fr1
     have hO := hO.fr1
     exact ⟨_, fr_ovl 177 ⟨rfl, rfl, rfl, rfl, rfl, rfl, trivial⟩, hC, hO, hI_, a0⟩
    refine c_condF (congrArg Value.bool d1) ?_
    refine c_region ?_
    refine pl_val (.int .i64 (w64 (ishr .u64 (IntKind.u64.wrap (w64 (s37.1 + s37.2))) 1))) (y_move rfl) ?_
    refine pl_val (.int .i64 (w64 (ishr .u64 (IntKind.u64.wrap (w64 (s37.1 + s37.2))) 1))) (y_assign rfl) ?_
    refine c_nil ?_
    cases hs
    have hO := hO.fr1
    have hO := hO.fr1
    exact ⟨_, fr_ovl 177 ⟨rfl, rfl, rfl, rfl, rfl, rfl, trivial⟩, hC, hO, hI_, a0⟩
   refine c_condF (congrArg Value.bool d0) ?_
   refine wp_exit ?_
   cases hs
   have hO := hO.fr1
   have hO := hO.fr1
   exact ⟨rfl, _, fr_ovl 177 ⟨rfl, rfl, rfl, rfl, rfl, trivial⟩, hC, hO, hI_, a0⟩
  ·skip
   have hO := hO.fr1
   have hO := hO.fr1
   exact ⟨_, fr_ovl 177 ⟨rfl, rfl, rfl, rfl, rfl, rfl, trivial⟩, hC, hO, hI_, a0⟩
  cases o41 with
  | nx _ => exact True.intro
  | rt r_ =>
   have hs := after_rt hs
   intro a2 b1 hK
   cases hs
   exact hK
  | br s37 =>
   have hs := after_br hs
   rintro a2 a6 ⟨σ, rfl, hC, hO, hI_, a0⟩
   refine c_seq ?_
   refine c_sr ?_
   refine pl_val (.int .i64 m) (y_move rfl) ?_
   refine pl_val (.int .i64 m) (y_assign rfl) ?_
   refine c_nil ?_
   obtain ⟨o58, f9, hs⟩ := bind_some hs
   refine wp_block ?_
   refine wp_iter (id := 6) (I := fun s54 a a7 => ∃ (σ : Nat → Value), a = fr 177 (ovl σ [(1, (.int .i64 a_)), (2, (.int .i64 m)), (3, (.int .i64 b)), (4, (.pointer (some ⟨a1, 0, none⟩))), (12, (.int .i64 s37.1)), (15, (.int .i64 s54.1))]) ∧ Chg (G_ ++ ([])) w a7 ∧ Own (Nw w (G_ ++ ([]))) M a7 (([a1]) ++ (G_ ++ [])) ∧ I_ a7 s54.2 ∧ BoxV a7 a1 136 [(.func (.func g_) #[] lb_), (.func (.func sf_) #[] sb_)]) (J := fun s54 a a7 => ∃ (σ : Nat → Value), a = fr 177 (ovl σ [(1, (.int .i64 a_)), (2, (.int .i64 m)), (3, (.int .i64 b)), (4, (.pointer (some ⟨a1, 0, none⟩)))]) ∧ Chg (G_ ++ ([])) w a7 ∧ Own (Nw w (G_ ++ ([]))) M a7 (([a1]) ++ (G_ ++ [])) ∧ I_ a7 s54.2 ∧ BoxV a7 a1 136 [(.func (.func g_) #[] lb_), (.func (.func sf_) #[] sb_)]) (K := (k_sort_symMerge_func M w I_ G_)) ?_ FU (m, d_) o58 _ _ ?_ f9 ?_
   ·rintro s54 o58 a a7 ⟨σ, rfl, hC, hO, e4, a0⟩ hs
    refine c_seq ?_
    refine c_sr ?_
    refine pl_val (.int .i64 s54.1) (y_move rfl) ?_
    refine pl_val (.int .i64 s37.1) (y_move rfl) ?_
    refine pl_val (.bool (decide (s37.1 < s54.1))) (y_gtr rfl rfl) ?_
    refine c_nil ?_
    rcases bif_some hs with ⟨d2, hs⟩ | ⟨d2, hs⟩
    ·refine c_condT (congrArg Value.bool d2) ?_
     refine wp_skip ?_
     refine c_seq ?_
     refine wp_block ?_
     refine c_region ?_
     refine pl_val (.pointer (some ⟨a1, 1, none⟩)) (y_faddr rfl Fa136x1) ?_
     refine pl_val (.func (.func sf_) #[] sb_) (y_load rfl ((box_load Ag132 Sz132 a0 [(.func (.func g_) #[] lb_)] [(.func (.func sf_) #[] sb_)] [] rfl rfl (fun _ => rfl)) _ (Chg.refl _ _))) ?_
     refine pl_val (.int .i64 s54.1) (y_move rfl) ?_
     refine pl_val (.int .i64 s54.1) (y_move rfl) ?_
     refine pl_val (.int .i64 (w64 (s54.1 - 1))) (y_sub rfl rfl) ?_
     obtain ⟨y64, g0, hs⟩ := bind_some hs
     obtain ⟨g1, g2, d3, g3⟩ := hE_.swap e4 g0
     refine pl_val (w' := g1) (.tuple #[]) (y_callx rfl rfl g2) ?_
     have hO := hO.fr1
     have a0 := a0.ap d3 hO same_ (mem_l (List.mem_singleton.2 rfl))
     have hC := hC.st d3 hO same_
     have hO := hO.ext d3
     refine c_nil ?_
     refine c_region ?_
     refine pl_val (.int .i64 s54.1) (y_move rfl) ?_
     refine pl_val (.int .i64 (w64 (s54.1 - 1))) (y_sub rfl rfl) ?_
     refine pl_val (.int .i64 (w64 (s54.1 - 1))) (y_assign rfl) ?_
     refine c_nil ?_
     cases hs
     have hO := hO.fr1
     exact ⟨_, fr_ovl 177 ⟨rfl, rfl, rfl, rfl, rfl, rfl, trivial⟩, hC, hO, g3, a0⟩
    refine c_condF (congrArg Value.bool d2) ?_
    refine wp_exit ?_
    cases hs
    have hO := hO.fr1
    have hO := hO.fr1
    exact ⟨rfl, _, fr_ovl 177 ⟨rfl, rfl, rfl, rfl, trivial⟩, hC, hO, e4, a0⟩
   ·skip
    have hO := hO.fr1
    have hO := hO.fr1
    exact ⟨_, fr_ovl 177 ⟨rfl, rfl, rfl, rfl, rfl, rfl, trivial⟩, hC, hO, hI_, a0⟩
   cases o58 with
   | nx _ => exact True.intro
   | rt r_ =>
    have hs := after_rt hs
    intro a2 b1 hK
    cases hs
    exact hK
   | br s54 =>
    have hs := after_br hs
    rintro a2 a7 ⟨σ, rfl, hC, hO, g4, a0⟩
    refine wp_ret ?_
    cases hs
    exact ⟨_, fr_ovl 177 trivial, hC, g4⟩
 refine c_condF (congrArg Value.bool c9) ?_
 refine wp_skip ?_
 refine c_sr ?_
 refine pl_val (.int .i64 a_) (y_move rfl) ?_
 refine pl_val (.int .i64 b) (y_move rfl) ?_
 refine pl_val (.int .i64 (w64 (a_ + b))) (y_add rfl rfl) ?_
 refine pl_val (.int .u64 (IntKind.u64.wrap (w64 (a_ + b)))) (y_conv_int Try.underlying3 Try.underlying119 rfl) ?_
 refine pl_val (.int .u64 (ishr .u64 (IntKind.u64.wrap (w64 (a_ + b))) 1)) (y_shr rfl rfl (by decide)) ?_
 refine pl_val (.int .i64 (w64 (ishr .u64 (IntKind.u64.wrap (w64 (a_ + b))) 1))) (y_conv_int Try.underlying119 Try.underlying3 rfl) ?_
 refine pl_val (.int .i64 (w64 (ishr .u64 (IntKind.u64.wrap (w64 (a_ + b))) 1))) (y_assign rfl) ?_
 refine c_nil ?_
 refine c_sr ?_
 refine pl_val (.int .i64 (w64 (ishr .u64 (IntKind.u64.wrap (w64 (a_ + b))) 1))) (y_move rfl) ?_
 refine pl_val (.int .i64 m) (y_move rfl) ?_
 refine pl_val (.int .i64 (w64 ((w64 (ishr .u64 (IntKind.u64.wrap (w64 (a_ + b))) 1)) + m))) (y_add rfl rfl) ?_
 refine pl_val (.int .i64 (w64 ((w64 (ishr .u64 (IntKind.u64.wrap (w64 (a_ + b))) 1)) + m))) (y_assign rfl) ?_
 refine c_nil ?_
 refine c_sr ?_
 refine pl_val (.int .i64 0) (y_assign rfl) ?_
 refine pl_val (.int .i64 0) (y_assign rfl) ?_
 refine c_nil ?_
 refine c_seq ?_
 refine c_sr ?_
 refine pl_val (.int .i64 m) (y_move rfl) ?_
 refine pl_val (.int .i64 (w64 (ishr .u64 (IntKind.u64.wrap (w64 (a_ + b))) 1))) (y_move rfl) ?_
 refine pl_val (.bool (decide ((w64 (ishr .u64 (IntKind.u64.wrap (w64 (a_ + b))) 1)) < m))) (y_gtr rfl rfl) ?_
 refine c_nil ?_
 obtain ⟨s65, g5, hs⟩ := bind_some hs
 refine c_mid (I := fun a b4 => ∃ (σ : Nat → Value), a = fr 177 (ovl σ [(1, (.int .i64 a_)), (2, (.int .i64 m)), (3, (.int .i64 b)), (4, (.pointer (some ⟨a1, 0, none⟩))), (16, (.int .i64 (w64 (ishr .u64 (IntKind.u64.wrap (w64 (a_ + b))) 1)))), (17, (.int .i64 (w64 ((w64 (ishr .u64 (IntKind.u64.wrap (w64 (a_ + b))) 1)) + m)))), (18, (.int .i64 s65.1)), (19, (.int .i64 s65.2))]) ∧ Chg (G_ ++ ([])) w b4 ∧ Own (Nw w (G_ ++ ([]))) M b4 (([a1]) ++ (G_ ++ [])) ∧ I_ b4 d_ ∧ BoxV b4 a1 136 [(.func (.func g_) #[] lb_), (.func (.func sf_) #[] sb_)]) ?_ ?_
 ·replace hs := g5
  rcases bif_some hs with ⟨d4, hs⟩ | ⟨d4, hs⟩
  ·refine c_condT (congrArg Value.bool d4) ?_
   refine c_sr ?_
   refine pl_val (.int .i64 (w64 ((w64 (ishr .u64 (IntKind.u64.wrap (w64 (a_ + b))) 1)) + m))) (y_move rfl) ?_
   refine pl_val (.int .i64 b) (y_move rfl) ?_
   refine pl_val (.int .i64 (w64 ((w64 ((w64 (ishr .u64 (IntKind.u64.wrap (w64 (a_ + b))) 1)) + m)) - b))) (y_sub rfl rfl) ?_
   refine pl_val (.int .i64 (w64 ((w64 ((w64 (ishr .u64 (IntKind.u64.wrap (w64 (a_ + b))) 1)) + m)) - b))) (y_assign rfl) ?_
   refine c_nil ?_
   refine c_region ?_
   refine pl_val (.int .i64 (w64 (ishr .u64 (IntKind.u64.wrap (w64 (a_ + b))) 1))) (y_move rfl) ?_
   refine pl_val (.int .i64 (w64 (ishr .u64 (IntKind.u64.wrap (w64 (a_ + b))) 1))) (y_assign rfl) ?_
   refine c_nil ?_
   cases hs
   have hO := hO.fr1
   have hO := hO.fr1
   exact ⟨_, fr_ovl 177 ⟨rfl, rfl, rfl, rfl, rfl, rfl, rfl, rfl, trivial⟩, hC, hO, hI_, a0⟩
  refine c_condF (congrArg Value.bool d4) ?_
  refine c_sr ?_
  refine pl_val (.int .i64 a_) (y_move rfl) ?_
  refine pl_val (.int .i64 a_) (y_assign rfl) ?_
  refine c_nil ?_
  refine c_region ?_
  refine pl_val (.int .i64 m) (y_move rfl) ?_
  refine pl_val (.int .i64 m) (y_assign rfl) ?_
  refine c_nil ?_
  cases hs
  have hO := hO.fr1
  have hO := hO.fr1
  exact ⟨_, fr_ovl 177 ⟨rfl, rfl, rfl, rfl, rfl, rfl, rfl, rfl, trivial⟩, hC, hO, hI_, a0⟩
 rintro a2 b4 ⟨σ, rfl, hC, hO, hI_, a0⟩
 refine c_sr ?_
 refine pl_val (.int .i64 (w64 ((w64 (ishr .u64 (IntKind.u64.wrap (w64 (a_ + b))) 1)) + m))) (y_move rfl) ?_
 refine pl_val (.int .i64 (w64 ((w64 ((w64 (ishr .u64 (IntKind.u64.wrap (w64 (a_ + b))) 1)) + m)) - 1))) (y_sub rfl rfl) ?_
 refine pl_val (.int .i64 (w64 ((w64 ((w64 (ishr .u64 (IntKind.u64.wrap (w64 (a_ + b))) 1)) + m)) - 1))) (y_assign rfl) ?_
 refine c_nil ?_
 refine c_seq ?_
 obtain ⟨o77, g6, hs⟩ := bind_some hs
 refine wp_block ?_
 refine wp_iter (id := 8) (I := fun s73 a a3 => ∃ (σ : Nat → Value), a = fr 177 (ovl σ [(1, (.int .i64 a_)), (2, (.int .i64 m)), (3, (.int .i64 b)), (4, (.pointer (some ⟨a1, 0, none⟩))), (16, (.int .i64 (w64 (ishr .u64 (IntKind.u64.wrap (w64 (a_ + b))) 1)))), (17, (.int .i64 (w64 ((w64 (ishr .u64 (IntKind.u64.wrap (w64 (a_ + b))) 1)) + m)))), (18, (.int .i64 s73.1)), (19, (.int .i64 s73.2)), (20, (.int .i64 (w64 ((w64 ((w64 (ishr .u64 (IntKind.u64.wrap (w64 (a_ + b))) 1)) + m)) - 1))))]) ∧ Chg (G_ ++ ([])) w a3 ∧ Own (Nw w (G_ ++ ([]))) M a3 (([a1]) ++ (G_ ++ [])) ∧ I_ a3 d_ ∧ BoxV a3 a1 136 [(.func (.func g_) #[] lb_), (.func (.func sf_) #[] sb_)]) (J := fun s73 a a3 => ∃ (σ : Nat → Value), a = fr 177 (ovl σ [(1, (.int .i64 a_)), (2, (.int .i64 m)), (3, (.int .i64 b)), (4, (.pointer (some ⟨a1, 0, none⟩))), (16, (.int .i64 (w64 (ishr .u64 (IntKind.u64.wrap (w64 (a_ + b))) 1)))), (17, (.int .i64 (w64 ((w64 (ishr .u64 (IntKind.u64.wrap (w64 (a_ + b))) 1)) + m)))), (18, (.int .i64 s73.1))]) ∧ Chg (G_ ++ ([])) w a3 ∧ Own (Nw w (G_ ++ ([]))) M a3 (([a1]) ++ (G_ ++ [])) ∧ I_ a3 d_ ∧ BoxV a3 a1 136 [(.func (.func g_) #[] lb_), (.func (.func sf_) #[] sb_)]) (K := (k_sort_symMerge_func M w I_ G_)) ?_ FU (s65.1, s65.2) o77 _ _ ?_ g6 ?_
 ·rintro s73 o77 a a3 ⟨σ, rfl, hC, hO, hI_, a0⟩ hs
  refine c_seq ?_
  refine c_sr ?_
  refine pl_val (.int .i64 s73.1) (y_move rfl) ?_
  refine pl_val (.int .i64 s73.2) (y_move rfl) ?_
  refine pl_val (.bool (decide (s73.1 < s73.2))) (y_lss rfl rfl) ?_
  refine c_nil ?_
  rcases bif_some hs with ⟨d5, hs⟩ | ⟨d5, hs⟩
  ·refine c_condT (congrArg Value.bool d5) ?_
   refine wp_skip ?_
   refine wp_block ?_
   refine c_sr ?_
   refine pl_val (.int .i64 s73.1) (y_move rfl) ?_
   refine pl_val (.int .i64 s73.2) (y_move rfl) ?_
   refine pl_val (.int .i64 (w64 (s73.1 + s73.2))) (y_add rfl rfl) ?_
   refine pl_val (.int .u64 (IntKind.u64.wrap (w64 (s73.1 + s73.2)))) (y_conv_int Try.underlying3 Try.underlying119 rfl) ?_
   refine pl_val (.int .u64 (ishr .u64 (IntKind.u64.wrap (w64 (s73.1 + s73.2))) 1)) (y_shr rfl rfl (by decide)) ?_
   refine pl_val (.int .i64 (w64 (ishr .u64 (IntKind.u64.wrap (w64 (s73.1 + s73.2))) 1))) (y_conv_int Try.underlying119 Try.underlying3 rfl) ?_
   refine pl_val (.int .i64 (w64 (ishr .u64 (IntKind.u64.wrap (w64 (s73.1 + s73.2))) 1))) (y_assign rfl) ?_
   refine c_nil ?_
   refine c_sr ?_
   refine pl_val (.pointer (some ⟨a1, 0, none⟩)) (y_faddr rfl Fa136x0) ?_
   refine pl_val (.func (.func g_) #[] lb_) (y_load rfl ((box_load Ag125 Sz125 a0 [] [(.func (.func g_) #[] lb_)] [(.func (.func sf_) #[] sb_)] rfl rfl (fun _ => rfl)) _ (Chg.refl _ _))) ?_
   refine pl_val (.int .i64 (w64 ((w64 ((w64 (ishr .u64 (IntKind.u64.wrap (w64 (a_ + b))) 1)) + m)) - 1))) (y_move rfl) ?_
   refine pl_val (.int .i64 (w64 (ishr .u64 (IntKind.u64.wrap (w64 (s73.1 + s73.2))) 1))) (y_move rfl) ?_
   refine pl_val (.int .i64 (w64 ((w64 ((w64 ((w64 (ishr .u64 (IntKind.u64.wrap (w64 (a_ + b))) 1)) + m)) - 1)) - (w64 (ishr .u64 (IntKind.u64.wrap (w64 (s73.1 + s73.2))) 1))))) (y_sub rfl rfl) ?_
   refine pl_val (.int .i64 (w64 (ishr .u64 (IntKind.u64.wrap (w64 (s73.1 + s73.2))) 1))) (y_move rfl) ?_
   obtain ⟨r81, g7, hs⟩ := bind_some hs
   refine pl_callb rfl hE_.bod rfl (hE_.less hI_ g7) ?_
   rintro _ i1 ⟨rfl, b7⟩
   have hI_ := hE_.ext hI_ b7 (fun _ h => nomatch h)
   have a0 := a0.cn b7
   have hC := hC.ext b7
   have hO := hO.ext b7
   refine pl_val (.bool (!r81)) (y_not rfl) ?_
   refine c_nil ?_
   rcases bif_some hs with ⟨d6, hs⟩ | ⟨d6, hs⟩
   ·refine c_condT (congrArg Value.bool d6) ?_
    refine c_region ?_
    refine pl_val (.int .i64 (w64 (ishr .u64 (IntKind.u64.wrap (w64 (s73.1 + s73.2))) 1))) (y_move rfl) ?_
    refine pl_val (.int .i64 (w64 ((w64 (ishr .u64 (IntKind.u64.wrap (w64 (s73.1 + s73.2))) 1)) + 1))) (y_add rfl rfl) ?_
    refine pl_val (.int .i64 (w64 ((w64 (ishr .u64 (IntKind.u64.wrap (w64 (s73.1 + s73.2))) 1)) + 1))) (y_assign rfl) ?_
    refine c_nil ?_
    cases hs
    have hO := hO.fr1
    have hO := hO.fr1
    exact ⟨_, fr_ovl 177 ⟨rfl, rfl, rfl, rfl, rfl, rfl, rfl, rfl, rfl, trivial⟩, hC, hO, hI_, a0⟩
   refine c_condF (congrArg Value.bool d6) ?_
   refine c_region ?_
   refine pl_val (.int .i64 (w64 (ishr .u64 (IntKind.u64.wrap (w64 (s73.1 + s73.2))) 1))) (y_move rfl) ?_
   refine pl_val (.int .i64 (w64 (ishr .u64 (IntKind.u64.wrap (w64 (s73.1 + s73.2))) 1))) (y_assign rfl) ?_
   refine c_nil ?_
   cases hs
   have hO := hO.fr1
   have hO := hO.fr1
   exact ⟨_, fr_ovl 177 ⟨rfl, rfl, rfl, rfl, rfl, rfl, rfl, rfl, rfl, trivial⟩, hC, hO, hI_, a0⟩
  refine c_condF (congrArg Value.bool d5) ?_
  refine wp_exit ?_
  cases hs
  have hO := hO.fr1
  have hO := hO.fr1
  exact ⟨rfl, _, fr_ovl 177 ⟨rfl, rfl, rfl, rfl, rfl, rfl, rfl, trivial⟩, hC, hO, hI_, a0⟩
 ·skip
  have hO := hO.fr1
  have hO := hO.fr1
  exact ⟨_, fr_ovl 177 ⟨rfl, rfl, rfl, rfl, rfl, rfl, rfl, rfl, rfl, trivial⟩, hC, hO, hI_, a0⟩
 cases o77 with
 | nx _ => exact True.intro
 | rt r_ =>
  have hs := after_rt hs
  intro a2 b1 hK
  cases hs
  exact hK
 | br s73 =>
  have hs := after_br hs
  rintro a2 a3 ⟨σ, rfl, hC, hO, hI_, a0⟩
  refine c_sr ?_
  refine pl_val (.int .i64 (w64 ((w64 (ishr .u64 (IntKind.u64.wrap (w64 (a_ + b))) 1)) + m))) (y_move rfl) ?_
  refine pl_val (.int .i64 s73.1) (y_move rfl) ?_
  refine pl_val (.int .i64 (w64 ((w64 ((w64 (ishr .u64 (IntKind.u64.wrap (w64 (a_ + b))) 1)) + m)) - s73.1))) (y_sub rfl rfl) ?_
  refine pl_val (.int .i64 (w64 ((w64 ((w64 (ishr .u64 (IntKind.u64.wrap (w64 (a_ + b))) 1)) + m)) - s73.1))) (y_assign rfl) ?_
  refine c_nil ?_
  refine c_seq ?_
  refine c_seq ?_
  refine c_mid (I := fun a e5 => ∃ (σ : Nat → Value), a = fr 177 (ovl σ [(1, (.int .i64 a_)), (2, (.int .i64 m)), (3, (.int .i64 b)), (4, (.pointer (some ⟨a1, 0, none⟩))), (16, (.int .i64 (w64 (ishr .u64 (IntKind.u64.wrap (w64 (a_ + b))) 1)))), (18, (.int .i64 s73.1)), (22, (.int .i64 (w64 ((w64 ((w64 (ishr .u64 (IntKind.u64.wrap (w64 (a_ + b))) 1)) + m)) - s73.1)))), (145, (.bool ((decide (s73.1 < m)) && (decide (m < (w64 ((w64 ((w64 (ishr .u64 (IntKind.u64.wrap (w64 (a_ + b))) 1)) + m)) - s73.1)))))))]) ∧ Chg [] a3 e5) ?_ ?_
  ·have hMid := Chg.refl [] a3
   refine c_region ?_
   refine pl_val (.int .i64 s73.1) (y_move rfl) ?_
   refine pl_val (.int .i64 m) (y_move rfl) ?_
   refine pl_val (.bool (decide (s73.1 < m))) (y_lss rfl rfl) ?_
   refine pl_val (.bool (decide (s73.1 < m))) (y_move rfl) ?_
   rcases Bool.eq_false_or_eq_true ((decide (s73.1 < m))) with a8 | a8
   ·skip
    refine pl_yes (.int .i64 m) (tg := 141) (by kernel_rfl) (congrArg Value.bool a8) (y_move rfl) ?_
    refine pl_yes (.int .i64 (w64 ((w64 ((w64 (ishr .u64 (IntKind.u64.wrap (w64 (a_ + b))) 1)) + m)) - s73.1))) (tg := 141) (by kernel_rfl) (congrArg Value.bool a8) (y_move rfl) ?_
    refine pl_yes (.bool (decide (m < (w64 ((w64 ((w64 (ishr .u64 (IntKind.u64.wrap (w64 (a_ + b))) 1)) + m)) - s73.1))))) (tg := 141) (by kernel_rfl) (congrArg Value.bool a8) (y_lss rfl rfl) ?_
    refine pl_val (.bool ((decide (s73.1 < m)) && (decide (m < (w64 ((w64 ((w64 (ishr .u64 (IntKind.u64.wrap (w64 (a_ + b))) 1)) + m)) - s73.1)))))) (y_pick_t (congrArg Value.bool a8) (congrArg Value.bool (by rw [a8]; rfl))) ?_
    refine c_nil ?_
    exact ⟨_, fr_ovl 177 ⟨rfl, rfl, rfl, rfl, rfl, rfl, rfl, rfl, trivial⟩, hMid⟩
   refine pl_not (tg := 141) (by kernel_rfl) (congrArg Value.bool a8) ?_
   refine pl_not (tg := 141) (by kernel_rfl) (congrArg Value.bool a8) ?_
   refine pl_not (tg := 141) (by kernel_rfl) (congrArg Value.bool a8) ?_
   refine pl_val (.bool ((decide (s73.1 < m)) && (decide (m < (w64 ((w64 ((w64 (ishr .u64 (IntKind.u64.wrap (w64 (a_ + b))) 1)) + m)) - s73.1)))))) (y_pick_f (congrArg Value.bool a8) (congrArg Value.bool (by rw [a8]; rfl))) ?_
   refine c_nil ?_
   exact ⟨_, fr_ovl 177 ⟨rfl, rfl, rfl, rfl, rfl, rfl, rfl, rfl, trivial⟩, hMid⟩
  rintro a2 e5 ⟨σ, rfl, b8⟩
  have hI_ := hE_.ext hI_ b8 (fun _ h => nomatch h)
  have a0 := a0.cn b8
  have hC := hC.ext b8
  have hO := hO.ext b8
  obtain ⟨s91, g8, hs⟩ := bind_some hs
  refine c_mid (I := fun a b2 => ∃ (σ : Nat → Value), a = fr 177 (ovl σ [(1, (.int .i64 a_)), (3, (.int .i64 b)), (4, (.pointer (some ⟨a1, 0, none⟩))), (16, (.int .i64 (w64 (ishr .u64 (IntKind.u64.wrap (w64 (a_ + b))) 1)))), (18, (.int .i64 s73.1)), (22, (.int .i64 (w64 ((w64 ((w64 (ishr .u64 (IntKind.u64.wrap (w64 (a_ + b))) 1)) + m)) - s73.1))))]) ∧ Chg (G_ ++ ([])) w b2 ∧ Own (Nw w (G_ ++ ([]))) M b2 (([a1]) ++ (G_ ++ [])) ∧ I_ b2 s91 ∧ BoxV b2 a1 136 [(.func (.func g_) #[] lb_), (.func (.func sf_) #[] sb_)]) ?_ ?_
  ·replace hs := g8
   rcases bif_some hs with ⟨d7, hs⟩ | ⟨d7, hs⟩
   ·refine c_condT (congrArg Value.bool d7) ?_
    refine c_region ?_
    refine pl_val (.agg #[(.func (.func g_) #[] lb_), (.func (.func sf_) #[] sb_)]) (y_load rfl ((box_load Ag136 Sz136 a0 [] [(.func (.func g_) #[] lb_), (.func (.func sf_) #[] sb_)] [] rfl rfl (fun h => nomatch h)) _ (Chg.refl _ _))) ?_
    refine pl_val (.int .i64 s73.1) (y_move rfl) ?_
    refine pl_val (.int .i64 m) (y_move rfl) ?_
    refine pl_val (.int .i64 (w64 ((w64 ((w64 (ishr .u64 (IntKind.u64.wrap (w64 (a_ + b))) 1)) + m)) - s73.1))) (y_move rfl) ?_
    have hO := hO.fr1
    have g9 := Own.lend (F := (G_ ++ ([]))) (R := ([a1]) ++ ([])) (Own.perm hO (by simp))
    obtain ⟨r97, h0, hs⟩ := bind_some hs
    refine pl_call Bd132 rfl (c_sort_rotate_func (M := M) ls_ d_ s73.1 m (w64 ((w64 ((w64 (ishr .u64 (IntKind.u64.wrap (w64 (a_ + b))) 1)) + m)) - s73.1)) (Nat.le_trans hN_ hC.size) hE_ hI_ g9 hO.fut h0) ?_
    rintro _ i2 ⟨rfl, d8, h1⟩
    have a0 := a0.ap d8 hO nil_mem (mem_l (List.mem_singleton.2 rfl))
    have hC := hC.st d8 hO nil_mem
    have hO := hO.ext d8
    refine c_nil ?_
    cases hs
    have hO := hO.fr1
    exact ⟨_, fr_ovl 177 ⟨rfl, rfl, rfl, rfl, rfl, rfl, trivial⟩, hC, hO, h1, a0⟩
   refine c_condF (congrArg Value.bool d7) ?_
   refine wp_skip ?_
   cases hs
   have hO := hO.fr1
   have hO := hO.fr1
   exact ⟨_, fr_ovl 177 ⟨rfl, rfl, rfl, rfl, rfl, rfl, trivial⟩, hC, hO, hI_, a0⟩
  rintro a2 b2 ⟨σ, rfl, hC, hO, b9, a0⟩
  refine c_seq ?_
  refine c_seq ?_
  refine c_mid (I := fun a e6 => ∃ (σ : Nat → Value), a = fr 177 (ovl σ [(1, (.int .i64 a_)), (3, (.int .i64 b)), (4, (.pointer (some ⟨a1, 0, none⟩))), (16, (.int .i64 (w64 (ishr .u64 (IntKind.u64.wrap (w64 (a_ + b))) 1)))), (18, (.int .i64 s73.1)), (22, (.int .i64 (w64 ((w64 ((w64 (ishr .u64 (IntKind.u64.wrap (w64 (a_ + b))) 1)) + m)) - s73.1)))), (158, (.bool ((decide (a_ < s73.1)) && (decide (s73.1 < (w64 (ishr .u64 (IntKind.u64.wrap (w64 (a_ + b))) 1)))))))]) ∧ Chg [] b2 e6) ?_ ?_
  ·have hMid := Chg.refl [] b2
   refine c_region ?_
   refine pl_val (.int .i64 a_) (y_move rfl) ?_
   refine pl_val (.int .i64 s73.1) (y_move rfl) ?_
   refine pl_val (.bool (decide (a_ < s73.1))) (y_lss rfl rfl) ?_
   refine pl_val (.bool (decide (a_ < s73.1))) (y_move rfl) ?_
   rcases Bool.eq_false_or_eq_true ((decide (a_ < s73.1))) with a9 | a9
   ·skip
    refine pl_yes (.int .i64 s73.1) (tg := 154) (by kernel_rfl) (congrArg Value.bool a9) (y_move rfl) ?_
    refine pl_yes (.int .i64 (w64 (ishr .u64 (IntKind.u64.wrap (w64 (a_ + b))) 1))) (tg := 154) (by kernel_rfl) (congrArg Value.bool a9) (y_move rfl) ?_
    refine pl_yes (.bool (decide (s73.1 < (w64 (ishr .u64 (IntKind.u64.wrap (w64 (a_ + b))) 1))))) (tg := 154) (by kernel_rfl) (congrArg Value.bool a9) (y_lss rfl rfl) ?_
    refine pl_val (.bool ((decide (a_ < s73.1)) && (decide (s73.1 < (w64 (ishr .u64 (IntKind.u64.wrap (w64 (a_ + b))) 1)))))) (y_pick_t (congrArg Value.bool a9) (congrArg Value.bool (by rw [a9]; rfl))) ?_
    refine c_nil ?_
    exact ⟨_, fr_ovl 177 ⟨rfl, rfl, rfl, rfl, rfl, rfl, rfl, trivial⟩, hMid⟩
   refine pl_not (tg := 154) (by kernel_rfl) (congrArg Value.bool a9) ?_
   refine pl_not (tg := 154) (by kernel_rfl) (congrArg Value.bool a9) ?_
   refine pl_not (tg := 154) (by kernel_rfl) (congrArg Value.bool a9) ?_
   refine pl_val (.bool ((decide (a_ < s73.1)) && (decide (s73.1 < (w64 (ishr .u64 (IntKind.u64.wrap (w64 (a_ + b))) 1)))))) (y_pick_f (congrArg Value.bool a9) (congrArg Value.bool (by rw [a9]; rfl))) ?_
   refine c_nil ?_
   exact ⟨_, fr_ovl 177 ⟨rfl, rfl, rfl, rfl, rfl, rfl, rfl, trivial⟩, hMid⟩
  rintro a2 e6 ⟨σ, rfl, c0⟩
  have b9 := hE_.ext b9 c0 (fun _ h => nomatch h)
  have a0 := a0.cn c0
  have hC := hC.ext c0
  have hO := hO.ext c0
  obtain ⟨s106, h2, hs⟩ := bind_some hs
  refine c_mid (I := fun a b3 => ∃ (σ : Nat → Value), a = fr 177 (ovl σ [(3, (.int .i64 b)), (4, (.pointer (some ⟨a1, 0, none⟩))), (16, (.int .i64 (w64 (ishr .u64 (IntKind.u64.wrap (w64 (a_ + b))) 1)))), (22, (.int .i64 (w64 ((w64 ((w64 (ishr .u64 (IntKind.u64.wrap (w64 (a_ + b))) 1)) + m)) - s73.1))))]) ∧ Chg (G_ ++ ([])) w b3 ∧ Own (Nw w (G_ ++ ([]))) M b3 (([a1]) ++ (G_ ++ [])) ∧ I_ b3 s106 ∧ BoxV b3 a1 136 [(.func (.func g_) #[] lb_), (.func (.func sf_) #[] sb_)]) ?_ ?_
  ·replace hs := h2
   rcases bif_some hs with ⟨d9, hs⟩ | ⟨d9, hs⟩
   ·refine c_condT (congrArg Value.bool d9) ?_
    refine c_region ?_
    refine pl_val (.agg #[(.func (.func g_) #[] lb_), (.func (.func sf_) #[] sb_)]) (y_load rfl ((box_load Ag136 Sz136 a0 [] [(.func (.func g_) #[] lb_), (.func (.func sf_) #[] sb_)] [] rfl rfl (fun h => nomatch h)) _ (Chg.refl _ _))) ?_
    refine pl_val (.int .i64 a_) (y_move rfl) ?_
    refine pl_val (.int .i64 s73.1) (y_move rfl) ?_
    refine pl_val (.int .i64 (w64 (ishr .u64 (IntKind.u64.wrap (w64 (a_ + b))) 1))) (y_move rfl) ?_
    have hO := hO.fr1
    have h3 := Own.lend (F := (G_ ++ ([]))) (R := ([a1]) ++ ([])) (Own.perm hO (by simp))
    obtain ⟨r112, h4, hs⟩ := bind_some hs
    refine pl_call Bd131 rfl (c_ih (M := M) ls_ s91 a_ s73.1 (w64 (ishr .u64 (IntKind.u64.wrap (w64 (a_ + b))) 1)) (Nat.le_trans hN_ hC.size) hE_ b9 h3 hO.fut h4) ?_
    rintro _ i3 ⟨rfl, e0, h5⟩
    have a0 := a0.ap e0 hO nil_mem (mem_l (List.mem_singleton.2 rfl))
    have hC := hC.st e0 hO nil_mem
    have hO := hO.ext e0
    refine c_nil ?_
    cases hs
    have hO := hO.fr1
    exact ⟨_, fr_ovl 177 ⟨rfl, rfl, rfl, rfl, trivial⟩, hC, hO, h5, a0⟩
   refine c_condF (congrArg Value.bool d9) ?_
   refine wp_skip ?_
   cases hs
   have hO := hO.fr1
   have hO := hO.fr1
   exact ⟨_, fr_ovl 177 ⟨rfl, rfl, rfl, rfl, trivial⟩, hC, hO, b9, a0⟩
  rintro a2 b3 ⟨σ, rfl, hC, hO, c1, a0⟩
  refine c_seq ?_
  refine c_mid (I := fun a e7 => ∃ (σ : Nat → Value), a = fr 177 (ovl σ [(3, (.int .i64 b)), (4, (.pointer (some ⟨a1, 0, none⟩))), (16, (.int .i64 (w64 (ishr .u64 (IntKind.u64.wrap (w64 (a_ + b))) 1)))), (22, (.int .i64 (w64 ((w64 ((w64 (ishr .u64 (IntKind.u64.wrap (w64 (a_ + b))) 1)) + m)) - s73.1)))), (171, (.bool ((decide ((w64 (ishr .u64 (IntKind.u64.wrap (w64 (a_ + b))) 1)) < (w64 ((w64 ((w64 (ishr .u64 (IntKind.u64.wrap (w64 (a_ + b))) 1)) + m)) - s73.1)))) && (decide ((w64 ((w64 ((w64 (ishr .u64 (IntKind.u64.wrap (w64 (a_ + b))) 1)) + m)) - s73.1)) < b)))))]) ∧ Chg [] b3 e7) ?_ ?_
  ·have hMid := Chg.refl [] b3
   refine c_region ?_
   refine pl_val (.int .i64 (w64 (ishr .u64 (IntKind.u64.wrap (w64 (a_ + b))) 1))) (y_move rfl) ?_
   refine pl_val (.int .i64 (w64 ((w64 ((w64 (ishr .u64 (IntKind.u64.wrap (w64 (a_ + b))) 1)) + m)) - s73.1))) (y_move rfl) ?_
   refine pl_val (.bool (decide ((w64 (ishr .u64 (IntKind.u64.wrap (w64 (a_ + b))) 1)) < (w64 ((w64 ((w64 (ishr .u64 (IntKind.u64.wrap (w64 (a_ + b))) 1)) + m)) - s73.1))))) (y_lss rfl rfl) ?_
   refine pl_val (.bool (decide ((w64 (ishr .u64 (IntKind.u64.wrap (w64 (a_ + b))) 1)) < (w64 ((w64 ((w64 (ishr .u64 (IntKind.u64.wrap (w64 (a_ + b))) 1)) + m)) - s73.1))))) (y_move rfl) ?_
   rcases Bool.eq_false_or_eq_true ((decide ((w64 (ishr .u64 (IntKind.u64.wrap (w64 (a_ + b))) 1)) < (w64 ((w64 ((w64 (ishr .u64 (IntKind.u64.wrap (w64 (a_ + b))) 1)) + m)) - s73.1))))) with b0 | b0
   ·skip
    refine pl_yes (.int .i64 (w64 ((w64 ((w64 (ishr .u64 (IntKind.u64.wrap (w64 (a_ + b))) 1)) + m)) - s73.1))) (tg := 167) (by kernel_rfl) (congrArg Value.bool b0) (y_move rfl) ?_
    refine pl_yes (.int .i64 b) (tg := 167) (by kernel_rfl) (congrArg Value.bool b0) (y_move rfl) ?_
    refine pl_yes (.bool (decide ((w64 ((w64 ((w64 (ishr .u64 (IntKind.u64.wrap (w64 (a_ + b))) 1)) + m)) - s73.1)) < b))) (tg := 167) (by kernel_rfl) (congrArg Value.bool b0) (y_lss rfl rfl) ?_
    refine pl_val (.bool ((decide ((w64 (ishr .u64 (IntKind.u64.wrap (w64 (a_ + b))) 1)) < (w64 ((w64 ((w64 (ishr .u64 (IntKind.u64.wrap (w64 (a_ + b))) 1)) + m)) - s73.1)))) && (decide ((w64 ((w64 ((w64 (ishr .u64 (IntKind.u64.wrap (w64 (a_ + b))) 1)) + m)) - s73.1)) < b)))) (y_pick_t (congrArg Value.bool b0) (congrArg Value.bool (by rw [b0]; rfl))) ?_
    refine c_nil ?_
    exact ⟨_, fr_ovl 177 ⟨rfl, rfl, rfl, rfl, rfl, trivial⟩, hMid⟩
   refine pl_not (tg := 167) (by kernel_rfl) (congrArg Value.bool b0) ?_
   refine pl_not (tg := 167) (by kernel_rfl) (congrArg Value.bool b0) ?_
   refine pl_not (tg := 167) (by kernel_rfl) (congrArg Value.bool b0) ?_
   refine pl_val (.bool ((decide ((w64 (ishr .u64 (IntKind.u64.wrap (w64 (a_ + b))) 1)) < (w64 ((w64 ((w64 (ishr .u64 (IntKind.u64.wrap (w64 (a_ + b))) 1)) + m)) - s73.1)))) && (decide ((w64 ((w64 ((w64 (ishr .u64 (IntKind.u64.wrap (w64 (a_ + b))) 1)) + m)) - s73.1)) < b)))) (y_pick_f (congrArg Value.bool b0) (congrArg Value.bool (by rw [b0]; rfl))) ?_
   refine c_nil ?_
   exact ⟨_, fr_ovl 177 ⟨rfl, rfl, rfl, rfl, rfl, trivial⟩, hMid⟩
  rintro a2 e7 ⟨σ, rfl, c2⟩
  have c1 := hE_.ext c1 c2 (fun _ h => nomatch h)
  have a0 := a0.cn c2
  have hC := hC.ext c2
  have hO := hO.ext c2
  rcases bif_some hs with ⟨e1, hs⟩ | ⟨e1, hs⟩
  ·refine c_condT (congrArg Value.bool e1) ?_
   refine c_region ?_
   refine pl_val (.agg #[(.func (.func g_) #[] lb_), (.func (.func sf_) #[] sb_)]) (y_load rfl ((box_load Ag136 Sz136 a0 [] [(.func (.func g_) #[] lb_), (.func (.func sf_) #[] sb_)] [] rfl rfl (fun h => nomatch h)) _ (Chg.refl _ _))) ?_
   refine pl_val (.int .i64 (w64 (ishr .u64 (IntKind.u64.wrap (w64 (a_ + b))) 1))) (y_move rfl) ?_
   refine pl_val (.int .i64 (w64 ((w64 ((w64 (ishr .u64 (IntKind.u64.wrap (w64 (a_ + b))) 1)) + m)) - s73.1))) (y_move rfl) ?_
   refine pl_val (.int .i64 b) (y_move rfl) ?_
   have hO := hO.fr1
   have h6 := Own.lend (F := (G_ ++ ([]))) (R := ([a1]) ++ ([])) (Own.perm hO (by simp))
   obtain ⟨r119, h7, hs⟩ := bind_some hs
   refine pl_call Bd131 rfl (c_ih (M := M) ls_ s106 (w64 (ishr .u64 (IntKind.u64.wrap (w64 (a_ + b))) 1)) (w64 ((w64 ((w64 (ishr .u64 (IntKind.u64.wrap (w64 (a_ + b))) 1)) + m)) - s73.1)) b (Nat.le_trans hN_ hC.size) hE_ c1 h6 hO.fut h7) ?_
   rintro _ i4 ⟨rfl, e2, h8⟩
   have a0 := a0.ap e2 hO nil_mem (mem_l (List.mem_singleton.2 rfl))
   have hC := hC.st e2 hO nil_mem
   have hO := hO.ext e2
   refine c_nil ?_
   cases hs
   exact ⟨_, fr_ovl 177 trivial, hC, h8⟩
  refine c_condF (congrArg Value.bool e1) ?_
  refine wp_skip ?_
  cases hs
  exact ⟨_, fr_ovl 177 trivial, hC, c1⟩

theorem Bd130 : Bodied Try.prog 130 := bodied Try.func130 (by kernel_rfl) rfl

def k_sort_stable_func (M : Nat → Prop) (w0 : World) {α_ : Type} (I_ : World → List α_ → Prop) (G_ : List Nat) (r : (List α_)) (a : Act) (w : World) : Prop :=
  ∃ (σ : Nat → Value) , a = fr 57 (ovl σ []) ∧ Chg (G_ ++ ([])) w0 w ∧ I_ w r
def s_sort_stable_func {α_ : Type} (ls_ : α_ → α_ → Option Bool) (d_ : List α_) (n : Int) : Option ((List α_)) :=
  (iter (S := Int × Int × (List α_)) (R := (List α_)) (fun s9 =>
  (bif (decide (s9.2.1 ≤ n)) then (s_sort_insertionSort_func ls_ s9.2.2 s9.1 s9.2.1).bind fun r19 =>
  some (.nx (s9.2.1, w64 (s9.2.1 + 20), r19)) else some (.br (s9.1, s9.2.1, s9.2.2)))) FU (0, 20, d_)).bind fun o13 => after o13 (fun r_ => some r_) (fun s9 =>
  (s_sort_insertionSort_func ls_ s9.2.2 s9.1 n).bind fun r21 =>
  (iter (S := Int × Int × Int × (List α_)) (R := (List α_)) (fun s67 =>
  (bif (decide (s67.1 < n)) then (iter (S := Int × Int × (List α_)) (R := (List α_)) (fun s83 =>
  (bif (decide (s83.2.1 ≤ n)) then (s_sort_symMerge_func FU ls_ s83.2.2 s83.1 (w64 (s83.1 + s67.1)) s83.2.1).bind fun r93 =>
  some (.nx (s83.2.1, w64 (s83.2.1 + (w64 (2 * s67.1))), r93)) else some (.br (s83.1, s83.2.1, s83.2.2)))) FU (0, w64 (2 * s67.1), s67.2.2.2)).bind fun o87 => after o87 (fun r_ => some (.rt r_)) (fun s83 =>
  (bif (decide ((w64 (s83.1 + s67.1)) < n)) then (s_sort_symMerge_func FU ls_ s83.2.2 s83.1 (w64 (s83.1 + s67.1)) n).bind fun r96 =>
  some (.nx (w64 (s67.1 * 2), s83.1, s83.2.1, r96)) else some (.nx (w64 (s67.1 * 2), s83.1, s83.2.1, s83.2.2)))) else some (.br (s67.1, s67.2.1, s67.2.2.1, s67.2.2.2)))) FU (20, s9.1, s9.2.1, r21)).bind fun o71 => after o71 (fun r_ => some r_) (fun s67 =>
  some s67.2.2.2))
set_option maxHeartbeats 4000000 in
theorem c_sort_stable_func {M : Nat → Prop} {w : World} {α_ : Type} {n0_ : Nat} {I_ : World → List α_ → Prop} {G_ : List Nat} {g_ sf_ : Nat} {lb_ sb_ : Array Value} (ls_ : α_ → α_ → Option Bool) (d_ : List α_) (n : Int) (hN_ : n0_ ≤ w.heap.size) (hE_ : Env Try.prog n0_ I_ G_ ls_ g_ lb_ sf_ sb_) (hI_ : I_ w d_) (hI : Own (Nw w (G_ ++ ([]))) M w (G_ ++ ([]))) (hM : ∀ g, w.heap.size ≤ g → M g) {r : (List α_)} (hs : s_sort_stable_func ls_ d_ n = some r) :
    Gives Try.prog 119 [(.agg #[(.func (.func g_) #[] lb_), (.func (.func sf_) #[] sb_)]), (.int .i64 n)] w (fun v w' => v = (.tuple #[]) ∧ Chg (G_ ++ ([])) w w' ∧ I_ w' r) := by
 refine calls_fr Try.func119 rfl Try.ntmps119 (Nat.le_of_ble_eq_true rfl) ?_
 have hO := hI
 have hC := Chg.refl (G_ ++ ([])) w
 unfold s_sort_stable_func at hs
 refine wp_mono (Q := KPostN (k_sort_stable_func M w I_ G_ r)) ?_ (fun e a a5 h => ?_)
 rotate_left
 ·cases e
  case ret =>
   obtain ⟨σ, rfl, hrest⟩ := h
   exact ret0x Try.results119  ⟨rfl, hrest⟩
  case normal =>
   obtain ⟨σ, rfl, hrest⟩ := h
   exact ret0n Try.results119  ⟨rfl, hrest⟩
  all_goals exact (h : False).elim
 refine c_sr ?_
 obtain ⟨a5, a1, c1, b6, a7, a0⟩ := new_block w [(.func (.func g_) #[] lb_), (.func (.func sf_) #[] sb_)] 136
 refine pl_val (w' := a5) (.pointer (some ⟨a1, 0, none⟩)) (y_box rfl (by rw [c1, b6]; kernel_rfl)) ?_
 have hI_ := hE_.ext hI_ a7 (fun _ h => nomatch h)
 have hC := hC.ext a7
 have hO := hO.new1 a7 b6 a0.lt
 refine c_nil ?_
 refine c_sr ?_
 refine pl_val (.int .i64 20) (y_assign rfl) ?_
 refine c_nil ?_
 refine c_sr ?_
 refine pl_val (.int .i64 20) (y_move rfl) ?_
 refine pl_val (.int .i64 0) (y_assign rfl) ?_
 refine pl_val (.int .i64 20) (y_assign rfl) ?_
 refine c_nil ?_
 refine c_seq ?_
 obtain ⟨o13, c2, hs⟩ := bind_some hs
 refine wp_block ?_
 refine wp_iter (id := 0) (I := fun s9 a a2 => ∃ (σ : Nat → Value), a = fr 57 (ovl σ [(1, (.int .i64 n)), (2, (.pointer (some ⟨a1, 0, none⟩))), (4, (.int .i64 20)), (5, (.int .i64 s9.1)), (6, (.int .i64 s9.2.1))]) ∧ Chg (G_ ++ ([])) w a2 ∧ Own (Nw w (G_ ++ ([]))) M a2 (([a1]) ++ (G_ ++ [])) ∧ I_ a2 s9.2.2 ∧ BoxV a2 a1 136 [(.func (.func g_) #[] lb_), (.func (.func sf_) #[] sb_)]) (J := fun s9 a a2 => ∃ (σ : Nat → Value), a = fr 57 (ovl σ [(1, (.int .i64 n)), (2, (.pointer (some ⟨a1, 0, none⟩))), (4, (.int .i64 20)), (5, (.int .i64 s9.1)), (6, (.int .i64 s9.2.1))]) ∧ Chg (G_ ++ ([])) w a2 ∧ Own (Nw w (G_ ++ ([]))) M a2 (([a1]) ++ (G_ ++ [])) ∧ I_ a2 s9.2.2 ∧ BoxV a2 a1 136 [(.func (.func g_) #[] lb_), (.func (.func sf_) #[] sb_)]) (K := (k_sort_stable_func M w I_ G_)) ?_ FU (0, 20, d_) o13 _ _ ?_ c2 ?_
 ·rintro s9 o13 a a2 ⟨σ, rfl, hC, hO, b7, a0⟩ hs
  refine c_seq ?_
  refine c_sr ?_
  refine pl_val (.int .i64 s9.2.1) (y_move rfl) ?_
  refine pl_val (.int .i64 n) (y_move rfl) ?_
  refine pl_val (.bool (decide (s9.2.1 ≤ n))) (y_leq rfl rfl) ?_
  refine c_nil ?_
  rcases bif_some hs with ⟨a8, hs⟩ | ⟨a8, hs⟩
  ·refine c_condT (congrArg Value.bool a8) ?_
   refine wp_skip ?_
   refine wp_block ?_
   refine c_sr ?_
   refine pl_val (.agg #[(.func (.func g_) #[] lb_), (.func (.func sf_) #[] sb_)]) (y_load rfl ((box_load Ag136 Sz136 a0 [] [(.func (.func g_) #[] lb_), (.func (.func sf_) #[] sb_)] [] rfl rfl (fun h => nomatch h)) _ (Chg.refl _ _))) ?_
   refine pl_val (.int .i64 s9.1) (y_move rfl) ?_
   refine pl_val (.int .i64 s9.2.1) (y_move rfl) ?_
   have hO := hO.fr1
   have c3 := Own.lend (F := (G_ ++ ([]))) (R := ([a1]) ++ ([])) (Own.perm hO (by simp))
   obtain ⟨r19, c4, hs⟩ := bind_some hs
   refine pl_call Bd130 rfl (c_sort_insertionSort_func (M := M) ls_ s9.2.2 s9.1 s9.2.1 (Nat.le_trans hN_ hC.size) hE_ b7 c3 hO.fut c4) ?_
   rintro _ d9 ⟨rfl, a9, c5⟩
   have a0 := a0.ap a9 hO nil_mem (mem_l (List.mem_singleton.2 rfl))
   have hC := hC.st a9 hO nil_mem
   have hO := hO.ext a9
   refine c_nil ?_
   refine c_sr ?_
   refine pl_val (.int .i64 s9.2.1) (y_move rfl) ?_
   refine pl_val (.int .i64 s9.2.1) (y_assign rfl) ?_
   refine c_nil ?_
   refine c_region ?_
   refine pl_val (.int .i64 s9.2.1) (y_move rfl) ?_
   refine pl_val (.int .i64 20) (y_move rfl) ?_
   refine pl_val (.int .i64 (w64 (s9.2.1 + 20))) (y_add rfl rfl) ?_
   refine pl_val (.int .i64 (w64 (s9.2.1 + 20))) (y_assign rfl) ?_
   refine c_nil ?_
   cases hs
   have hO := hO.fr1
   exact ⟨_, fr_ovl 57 ⟨rfl, rfl, rfl, rfl, rfl, trivial⟩, hC, hO, c5, a0⟩
  refine c_condF (congrArg Value.bool a8) ?_
  refine wp_exit ?_
  cases hs
  have hO := hO.fr1
  have hO := hO.fr1
  exact ⟨rfl, _, fr_ovl 57 ⟨rfl, rfl, rfl, rfl, rfl, trivial⟩, hC, hO, b7, a0⟩
 ·skip
  have hO := hO.fr1
  have hO := hO.fr1
  exact ⟨_, fr_ovl 57 ⟨rfl, rfl, rfl, rfl, rfl, trivial⟩, hC, hO, hI_, a0⟩
 cases o13 with
 | nx _ => exact True.intro
 | rt r_ =>
  have hs := after_rt hs
  intro a6 a5 hK
  cases hs
  exact hK
 | br s9 =>
  have hs := after_br hs
  rintro a6 a2 ⟨σ, rfl, hC, hO, c6, a0⟩
  refine c_sr ?_
  refine pl_val (.agg #[(.func (.func g_) #[] lb_), (.func (.func sf_) #[] sb_)]) (y_load rfl ((box_load Ag136 Sz136 a0 [] [(.func (.func g_) #[] lb_), (.func (.func sf_) #[] sb_)] [] rfl rfl (fun h => nomatch h)) _ (Chg.refl _ _))) ?_
  refine pl_val (.int .i64 s9.1) (y_move rfl) ?_
  refine pl_val (.int .i64 n) (y_move rfl) ?_
  have hO := hO.fr1
  have c7 := Own.lend (F := (G_ ++ ([]))) (R := ([a1]) ++ ([])) (Own.perm hO (by simp))
  obtain ⟨r21, c8, hs⟩ := bind_some hs
  refine pl_call Bd130 rfl (c_sort_insertionSort_func (M := M) ls_ s9.2.2 s9.1 n (Nat.le_trans hN_ hC.size) hE_ c6 c7 hO.fut c8) ?_
  rintro _ e0 ⟨rfl, b0, c9⟩
  have a0 := a0.ap b0 hO nil_mem (mem_l (List.mem_singleton.2 rfl))
  have hC := hC.st b0 hO nil_mem
  have hO := hO.ext b0
  refine c_nil ?_
  obtain ⟨o71, d0, hs⟩ := bind_some hs
  refine wp_block ?_
  refine wp_iter (id := 2) (I := fun s67 a a3 => ∃ (σ : Nat → Value), a = fr 57 (ovl σ [(1, (.int .i64 n)), (2, (.pointer (some ⟨a1, 0, none⟩))), (4, (.int .i64 s67.1)), (5, (.int .i64 s67.2.1)), (6, (.int .i64 s67.2.2.1))]) ∧ Chg (G_ ++ ([])) w a3 ∧ Own (Nw w (G_ ++ ([]))) M a3 (G_ ++ (([a1]) ++ [])) ∧ I_ a3 s67.2.2.2 ∧ BoxV a3 a1 136 [(.func (.func g_) #[] lb_), (.func (.func sf_) #[] sb_)]) (J := fun s67 a a3 => ∃ (σ : Nat → Value), a = fr 57 (ovl σ []) ∧ Chg (G_ ++ ([])) w a3 ∧ Own (Nw w (G_ ++ ([]))) M a3 (G_ ++ (([a1]) ++ [])) ∧ I_ a3 s67.2.2.2 ∧ BoxV a3 a1 136 [(.func (.func g_) #[] lb_), (.func (.func sf_) #[] sb_)]) (K := (k_sort_stable_func M w I_ G_)) ?_ FU (20, s9.1, s9.2.1, r21) o71 _ _ ?_ d0 ?_
  ·rintro s67 o71 a a3 ⟨σ, rfl, hC, hO, b8, a0⟩ hs
   refine c_seq ?_
   refine c_sr ?_
   refine pl_val (.int .i64 s67.1) (y_move rfl) ?_
   refine pl_val (.int .i64 n) (y_move rfl) ?_
   refine pl_val (.bool (decide (s67.1 < n))) (y_lss rfl rfl) ?_
   refine c_nil ?_
   rcases bif_some hs with ⟨b1, hs⟩ | ⟨b1, hs⟩
   ·refine c_condT (congrArg Value.bool b1) ?_
    refine wp_skip ?_
    refine wp_block ?_
    refine c_sr ?_
    refine pl_val (.int .i64 s67.1) (y_move rfl) ?_
    refine pl_val (.int .i64 (w64 (2 * s67.1))) (y_mul rfl rfl) ?_
    refine pl_val (.int .i64 0) (y_assign rfl) ?_
    refine pl_val (.int .i64 (w64 (2 * s67.1))) (y_assign rfl) ?_
    refine c_nil ?_
    refine c_seq ?_
    obtain ⟨o87, d1, hs⟩ := bind_some hs
    refine wp_block ?_
    refine wp_iter (id := 4) (I := fun s83 a a4 => ∃ (σ : Nat → Value), a = fr 57 (ovl σ [(1, (.int .i64 n)), (2, (.pointer (some ⟨a1, 0, none⟩))), (4, (.int .i64 s67.1)), (5, (.int .i64 s83.1)), (6, (.int .i64 s83.2.1))]) ∧ Chg (G_ ++ ([])) w a4 ∧ Own (Nw w (G_ ++ ([]))) M a4 (G_ ++ (([a1]) ++ [])) ∧ I_ a4 s83.2.2 ∧ BoxV a4 a1 136 [(.func (.func g_) #[] lb_), (.func (.func sf_) #[] sb_)]) (J := fun s83 a a4 => ∃ (σ : Nat → Value), a = fr 57 (ovl σ [(1, (.int .i64 n)), (2, (.pointer (some ⟨a1, 0, none⟩))), (4, (.int .i64 s67.1)), (5, (.int .i64 s83.1)), (6, (.int .i64 s83.2.1))]) ∧ Chg (G_ ++ ([])) w a4 ∧ Own (Nw w (G_ ++ ([]))) M a4 (G_ ++ (([a1]) ++ [])) ∧ I_ a4 s83.2.2 ∧ BoxV a4 a1 136 [(.func (.func g_) #[] lb_), (.func (.func sf_) #[] sb_)]) (K := (k_sort_stable_func M w I_ G_)) ?_ FU (0, w64 (2 * s67.1), s67.2.2.2) o87 _ _ ?_ d1 ?_
    ·rintro s83 o87 a a4 ⟨σ, rfl, hC, hO, b9, a0⟩ hs
     refine c_seq ?_
     refine c_sr ?_
     refine pl_val (.int .i64 s83.2.1) (y_move rfl) ?_
     refine pl_val (.int .i64 n) (y_move rfl) ?_
     refine pl_val (.bool (decide (s83.2.1 ≤ n))) (y_leq rfl rfl) ?_
     refine c_nil ?_
     rcases bif_some hs with ⟨b2, hs⟩ | ⟨b2, hs⟩
     ·refine c_condT (congrArg Value.bool b2) ?_
      refine wp_skip ?_
      refine wp_block ?_
      refine c_sr ?_
      refine pl_val (.agg #[(.func (.func g_) #[] lb_), (.func (.func sf_) #[] sb_)]) (y_load rfl ((box_load Ag136 Sz136 a0 [] [(.func (.func g_) #[] lb_), (.func (.func sf_) #[] sb_)] [] rfl rfl (fun h => nomatch h)) _ (Chg.refl _ _))) ?_
      refine pl_val (.int .i64 s83.1) (y_move rfl) ?_
      refine pl_val (.int .i64 s83.1) (y_move rfl) ?_
      refine pl_val (.int .i64 s67.1) (y_move rfl) ?_
      refine pl_val (.int .i64 (w64 (s83.1 + s67.1))) (y_add rfl rfl) ?_
      refine pl_val (.int .i64 s83.2.1) (y_move rfl) ?_
      have d2 := Own.lend (F := (G_ ++ ([]))) (R := ([a1]) ++ ([])) (Own.perm hO (by simp))
      obtain ⟨r93, d3, hs⟩ := bind_some hs
      refine pl_call Bd131 rfl (c_sort_symMerge_func (M := M) FU ls_ s83.2.2 s83.1 (w64 (s83.1 + s67.1)) s83.2.1 (Nat.le_trans hN_ hC.size) hE_ b9 d2 hO.fut d3) ?_
      rintro _ e1 ⟨rfl, b3, d4⟩
      have a0 := a0.ap b3 hO nil_mem (mem_l (List.mem_singleton.2 rfl))
      have hC := hC.st b3 hO nil_mem
      have hO := hO.ext b3
      refine c_nil ?_
      refine c_sr ?_
      refine pl_val (.int .i64 s83.2.1) (y_move rfl) ?_
      refine pl_val (.int .i64 s83.2.1) (y_assign rfl) ?_
      refine c_nil ?_
      refine c_region ?_
      refine pl_val (.int .i64 s83.2.1) (y_move rfl) ?_
      refine pl_val (.int .i64 s67.1) (y_move rfl) ?_
      refine pl_val (.int .i64 (w64 (2 * s67.1))) (y_mul rfl rfl) ?_
      refine pl_val (.int .i64 (w64 (s83.2.1 + (w64 (2 * s67.1))))) (y_add rfl rfl) ?_
      refine pl_val (.int .i64 (w64 (s83.2.1 + (w64 (2 * s67.1))))) (y_assign rfl) ?_
      refine c_nil ?_
      cases hs
      have hO := hO.fr1
      have hO := hO.fr1
      exact ⟨_, fr_ovl 57 ⟨rfl, rfl, rfl, rfl, rfl, trivial⟩, hC, hO, d4, a0⟩
     refine c_condF (congrArg Value.bool b2) ?_
     refine wp_exit ?_
     cases hs
     have hO := hO.fr1
     have hO := hO.fr1
     exact ⟨rfl, _, fr_ovl 57 ⟨rfl, rfl, rfl, rfl, rfl, trivial⟩, hC, hO, b9, a0⟩
    ·skip
     have hO := hO.fr1
     have hO := hO.fr1
     exact ⟨_, fr_ovl 57 ⟨rfl, rfl, rfl, rfl, rfl, trivial⟩, hC, hO, b8, a0⟩
    cases o87 with
    | nx _ => exact True.intro
    | rt r_ =>
     have hs := after_rt hs
     intro a6 a5 hK
     cases hs
     exact hK
    | br s83 =>
     have hs := after_br hs
     rintro a6 a4 ⟨σ, rfl, hC, hO, c0, a0⟩
     refine c_seq ?_
     refine c_sr ?_
     refine pl_val (.int .i64 s83.1) (y_move rfl) ?_
     refine pl_val (.int .i64 s67.1) (y_move rfl) ?_
     refine pl_val (.int .i64 (w64 (s83.1 + s67.1))) (y_add rfl rfl) ?_
     refine pl_val (.int .i64 (w64 (s83.1 + s67.1))) (y_assign rfl) ?_
     refine c_nil ?_
     refine c_sr ?_
     refine pl_val (.int .i64 (w64 (s83.1 + s67.1))) (y_move rfl) ?_
     refine pl_val (.int .i64 n) (y_move rfl) ?_
     refine pl_val (.bool (decide ((w64 (s83.1 + s67.1)) < n))) (y_lss rfl rfl) ?_
     refine c_nil ?_
     rcases bif_some hs with ⟨b4, hs⟩ | ⟨b4, hs⟩
     ·refine c_condT (congrArg Value.bool b4) ?_
      refine c_region ?_
      refine pl_val (.agg #[(.func (.func g_) #[] lb_), (.func (.func sf_) #[] sb_)]) (y_load rfl ((box_load Ag136 Sz136 a0 [] [(.func (.func g_) #[] lb_), (.func (.func sf_) #[] sb_)] [] rfl rfl (fun h => nomatch h)) _ (Chg.refl _ _))) ?_
      refine pl_val (.int .i64 s83.1) (y_move rfl) ?_
      refine pl_val (.int .i64 (w64 (s83.1 + s67.1))) (y_move rfl) ?_
      refine pl_val (.int .i64 n) (y_move rfl) ?_
      have d5 := Own.lend (F := (G_ ++ ([]))) (R := ([a1]) ++ ([])) (Own.perm hO (by simp))
      obtain ⟨r96, d6, hs⟩ := bind_some hs
      refine pl_call Bd131 rfl (c_sort_symMerge_func (M := M) FU ls_ s83.2.2 s83.1 (w64 (s83.1 + s67.1)) n (Nat.le_trans hN_ hC.size) hE_ c0 d5 hO.fut d6) ?_
      rintro _ e2 ⟨rfl, b5, d7⟩
      have a0 := a0.ap b5 hO nil_mem (mem_l (List.mem_singleton.2 rfl))
      have hC := hC.st b5 hO nil_mem
      have hO := hO.ext b5
      refine c_nil ?_
      refine c_region ?_
      refine pl_val (.int .i64 s67.1) (y_move rfl) ?_
      refine pl_val (.int .i64 (w64 (s67.1 * 2))) (y_mul rfl rfl) ?_
      refine pl_val (.int .i64 (w64 (s67.1 * 2))) (y_assign rfl) ?_
      refine c_nil ?_
      cases hs
      have hO := hO.fr1
      have hO := hO.fr1
      exact ⟨_, fr_ovl 57 ⟨rfl, rfl, rfl, rfl, rfl, trivial⟩, hC, hO, d7, a0⟩
     refine c_condF (congrArg Value.bool b4) ?_
     refine wp_skip ?_
     refine c_region ?_
     refine pl_val (.int .i64 s67.1) (y_move rfl) ?_
     refine pl_val (.int .i64 (w64 (s67.1 * 2))) (y_mul rfl rfl) ?_
     refine pl_val (.int .i64 (w64 (s67.1 * 2))) (y_assign rfl) ?_
     refine c_nil ?_
     cases hs
     have hO := hO.fr1
     have hO := hO.fr1
     exact ⟨_, fr_ovl 57 ⟨rfl, rfl, rfl, rfl, rfl, trivial⟩, hC, hO, c0, a0⟩
   refine c_condF (congrArg Value.bool b1) ?_
   refine wp_exit ?_
   cases hs
   have hO := hO.fr1
   have hO := hO.fr1
   exact ⟨rfl, _, fr_ovl 57 trivial, hC, hO, b8, a0⟩
  ·skip
   have hO := hO.fr1
   have hO := hO.fr1
   exact ⟨_, fr_ovl 57 ⟨rfl, rfl, rfl, rfl, rfl, trivial⟩, hC, hO, c9, a0⟩
  cases o71 with
  | nx _ => exact True.intro
  | rt r_ =>
   have hs := after_rt hs
   intro a6 a5 hK
   cases hs
   exact hK
  | br s67 =>
   have hs := after_br hs
   rintro a6 a3 ⟨σ, rfl, hC, hO, d8, a0⟩
   cases hs
   exact ⟨_, fr_ovl 57 trivial, hC, d8⟩

def k_impl_compareLists (M : Nat → Prop) (w0 : World) (r : Int) (a : Act) (w : World) : Prop :=
  ∃ (σ : Nat → Value) , a = fr 48 (ovl σ [(4, (.int .i64 r))]) ∧ Chg [] w0 w
def s_impl_compareLists (s_ : List Int) (t : List Int) : Option (Int) :=
  (iter (S := Int) (R := Int) (fun s25 =>
  (bif ((decide (s25 < (s_.length : Int))) && (decide (s25 < (t.length : Int)))) then (idx s_ s25).bind fun x42 =>
  (idx t s25).bind fun x44 =>
  (bif (x42 != x44) then (idx s_ s25).bind fun x48 =>
  (idx t s25).bind fun x50 =>
  (bif (decide (x48 < x50)) then some (.rt (-1)) else some (.rt 1)) else some (.nx (w64 (s25 + 1)))) else some (.br s25))) FU 0).bind fun o29 => after o29 (fun r_ => some r_) (fun s25 =>
  (bif (decide ((s_.length : Int) < (t.length : Int))) then some (-1) else (bif (decide ((t.length : Int) < (s_.length : Int))) then some 1 else some 0)))
set_option maxHeartbeats 4000000 in
theorem c_impl_compareLists {M : Nat → Prop} {w : World} {pa0 : Option Addr} {pn0 pc0 : Nat} {pa1 : Option Addr} {pn1 pc1 : Nat} (s_ : List Int) (t : List Int) (h0 : (RT.rs (RT.int .i64)).val M w (.slice pa0 pn0 pc0) s_ ([])) (h1 : (RT.rs (RT.int .i64)).val M w (.slice pa1 pn1 pc1) t ([])) (hM : ∀ g, w.heap.size ≤ g → M g) {r : Int} (hs : s_impl_compareLists s_ t = some r) :
    Gives Try.prog 78 [(.slice pa0 pn0 pc0), (.slice pa1 pn1 pc1)] w (fun v w' => v = (.int .i64 r) ∧ Chg [] w w') := by
 refine calls_fr Try.func78 rfl Try.ntmps78 (Nat.le_of_ble_eq_true rfl) ?_
 have hO := Own.start (N := Nw w []) hM Nw.fut
 have hC := Chg.refl [] w
 unfold s_impl_compareLists at hs
 refine wp_mono (Q := KPost (k_impl_compareLists M w r)) ?_ (fun e a b5 h => ?_)
 rotate_left
 ·cases e
  case ret =>
   obtain ⟨σ, rfl, hrest⟩ := h
   exact ret1x Try.results78 (res_tmp rfl) ⟨rfl, hrest⟩
  all_goals exact (h : False).elim
 refine c_sr ?_
 refine pl_val (.int .i64 0) (y_assign rfl) ?_
 refine c_nil ?_
 refine c_seq ?_
 refine c_sr ?_
 refine pl_val (.int .i64 0) (y_assign rfl) ?_
 refine c_nil ?_
 obtain ⟨o29, b6, hs⟩ := bind_some hs
 refine wp_block ?_
 refine wp_iter (id := 0) (I := fun s25 a a0 => ∃ (σ : Nat → Value), a = fr 48 (ovl σ [(0, (.slice pa0 pn0 pc0)), (1, (.slice pa1 pn1 pc1)), (5, (.int .i64 s25))]) ∧ Chg [] w a0 ∧ Own (Nw w []) M a0 ([]) ∧ (RT.rs (RT.int .i64)).val M a0 (.slice pa0 pn0 pc0) s_ ([]) ∧ (RT.rs (RT.int .i64)).val M a0 (.slice pa1 pn1 pc1) t ([])) (J := fun s25 a a0 => ∃ (σ : Nat → Value), a = fr 48 (ovl σ [(0, (.slice pa0 pn0 pc0)), (1, (.slice pa1 pn1 pc1))]) ∧ Chg [] w a0 ∧ Own (Nw w []) M a0 ([]) ∧ (RT.rs (RT.int .i64)).val M a0 (.slice pa0 pn0 pc0) s_ ([]) ∧ (RT.rs (RT.int .i64)).val M a0 (.slice pa1 pn1 pc1) t ([])) (K := (k_impl_compareLists M w)) ?_ FU 0 o29 _ _ ?_ b6 ?_
 ·rintro s25 o29 a a0 ⟨σ, rfl, hC, hO, h0, h1⟩ hs
  refine c_seq ?_
  refine c_seq ?_
  refine c_mid (I := fun a a4 => ∃ (σ : Nat → Value), a = fr 48 (ovl σ [(0, (.slice pa0 pn0 pc0)), (1, (.slice pa1 pn1 pc1)), (5, (.int .i64 s25)), (15, (.bool ((decide (s25 < (s_.length : Int))) && (decide (s25 < (t.length : Int))))))]) ∧ Chg [] a0 a4) ?_ ?_
  ·have hMid := Chg.refl [] a0
   refine c_region ?_
   refine pl_val (.int .i64 s25) (y_move rfl) ?_
   refine pl_val (.slice pa0 pn0 pc0) (y_move rfl) ?_
   refine pl_val (.int .i64 (s_.length : Int)) (y_len' Sl43 (rs_len h0) rfl) ?_
   refine pl_val (.bool (decide (s25 < (s_.length : Int)))) (y_lss rfl rfl) ?_
   refine pl_val (.bool (decide (s25 < (s_.length : Int)))) (y_move rfl) ?_
   rcases Bool.eq_false_or_eq_true ((decide (s25 < (s_.length : Int)))) with a1 | a1
   ·skip
    refine pl_yes (.int .i64 s25) (tg := 10) (by kernel_rfl) (congrArg Value.bool a1) (y_move rfl) ?_
    refine pl_yes (.slice pa1 pn1 pc1) (tg := 10) (by kernel_rfl) (congrArg Value.bool a1) (y_move rfl) ?_
    refine pl_yes (.int .i64 (t.length : Int)) (tg := 10) (by kernel_rfl) (congrArg Value.bool a1) (y_len' Sl43 (rs_len h1) rfl) ?_
    refine pl_yes (.bool (decide (s25 < (t.length : Int)))) (tg := 10) (by kernel_rfl) (congrArg Value.bool a1) (y_lss rfl rfl) ?_
    refine pl_val (.bool ((decide (s25 < (s_.length : Int))) && (decide (s25 < (t.length : Int))))) (y_pick_t (congrArg Value.bool a1) (congrArg Value.bool (by rw [a1]; rfl))) ?_
    refine c_nil ?_
    exact ⟨_, fr_ovl 48 ⟨rfl, rfl, rfl, rfl, trivial⟩, hMid⟩
   refine pl_not (tg := 10) (by kernel_rfl) (congrArg Value.bool a1) ?_
   refine pl_not (tg := 10) (by kernel_rfl) (congrArg Value.bool a1) ?_
   refine pl_not (tg := 10) (by kernel_rfl) (congrArg Value.bool a1) ?_
   refine pl_not (tg := 10) (by kernel_rfl) (congrArg Value.bool a1) ?_
   refine pl_val (.bool ((decide (s25 < (s_.length : Int))) && (decide (s25 < (t.length : Int))))) (y_pick_f (congrArg Value.bool a1) (congrArg Value.bool (by rw [a1]; rfl))) ?_
   refine c_nil ?_
   exact ⟨_, fr_ovl 48 ⟨rfl, rfl, rfl, rfl, trivial⟩, hMid⟩
  rintro b4 a4 ⟨σ, rfl, a5⟩
  have h0 := h0.ext a5
  have h1 := h1.ext a5
  have hC := hC.ext a5
  have hO := hO.ext a5
  rcases bif_some hs with ⟨a6, hs⟩ | ⟨a6, hs⟩
  ·refine c_condT (congrArg Value.bool a6) ?_
   refine wp_skip ?_
   refine c_seq ?_
   refine wp_block ?_
   refine c_seq ?_
   refine x_start [] Mx rfl ?_
   have a3 := Chg.drew a4
   generalize World.drew a4 = a7 at a3 ⊢
   have h0 := h0.ext a3
   have h1 := h1.ext a3
   have hC := hC.ext a3
   have hO := hO.ext a3
   have hS := Chg.refl [] a7
   refine x_p 0 (.slice pa0 pn0 pc0) rfl (by kernel_rfl)  (fun _ => y_move rfl) (fun _ => hS) ?_
   refine x_p 1 (.int .i64 s25) rfl (by kernel_rfl)  (fun _ => y_move rfl) (fun _ => hS) ?_
   obtain ⟨x42, b7, hs⟩ := bind_some hs
   obtain ⟨b8, b9, c0, a8⟩ := rs_idx Sl43 Sz3 h0 b7
   refine x_p 2 (.pointer (some ⟨b8, b9, none⟩)) rfl (by kernel_rfl)  (fun _ => c0 _ _ _ _ _ _ _ _ _ rfl rfl) (fun _ => hS) ?_
   refine x_l 3 (.int .i64 x42) rfl (by kernel_rfl)  (fun w' hw' => y_load rfl ((at_load_int Ag3 Sz3 a8) w' hw')) hS ?_
   refine x_p 4 (.slice pa1 pn1 pc1) rfl (by kernel_rfl)  (fun _ => y_move rfl) (fun _ => hS) ?_
   refine x_p 5 (.int .i64 s25) rfl (by kernel_rfl)  (fun _ => y_move rfl) (fun _ => hS) ?_
   obtain ⟨x44, c1, hs⟩ := bind_some hs
   obtain ⟨c2, c3, c4, a9⟩ := rs_idx Sl43 Sz3 h1 c1
   refine x_p 6 (.pointer (some ⟨c2, c3, none⟩)) rfl (by kernel_rfl)  (fun _ => c4 _ _ _ _ _ _ _ _ _ rfl rfl) (fun _ => hS) ?_
   refine x_l 7 (.int .i64 x44) rfl (by kernel_rfl)  (fun w' hw' => y_load rfl ((at_load_int Ag3 Sz3 a9) w' hw')) hS ?_
   refine x_p 8 (.bool (x42 != x44)) rfl (by kernel_rfl)  (fun _ => y_neq rfl rfl) (fun _ => hS) ?_
   refine x_end (by kernel_rfl) ?_
   clear hS
   rcases bif_some hs with ⟨b0, hs⟩ | ⟨b0, hs⟩
   ·refine c_condT (congrArg Value.bool b0) ?_
    refine c_seq ?_
    refine c_seq ?_
    refine x_start [] Mx rfl ?_
    have a2 := Chg.drew a7
    generalize World.drew a7 = c5 at a2 ⊢
    have h0 := h0.ext a2
    have h1 := h1.ext a2
    have a8 := at_ext a8 a2
    have a9 := at_ext a9 a2
    have hC := hC.ext a2
    have hO := hO.ext a2
    have hS := Chg.refl [] c5
    refine x_p 0 (.slice pa0 pn0 pc0) rfl (by kernel_rfl)  (fun _ => y_move rfl) (fun _ => hS) ?_
    refine x_p 1 (.int .i64 s25) rfl (by kernel_rfl)  (fun _ => y_move rfl) (fun _ => hS) ?_
    obtain ⟨x48, c6, hs⟩ := bind_some hs
    obtain ⟨c7, c8, c9, d0⟩ := rs_idx Sl43 Sz3 h0 c6
    refine x_p 2 (.pointer (some ⟨c7, c8, none⟩)) rfl (by kernel_rfl)  (fun _ => c9 _ _ _ _ _ _ _ _ _ rfl rfl) (fun _ => hS) ?_
    refine x_l 3 (.int .i64 x48) rfl (by kernel_rfl)  (fun w' hw' => y_load rfl ((at_load_int Ag3 Sz3 d0) w' hw')) hS ?_
    refine x_p 4 (.slice pa1 pn1 pc1) rfl (by kernel_rfl)  (fun _ => y_move rfl) (fun _ => hS) ?_
    refine x_p 5 (.int .i64 s25) rfl (by kernel_rfl)  (fun _ => y_move rfl) (fun _ => hS) ?_
    obtain ⟨x50, d1, hs⟩ := bind_some hs
    obtain ⟨d2, d3, d4, d5⟩ := rs_idx Sl43 Sz3 h1 d1
    refine x_p 6 (.pointer (some ⟨d2, d3, none⟩)) rfl (by kernel_rfl)  (fun _ => d4 _ _ _ _ _ _ _ _ _ rfl rfl) (fun _ => hS) ?_
    refine x_l 7 (.int .i64 x50) rfl (by kernel_rfl)  (fun w' hw' => y_load rfl ((at_load_int Ag3 Sz3 d5) w' hw')) hS ?_
    refine x_p 8 (.bool (decide (x48 < x50))) rfl (by kernel_rfl)  (fun _ => y_lss rfl rfl) (fun _ => hS) ?_
    refine x_end (by kernel_rfl) ?_
    clear hS
    rcases bif_some hs with ⟨b1, hs⟩ | ⟨b1, hs⟩
    ·refine c_condT (congrArg Value.bool b1) ?_
     refine c_sr ?_
     refine pl_val (.int .i64 (-1)) (y_assign rfl) ?_
     refine c_nil ?_
     refine wp_ret ?_
     cases hs
     exact ⟨_, fr_ovl 48 ⟨rfl, trivial⟩, hC⟩
    refine c_condF (congrArg Value.bool b1) ?_
    refine wp_skip ?_
    refine c_sr ?_
    refine pl_val (.int .i64 1) (y_assign rfl) ?_
    refine c_nil ?_
    refine wp_ret ?_
    cases hs
    exact ⟨_, fr_ovl 48 ⟨rfl, trivial⟩, hC⟩
   refine c_condF (congrArg Value.bool b0) ?_
   refine wp_skip ?_
   refine c_region ?_
   refine pl_val (.int .i64 s25) (y_move rfl) ?_
   refine pl_val (.int .i64 (w64 (s25 + 1))) (y_add rfl rfl) ?_
   refine pl_val (.int .i64 (w64 (s25 + 1))) (y_assign rfl) ?_
   refine c_nil ?_
   cases hs
   exact ⟨_, fr_ovl 48 ⟨rfl, rfl, rfl, trivial⟩, hC, hO, h0, h1⟩
  refine c_condF (congrArg Value.bool a6) ?_
  refine wp_exit ?_
  cases hs
  exact ⟨rfl, _, fr_ovl 48 ⟨rfl, rfl, trivial⟩, hC, hO, h0, h1⟩
 ·skip
  exact ⟨_, fr_ovl 48 ⟨rfl, rfl, rfl, trivial⟩, hC, hO, h0, h1⟩
 cases o29 with
 | nx _ => exact True.intro
 | rt r_ =>
  have hs := after_rt hs
  intro b4 b5 hK
  cases hs
  exact hK
 | br s25 =>
  have hs := after_br hs
  rintro b4 a0 ⟨σ, rfl, hC, hO, h0, h1⟩
  refine c_seq ?_
  refine wp_block ?_
  refine c_sr ?_
  refine pl_val (.slice pa0 pn0 pc0) (y_move rfl) ?_
  refine pl_val (.int .i64 (s_.length : Int)) (y_len' Sl43 (rs_len h0) rfl) ?_
  refine pl_val (.slice pa1 pn1 pc1) (y_move rfl) ?_
  refine pl_val (.int .i64 (t.length : Int)) (y_len' Sl43 (rs_len h1) rfl) ?_
  refine pl_val (.bool (decide ((s_.length : Int) < (t.length : Int)))) (y_lss rfl rfl) ?_
  refine pl_val (.bool (decide ((s_.length : Int) < (t.length : Int)))) (y_assign rfl) ?_
  refine c_nil ?_
  rcases bif_some hs with ⟨b2, hs⟩ | ⟨b2, hs⟩
  ·refine c_condT (congrArg Value.bool b2) ?_
   refine c_sr ?_
   refine pl_val (.int .i64 (-1)) (y_assign rfl) ?_
   refine c_nil ?_
   refine wp_ret ?_
   cases hs
   exact ⟨_, fr_ovl 48 ⟨rfl, trivial⟩, hC⟩
  refine c_condF (congrArg Value.bool b2) ?_
  refine c_sr ?_
  refine pl_val (.slice pa0 pn0 pc0) (y_move rfl) ?_
  refine pl_val (.int .i64 (s_.length : Int)) (y_len' Sl43 (rs_len h0) rfl) ?_
  refine pl_val (.slice pa1 pn1 pc1) (y_move rfl) ?_
  refine pl_val (.int .i64 (t.length : Int)) (y_len' Sl43 (rs_len h1) rfl) ?_
  refine pl_val (.bool (decide ((t.length : Int) < (s_.length : Int)))) (y_gtr rfl rfl) ?_
  refine pl_val (.bool (decide ((t.length : Int) < (s_.length : Int)))) (y_assign rfl) ?_
  refine c_nil ?_
  rcases bif_some hs with ⟨b3, hs⟩ | ⟨b3, hs⟩
  ·refine c_condT (congrArg Value.bool b3) ?_
   refine c_sr ?_
   refine pl_val (.int .i64 1) (y_assign rfl) ?_
   refine c_nil ?_
   refine wp_ret ?_
   cases hs
   exact ⟨_, fr_ovl 48 ⟨rfl, trivial⟩, hC⟩
  refine c_condF (congrArg Value.bool b3) ?_
  refine wp_skip ?_
  refine c_sr ?_
  refine pl_val (.int .i64 0) (y_assign rfl) ?_
  refine c_nil ?_
  refine wp_ret ?_
  cases hs
  exact ⟨_, fr_ovl 48 ⟨rfl, trivial⟩, hC⟩

theorem Bd104 : Bodied Try.prog 104 := bodied Try.func104 (by kernel_rfl) rfl

theorem Ag99 : AggT Try.prog 99 false := fun _ => by kernel_rfl

theorem Sz99 : SzT Try.prog 99 1 := ⟨_, rfl, rfl⟩

theorem Bd78 : Bodied Try.prog 78 := bodied Try.func78 (by kernel_rfl) rfl

def k_impl_sortRows_1__impl_compareLists (M : Nat → Prop) (w0 : World) (r : Bool) (a : Act) (w : World) : Prop :=
  ∃ (σ : Nat → Value) , a = fr 18 (ovl σ [(6, (.bool r))]) ∧ Chg [] w0 w
def s_impl_sortRows_1__impl_compareLists (tab1 : List (List Int)) (i : Int) (j : Int) : Option (Bool) :=
  (idx tab1 i).bind fun x5 =>
  (idx tab1 j).bind fun x9 =>
  (s_impl_compareLists x5 x9).bind fun r14 =>
  some (decide (r14 < 0))
set_option maxHeartbeats 4000000 in
theorem c_impl_sortRows_1__impl_compareLists {M : Nat → Prop} {w : World} {gv0 : Nat} {pa1 : Option Addr} {pn1 pc1 : Nat} {gv1 : Nat} (tab1 : List (List Int)) (i : Int) (j : Int) (hbgv0 : BoxV w gv0 99 [(.func (.func 78) #[] #[])]) (h1 : (RT.rs (RT.rs (RT.int .i64))).val M w (.slice pa1 pn1 pc1) tab1 ([])) (hbgv1 : BoxV w gv1 25 [(.slice pa1 pn1 pc1)]) (hM : ∀ g, w.heap.size ≤ g → M g) {r : Bool} (hs : s_impl_sortRows_1__impl_compareLists tab1 i j = some r) :
    Gives Try.prog 115 [(.int .i64 i), (.int .i64 j), (.pointer (some ⟨gv0, 0, none⟩)), (.pointer (some ⟨gv1, 0, none⟩))] w (fun v w' => v = (.bool r) ∧ Chg [] w w') := by
 refine calls_fr Try.func115 rfl Try.ntmps115 (Nat.le_of_ble_eq_true rfl) ?_
 have hO := Own.start (N := Nw w []) hM Nw.fut
 have hC := Chg.refl [] w
 unfold s_impl_sortRows_1__impl_compareLists at hs
 refine wp_mono (Q := KPost (k_impl_sortRows_1__impl_compareLists M w r)) ?_ (fun e a c4 h => ?_)
 rotate_left
 ·cases e
  case ret =>
   obtain ⟨σ, rfl, hrest⟩ := h
   exact ret1x Try.results115 (res_tmp rfl) ⟨rfl, hrest⟩
  all_goals exact (h : False).elim
 refine c_sr ?_
 refine pl_val (.bool false) (y_assign rfl) ?_
 refine c_nil ?_
 refine c_seq ?_
 refine x_start [9] Mx rfl ?_
 have a1 := Chg.drew w
 generalize World.drew w = a6 at a1 ⊢
 have hbgv0 := hbgv0.cn a1
 have h1 := h1.ext a1
 have hbgv1 := hbgv1.cn a1
 have hC := hC.ext a1
 have hO := hO.ext a1
 have hS := Chg.refl [] a6
 refine x_l 0 (.func (.func 78) #[] #[]) rfl (by kernel_rfl)  (fun w' hw' => y_load rfl ((box_load Ag99 Sz99 hbgv0 [] [(.func (.func 78) #[] #[])] [] rfl rfl (fun _ => rfl)) w' hw')) hS ?_
 refine x_l 1 (.slice pa1 pn1 pc1) rfl (by kernel_rfl)  (fun w' hw' => y_load rfl ((box_load Ag25 Sz25 hbgv1 [] [(.slice pa1 pn1 pc1)] [] rfl rfl (fun _ => rfl)) w' hw')) hS ?_
 refine x_p 2 (.int .i64 i) rfl (by kernel_rfl)  (fun _ => y_move rfl) (fun _ => hS) ?_
 obtain ⟨x5, a7, hs⟩ := bind_some hs
 obtain ⟨a8, a9, b0, a4⟩ := rs_idx Sl25 Sz43 h1 a7
 refine x_p 3 (.pointer (some ⟨a8, a9, none⟩)) rfl (by kernel_rfl)  (fun _ => b0 _ _ _ _ _ _ _ _ _ rfl rfl) (fun _ => hS) ?_
 obtain ⟨c5, b1, a2⟩ := at_load Ag43 Sz43 (fun _ => rfl) a4
 obtain ⟨b2, b3, b4, rfl⟩ := rs_sl a2
 refine x_l 4 (.slice b2 b3 b4) rfl (by kernel_rfl)  (fun w' hw' => y_load rfl (b1 w' hw')) hS ?_
 refine x_l 5 (.slice pa1 pn1 pc1) rfl (by kernel_rfl)  (fun w' hw' => y_load rfl ((box_load Ag25 Sz25 hbgv1 [] [(.slice pa1 pn1 pc1)] [] rfl rfl (fun _ => rfl)) w' hw')) hS ?_
 refine x_p 6 (.int .i64 j) rfl (by kernel_rfl)  (fun _ => y_move rfl) (fun _ => hS) ?_
 obtain ⟨x9, b5, hs⟩ := bind_some hs
 obtain ⟨b6, b7, b8, a5⟩ := rs_idx Sl25 Sz43 h1 b5
 refine x_p 7 (.pointer (some ⟨b6, b7, none⟩)) rfl (by kernel_rfl)  (fun _ => b8 _ _ _ _ _ _ _ _ _ rfl rfl) (fun _ => hS) ?_
 obtain ⟨c6, b9, a3⟩ := at_load Ag43 Sz43 (fun _ => rfl) a5
 obtain ⟨c0, c1, c2, rfl⟩ := rs_sl a3
 refine x_l 8 (.slice c0 c1 c2) rfl (by kernel_rfl)  (fun w' hw' => y_load rfl (b9 w' hw')) hS ?_
 refine x_one (i := 9) (by kernel_rfl) ?_
 obtain ⟨r14, c3, hs⟩ := bind_some hs
 refine xk_callv (b := true) rfl  (h := rfl) Bd78 rfl (c_impl_compareLists (M := M) x5 x9 a2 a3 hO.fut c3) rfl (fun h => nomatch h) ?_
 rintro _ c7 ⟨rfl, a0⟩
 have hbgv0 := hbgv0.cn a0
 have h1 := h1.ext a0
 have hbgv1 := hbgv1.cn a0
 have a2 := a2.ext a0
 have a3 := a3.ext a0
 have a4 := at_ext a4 a0
 have a5 := at_ext a5 a0
 have hC := hC.ext a0
 have hO := hO.ext a0
 refine x_p 10 (.bool (decide (r14 < 0))) rfl (by kernel_rfl)  (fun _ => y_lss rfl rfl) (fun h => nomatch h) ?_
 refine x_p 11 (.bool (decide (r14 < 0))) rfl (by kernel_rfl)  (fun _ => y_assign rfl) (fun h => nomatch h) ?_
 refine x_end (by kernel_rfl) ?_
 clear hS
 refine wp_ret ?_
 cases hs
 exact ⟨_, fr_ovl 18 ⟨rfl, trivial⟩, hC⟩

theorem Fx117 : ∀ args W, (callFunc 117 args).run Try.prog W = (((fun args : Array Value => Extern.ReflectliteValue.unpack (args.getD 0 (.tuple #[]))) args).run Try.prog W).andThen fun v w' => .ok (.value v) w' := fun args W => run_callFunc_extern Try.func117 (by kernel_rfl) (by kernel_rfl) (by kernel_rfl) (e := (fun args : Array Value => Extern.ReflectliteValue.unpack (args.getD 0 (.tuple #[])))) (by kernel_rfl) args W

theorem Ti25 : ∃ i, Try.prog.info? 25 = some i ∧ i.desc = .slice 43 := ⟨(Try.prog.info? 25).get (by kernel_rfl), by kernel_rfl, by kernel_rfl⟩

theorem Sz130 : SzT Try.prog 130 3 := ⟨_, rfl, rfl⟩

theorem Fx118 : ∀ args W, (callFunc 118 args).run Try.prog W = (((Extern.ReflectliteSwapper.swapper "internal/reflectlite" (Extern.ReflectliteValue.valueError "Swapper")) args).run Try.prog W).andThen fun v w' => .ok (.value v) w' := fun args W => run_callFunc_extern Try.func118 (by kernel_rfl) (by kernel_rfl) (by kernel_rfl) (e := (Extern.ReflectliteSwapper.swapper "internal/reflectlite" (Extern.ReflectliteValue.valueError "Swapper"))) (by kernel_rfl) args W

theorem Ke43 : ∀ w, (Extern.Rtype.kind 43).run Try.prog w = .ok 23 w := fun _ => by kernel_rfl

theorem Ag130 : AggT Try.prog 130 true := fun _ => by kernel_rfl

theorem Fx120 : ∀ args W, (callFunc 120 args).run Try.prog W = (((Extern.ReflectliteValue.method (Extern.ReflectliteValue.valueError "reflectlite.Value.Len" 0) Extern.ReflectliteValue.len) args).run Try.prog W).andThen fun v w' => .ok (.value v) w' := fun args W => run_callFunc_extern Try.func120 (by kernel_rfl) (by kernel_rfl) (by kernel_rfl) (e := (Extern.ReflectliteValue.method (Extern.ReflectliteValue.valueError "reflectlite.Value.Len" 0) Extern.ReflectliteValue.len)) (by kernel_rfl) args W

theorem Pk25 : Try.prog.packed 25 = false := by kernel_rfl

theorem Bd119 : Bodied Try.prog 119 := bodied Try.func119 (by kernel_rfl) rfl

def k_sort_SliceStable (M : Nat → Prop) (w0 : World) {α_ : Type} (I_ : World → List α_ → Prop) (G_ : List Nat) (r : (List α_)) (a : Act) (w : World) : Prop :=
  ∃ (σ : Nat → Value) , a = fr 16 (ovl σ []) ∧ Chg (G_ ++ ([])) w0 w ∧ I_ w r
def s_sort_SliceStable {α_ : Type} (ls_ : α_ → α_ → Option Bool) (d_ : List α_) (n_ : Nat) : Option ((List α_)) :=
  (s_sort_stable_func ls_ d_ (n_ : Int)).bind fun r7 =>
  some r7
set_option maxHeartbeats 4000000 in
theorem c_sort_SliceStable {M : Nat → Prop} {w : World} {a_ : Option Addr} {c_ : Nat} {ie_ : TypeInfo} {α_ : Type} {n0_ : Nat} {I_ : World → List α_ → Prop} {G_ : List Nat} {g_ sf_ : Nat} {lb_ : Array Value} (ls_ : α_ → α_ → Option Bool) (d_ : List α_) (n_ : Nat) (hN_ : n0_ ≤ w.heap.size) (hie_ : Try.prog.info? 43 = some ie_) (hf_ : Try.prog.funcs.findIdx? (·.name == "internal/reflectlite" ++ ".Swapper$" ++ toString (Go.Lib.swapperK n_ ie_ 23)) = some sf_) (hE_ : Env Try.prog n0_ I_ G_ ls_ g_ lb_ sf_ (if Go.Lib.swapperK n_ ie_ 23 ≤ 2 then #[] else #[.slice a_ n_ c_, typeHandle Try.prog 43])) (hI_ : I_ w d_) (hI : Own (Nw w (G_ ++ ([]))) M w (G_ ++ ([]))) (hM : ∀ g, w.heap.size ≤ g → M g) {r : (List α_)} (hs : s_sort_SliceStable ls_ d_ n_ = some r) :
    Gives Try.prog 114 [(.iface 25 (.slice a_ n_ c_)), (.func (.func g_) #[] lb_)] w (fun v w' => v = (.tuple #[]) ∧ Chg (G_ ++ ([])) w w' ∧ I_ w' r) := by
 refine calls_fr Try.func114 rfl Try.ntmps114 (Nat.le_of_ble_eq_true rfl) ?_
 have hO := hI
 have hC := Chg.refl (G_ ++ ([])) w
 unfold s_sort_SliceStable at hs
 refine wp_mono (Q := KPostN (k_sort_SliceStable M w I_ G_ r)) ?_ (fun e a a6 h => ?_)
 rotate_left
 ·cases e
  case ret =>
   obtain ⟨σ, rfl, hrest⟩ := h
   exact ret0x Try.results114  ⟨rfl, hrest⟩
  case normal =>
   obtain ⟨σ, rfl, hrest⟩ := h
   exact ret0n Try.results114  ⟨rfl, hrest⟩
  all_goals exact (h : False).elim
 refine c_sr ?_
 refine pl_val (.iface 25 (.slice a_ n_ c_)) (y_move rfl) ?_
 obtain ⟨b3, b4, b5⟩ := Ti25
 obtain ⟨a6, a1, b6, a9, a7, a0⟩ := new_block w [(.slice a_ n_ c_)] 25
 refine pl_val (w' := a6) (.agg #[(typeHandle Try.prog 25), (.pointer (some ⟨a1, 0, none⟩)), (.int .u64 151)]) (y_callg rfl rfl (by rw [Fx117]; show Result.andThen (Sem.run Try.prog (Extern.ReflectliteValue.unpack (.iface 25 (.slice a_ n_ c_))) _) _ = _; rw [Go.Lib.run_valueOf_slice 25 43 b3 b4 b5, b6, a9]; rfl)) ?_
 have hI_ := hE_.ext hI_ a7 (fun _ h => nomatch h)
 have hC := hC.ext a7
 have hO := hO.new1 a7 a9 a0.lt
 obtain ⟨b7, a8, b8, b0, a3, b1⟩ := new_block a6 [(.pointer none), (.pointer none), (.int .u64 0)] 130
 refine pl_val (w' := b7) (.pointer (some ⟨a8, 0, none⟩)) (y_alloc (by rw [b8, b0]; kernel_rfl)) ?_
 have hI_ := hE_.ext hI_ a3 (fun _ h => nomatch h)
 have a0 := a0.cn a3
 have hC := hC.ext a3
 have hO := hO.new1 a3 b0 b1.lt
 obtain ⟨b2, b9, a4, a2⟩ := box_store (P := Try.prog) b1 [] [(.pointer none), (.pointer none), (.int .u64 0)] [] [(typeHandle Try.prog 25), (.pointer (some ⟨a1, 0, none⟩)), (.int .u64 151)] rfl rfl (by intro u hu; simp only [List.mem_cons, List.not_mem_nil, or_false] at hu; rcases hu with rfl | rfl | rfl <;> rfl)
 refine pl_skip (w' := b2) (ys_store rfl rfl (b9 _ _ rfl Sz130)) ?_
 have hI_ := hE_.ext hI_ a4 (fun q hq => Nat.le_trans hN_ ((hO.inN q ((fun _ h => h) q hq)).resolve_left (fun e => hO.apart q ((fun _ h => h) q hq) (mem_r (mem_l (nil_mem q e))))))
 have a0 := a0.ap a4 hO same_ (mem_l (List.mem_singleton.2 rfl))
 have hC := hC.st a4 hO same_
 have hO := hO.ext a4
 have a2 : BoxV b2 a8 130 [(typeHandle Try.prog 25), (.pointer (some ⟨a1, 0, none⟩)), (.int .u64 151)] := a2
 refine c_nil ?_
 refine c_sr ?_
 refine pl_val (.iface 25 (.slice a_ n_ c_)) (y_move rfl) ?_
 obtain ⟨c0, c1, c2⟩ := Ti25
 refine pl_val (.func (.func sf_) #[] (if Go.Lib.swapperK n_ ie_ 23 ≤ 2 then #[] else #[.slice a_ n_ c_, typeHandle Try.prog 43])) ((y_callg rfl rfl (by rw [Fx118]; show Result.andThen (Sem.run Try.prog (Extern.ReflectliteSwapper.swapper "internal/reflectlite" (Extern.ReflectliteValue.valueError "Swapper") #[(.iface 25 (.slice a_ n_ c_))]) _) _ = _; rw [Go.Lib.run_swapper_slice 25 43 c0 ie_ c1 c2 hie_ 23 Ke43 a_ n_ c_ sf_ hf_]; rfl))) ?_
 refine pl_val (.func (.func sf_) #[] (if Go.Lib.swapperK n_ ie_ 23 ≤ 2 then #[] else #[.slice a_ n_ c_, typeHandle Try.prog 43])) (y_assign rfl) ?_
 refine c_nil ?_
 refine c_region ?_
 refine pl_val (.func (.func g_) #[] lb_) (y_move rfl) ?_
 refine pl_val (.func (.func sf_) #[] (if Go.Lib.swapperK n_ ie_ 23 ≤ 2 then #[] else #[.slice a_ n_ c_, typeHandle Try.prog 43])) (y_move rfl) ?_
 refine pl_val (.agg #[(.func (.func g_) #[] lb_), (.func (.func sf_) #[] (if Go.Lib.swapperK n_ ie_ 23 ≤ 2 then #[] else #[.slice a_ n_ c_, typeHandle Try.prog 43]))]) (y_build rfl (by kernel_rfl)) ?_
 refine pl_val (.agg #[(typeHandle Try.prog 25), (.pointer (some ⟨a1, 0, none⟩)), (.int .u64 151)]) (y_load rfl ((box_load Ag130 Sz130 a2 [] [(typeHandle Try.prog 25), (.pointer (some ⟨a1, 0, none⟩)), (.int .u64 151)] [] rfl rfl (fun h => nomatch h)) _ (Chg.refl _ _))) ?_
 obtain ⟨c3, c4, c5⟩ := Ti25
 refine pl_val (.int .i64 (n_ : Int)) ((y_callg rfl rfl (by rw [Fx120]; show Result.andThen (Sem.run Try.prog (Extern.ReflectliteValue.method (Extern.ReflectliteValue.valueError "reflectlite.Value.Len" 0) Extern.ReflectliteValue.len #[(.agg #[(typeHandle Try.prog 25), (.pointer (some ⟨a1, 0, none⟩)), (.int .u64 151)])]) _) _ = _; rw [Go.Lib.run_valueLen_slice 25 43 c3 c4 c5 Pk25 _ _ _ _ _ (box_cell a0)]; rfl))) ?_
 have hO := hO.fr2
 have c6 := Own.lend (F := (G_ ++ ([]))) (R := ([a8]) ++ (([a1]) ++ ([]))) (Own.perm hO (by simp))
 obtain ⟨r7, c7, hs⟩ := bind_some hs
 refine pl_call Bd119 rfl (c_sort_stable_func (M := M) ls_ d_ (n_ : Int) (Nat.le_trans hN_ hC.size) hE_ hI_ c6 hO.fut c7) ?_
 rintro _ c9 ⟨rfl, a5, c8⟩
 have a0 := a0.ap a5 hO nil_mem (mem_r (mem_l (List.mem_singleton.2 rfl)))
 have a2 := a2.ap a5 hO nil_mem (mem_l (List.mem_singleton.2 rfl))
 have hC := hC.st a5 hO nil_mem
 have hO := hO.ext a5
 refine c_nil ?_
 cases hs
 exact ⟨_, fr_ovl 16 trivial, hC, c8⟩

theorem Ei43 : ∃ ie, Try.prog.info? 43 = some ie ∧ ie.size = 1 ∧ ie.hasPointers = true ∧ (ie.bytes == 8) = false := ⟨(Try.prog.info? 43).get (by kernel_rfl), by kernel_rfl, by kernel_rfl, by kernel_rfl, by kernel_rfl⟩

theorem Fs2 : ∀ W, (callFunc 122 #[.int .i64 0, .int .i64 0]).run Try.prog W = .ok (.value (.tuple #[])) W := fun W => (run_callFunc_extern Try.func122 (by kernel_rfl) (by kernel_rfl) (by kernel_rfl) (e := (Extern.find Try.f122).get (by kernel_rfl)) (by kernel_rfl) _ W).trans (by kernel_rfl)

theorem Fx129 : ∀ args W, (callFunc 129 args).run Try.prog W = (((Extern.ReflectliteSwapper.swap false) args).run Try.prog W).andThen fun v w' => .ok (.value v) w' := fun args W => run_callFunc_extern Try.func129 (by kernel_rfl) (by kernel_rfl) (by kernel_rfl) (e := (Extern.ReflectliteSwapper.swap false)) (by kernel_rfl) args W

theorem Sn1 : Try.prog.funcs.findIdx? (·.name == "internal/reflectlite" ++ ".Swapper$" ++ toString 1) = some 121 := by kernel_rfl

theorem Sn2 : Try.prog.funcs.findIdx? (·.name == "internal/reflectlite" ++ ".Swapper$" ++ toString 2) = some 122 := by kernel_rfl

theorem Sn9 : Try.prog.funcs.findIdx? (·.name == "internal/reflectlite" ++ ".Swapper$" ++ toString 9) = some 129 := by kernel_rfl

theorem Bd115 : Bodied Try.prog 115 := bodied Try.func115 (by kernel_rfl) rfl

theorem Bd114 : Bodied Try.prog 114 := bodied Try.func114 (by kernel_rfl) rfl

def k_impl_sortRows__impl_compareLists (M : Nat → Prop) (w0 : World) (qa0 : Option Addr) (qn0 qc0 : Nat) (qf0 : List Nat) (r : (List (List Int))) (a : Act) (w : World) : Prop :=
  ∃ (σ : Nat → Value) (rfi0 : List Nat), a = fr 8 (ovl σ []) ∧ Chg (qf0 ++ ([])) w0 w ∧ (RT.os 43 (RT.os 3 (RT.int .i64))).val M w (.slice qa0 qn0 qc0) r rfi0 ∧ Own (Nw w0 (qf0 ++ ([]))) (fun _ => True) w (rfi0 ++ ([]))
def s_impl_sortRows__impl_compareLists (rows : List (List Int)) : Option ((List (List Int))) :=
  (s_sort_SliceStable (fun x_ y_ => (s_impl_compareLists x_ y_).bind fun r_ => some (decide (r_ < 0))) rows (rows.length)).bind fun r5 =>
  some r5
set_option maxHeartbeats 4000000 in
theorem c_impl_sortRows__impl_compareLists {M : Nat → Prop} {w : World} {pa0 : Option Addr} {pn0 pc0 : Nat} {pf0 : List Nat} (rows : List (List Int)) (h0 : (RT.os 43 (RT.os 3 (RT.int .i64))).val M w (.slice pa0 pn0 pc0) rows pf0) (hI : Own (Nw w (pf0 ++ ([]))) M w (pf0 ++ ([]))) (hM : ∀ g, w.heap.size ≤ g → M g) {r : (List (List Int))} (hs : s_impl_sortRows__impl_compareLists rows = some r) :
    Gives Try.prog 105 [(.slice pa0 pn0 pc0), (.func (.func 78) #[] #[])] w (fun v w' => ∃ (rfi0 : List Nat), v = (.tuple #[]) ∧ Chg (pf0 ++ ([])) w w' ∧ (RT.os 43 (RT.os 3 (RT.int .i64))).val M w' (.slice pa0 pn0 pc0) r rfi0 ∧ Own (Nw w (pf0 ++ ([]))) (fun _ => True) w' (rfi0 ++ ([]))) := by
 refine calls_fr Try.func105 rfl Try.ntmps105 (Nat.le_of_ble_eq_true rfl) ?_
 have hO := hI
 have hC := Chg.refl (pf0 ++ ([])) w
 unfold s_impl_sortRows__impl_compareLists at hs
 refine wp_mono (Q := KPostN (k_impl_sortRows__impl_compareLists M w pa0 pn0 pc0 pf0 r)) ?_ (fun e a c5 h => ?_)
 rotate_left
 ·cases e
  case ret =>
   obtain ⟨σ, rfi0, rfl, hrest⟩ := h
   exact ret0x Try.results105  ⟨rfi0, rfl, hrest⟩
  case normal =>
   obtain ⟨σ, rfi0, rfl, hrest⟩ := h
   exact ret0n Try.results105  ⟨rfi0, rfl, hrest⟩
  all_goals exact (h : False).elim
 refine c_sr ?_
 obtain ⟨b0, a1, b4, b1, a6, a0⟩ := new_block w [(.slice pa0 pn0 pc0)] 25
 refine pl_val (w' := b0) (.pointer (some ⟨a1, 0, none⟩)) (y_box rfl (by rw [b4, b1]; kernel_rfl)) ?_
 have h0 := h0.ext a6
 have hC := hC.ext a6
 have hO := hO.new1 a6 b1 a0.lt
 obtain ⟨a7, a2, b5, b2, a4, a3⟩ := new_block b0 [(.func (.func 78) #[] #[])] 99
 refine pl_val (w' := a7) (.pointer (some ⟨a2, 0, none⟩)) (y_box rfl (by rw [b5, b2]; kernel_rfl)) ?_
 have h0 := h0.ext a4
 have a0 := a0.cn a4
 have hC := hC.ext a4
 have hO := hO.new1 a4 b2 a3.lt
 refine c_nil ?_
 refine c_region ?_
 refine pl_val (.slice pa0 pn0 pc0) (y_load rfl ((box_load Ag25 Sz25 a0 [] [(.slice pa0 pn0 pc0)] [] rfl rfl (fun _ => rfl)) _ (Chg.refl _ _))) ?_
 refine pl_val (.iface 25 (.slice pa0 pn0 pc0)) (y_iface Try.underlying25 rfl) ?_
 refine pl_val (.func (.func 115) #[] #[(.pointer (some ⟨a2, 0, none⟩)), (.pointer (some ⟨a1, 0, none⟩))]) (y_func rfl rfl) ?_
 have hO := hO.fr2
 obtain ⟨c6, b3, b6, a8, b7⟩ := Ei43
 have b8 := os_n h0
 obtain ⟨c7, b9, c0⟩ := sort_env (P := Try.prog) (ke := 23) (M := M) (gO := a2) (gR := a1) (tO := 99) (tR := 25) (fv := (.func (.func 78) #[] #[])) (ls := (fun x_ y_ => (s_impl_compareLists x_ y_).bind fun r_ => some (decide (r_ < 0)))) (g := 115) (lb := #[(.pointer (some ⟨a2, 0, none⟩)), (.pointer (some ⟨a1, 0, none⟩))]) rfl b3 b6 Ag43 a8 b7 rfl Sn1 Sn2 Sn9 Fs2 Fx129 Bd115 hO.inM (fun hg => hO.apart _ hg (mem_l (List.mem_singleton.2 rfl))) (fun hg => hO.apart _ hg (mem_r (mem_l (List.mem_singleton.2 rfl)))) (fun h hm ho hr hf hl => c_impl_sortRows_1__impl_compareLists (M := Less M _) _ _ _ ho (((Frz.os (Frz.os Frz.int))).val h Less.sub Less.not) hr (less_fut hf h.fpl) (show s_impl_sortRows_1__impl_compareLists _ _ _ = some _ from hl)) h0 (n0 := (a7).heap.size) hO.lt a3.lt a0.lt hO.fut
 have c1 : SortI (RT.os 3 (RT.int .i64)) 43 M pa0 pn0 pc0 pf0 a2 a1 99 25 (.func (.func 78) #[] #[]) a7 rows := ⟨⟨_, h0, List.Perm.refl _⟩, a3, a0, hO.fut⟩
 have c2 := Own.lend (F := (pf0 ++ ([]))) (R := ([a2]) ++ (([a1]) ++ ([]))) (Own.perm hO (by simp))
 obtain ⟨r5, c3, hs⟩ := bind_some hs
 refine pl_call Bd114 rfl (c_sort_SliceStable (M := M) (fun x_ y_ => (s_impl_compareLists x_ y_).bind fun r_ => some (decide (r_ < 0))) rows pn0 (Nat.le_refl _) b3 b9 c0 c1 c2 hO.fut (by rw [b8]; exact c3)) ?_
 rintro _ c8 ⟨rfl, a5, ⟨⟨c4, a9, a8⟩, _, _, _⟩⟩
 have a0 := a0.ap a5 hO nil_mem (mem_r (mem_l (List.mem_singleton.2 rfl)))
 have a3 := a3.ap a5 hO nil_mem (mem_l (List.mem_singleton.2 rfl))
 have hC := hC.st a5 hO nil_mem
 have hO := hO.grow a5 (fun q hq => .inl (a8.mem_iff.1 hq)) (os_nodup a9) a9.fpl
 refine c_nil ?_
 cases hs
 have hO := hO.fr1
 have hO := hO.drop
 have hO := hO.fr1
 have hO := hO.drop
 exact ⟨_, c4, fr_ovl 8 trivial, hC, a9, hO.top⟩

theorem Bd105 : Bodied Try.prog 105 := bodied Try.func105 (by kernel_rfl) rfl

def k_impl_sortedTuples (M : Nat → Prop) (w0 : World) (r : (List (List Int))) (a : Act) (w : World) : Prop :=
  ∃ (σ : Nat → Value) (ra0 : Option Addr) (rn0 rc0 : Nat) (rf0 : List Nat), a = fr 9 (ovl σ [(2, (.slice ra0 rn0 rc0))]) ∧ Chg [] w0 w ∧ (RT.os 43 (RT.os 3 (RT.int .i64))).val M w (.slice ra0 rn0 rc0) r rf0 ∧ Own (Nw w0 []) (fun _ => True) w (rf0 ++ ([]))
def s_impl_sortedTuples (list : List (List Int)) : Option ((List (List Int))) :=
  (s_impl_cloneRows list).bind fun r3 =>
  (s_impl_sortRows__impl_compareLists r3).bind fun r6 =>
  some r6
set_option maxHeartbeats 4000000 in
theorem c_impl_sortedTuples {M : Nat → Prop} {w : World} {pa0 : Option Addr} {pn0 pc0 : Nat} (list : List (List Int)) (h0 : (RT.rs (RT.rs (RT.int .i64))).val M w (.slice pa0 pn0 pc0) list ([])) (hM : ∀ g, w.heap.size ≤ g → M g) {r : (List (List Int))} (hs : s_impl_sortedTuples list = some r) :
    Gives Try.prog 58 [(.slice pa0 pn0 pc0)] w (fun v w' => ∃ (ra0 : Option Addr) (rn0 rc0 : Nat) (rf0 : List Nat), v = (.slice ra0 rn0 rc0) ∧ Chg [] w w' ∧ (RT.os 43 (RT.os 3 (RT.int .i64))).val M w' (.slice ra0 rn0 rc0) r rf0 ∧ Own (Nw w []) (fun _ => True) w' (rf0 ++ ([]))) := by
 refine calls_fr Try.func58 rfl Try.ntmps58 (Nat.le_of_ble_eq_true rfl) ?_
 have hO := Own.start (N := Nw w []) hM Nw.fut
 have hC := Chg.refl [] w
 unfold s_impl_sortedTuples at hs
 refine wp_mono (Q := KPost (k_impl_sortedTuples M w r)) ?_ (fun e a b5 h => ?_)
 rotate_left
 ·cases e
  case ret =>
   obtain ⟨σ, ra0, rn0, rc0, rf0, rfl, hrest⟩ := h
   exact ret1x Try.results58 (res_tmp rfl) ⟨ra0, rn0, rc0, rf0, rfl, hrest⟩
  all_goals exact (h : False).elim
 refine c_sr ?_
 refine pl_val (.slice none 0 0) (y_assign rfl) ?_
 refine c_nil ?_
 refine c_sr ?_
 refine pl_val (.slice pa0 pn0 pc0) (y_move rfl) ?_
 obtain ⟨r3, a8, hs⟩ := bind_some hs
 refine pl_call Bd104 rfl (c_impl_cloneRows (M := M) list h0 hO.fut a8) ?_
 rintro _ b6 ⟨a0, a1, a2, a3, rfl, a4, a9, b0⟩
 have h0 := h0.ext a4
 have hC := hC.ext a4
 have hO := Own.join0 hO a4 b0
 have hO := hO.perm (R := a3 ++ ([])) (by simp)
 refine pl_val (.slice a0 a1 a2) (y_assign rfl) ?_
 refine c_nil ?_
 refine c_sr ?_
 refine pl_val (.slice a0 a1 a2) (y_move rfl) ?_
 have b1 := hO
 have a5 := Own.lend (F := (a3 ++ ([]))) (R := []) (Own.perm (b1) (by simp))
 obtain ⟨r6, b2, hs⟩ := bind_some hs
 refine pl_call Bd105 rfl (c_impl_sortRows__impl_compareLists (M := M) r3 a9 a5 a5.fut b2) ?_
 rintro _ b7 ⟨a6, rfl, a7, b3, b4⟩
 have hO := hO.perm (R := (a3 ++ ([])) ++ ([])) (by simp)
 have hC := hC.st a7 hO same_
 have hO := Own.join hO a7 b4
 have hO := hO.perm (R := a6 ++ ([])) (by simp)
 refine c_nil ?_
 refine c_sr ?_
 refine pl_val (.slice a0 a1 a2) (y_move rfl) ?_
 refine pl_val (.slice a0 a1 a2) (y_assign rfl) ?_
 refine c_nil ?_
 refine wp_ret ?_
 cases hs
 exact ⟨_, a0, a1, a2, a6, fr_ovl 9 ⟨rfl, trivial⟩, hC, b3, hO.top⟩

theorem Bd39 : Bodied Try.prog 39 := bodied Try.func39 (by kernel_rfl) rfl

theorem Bd89 : Bodied Try.prog 89 := bodied Try.func89 (by kernel_rfl) rfl

theorem Fa108x2 : ∀ (a : Addr) (w : World), (Instr.fieldAt 108 (.pointer (some a)) 2).run Try.prog w = .ok (.pointer (some (a.add 2))) w := fun _ _ => by kernel_rfl

theorem Bd56 : Bodied Try.prog 56 := bodied Try.func56 (by kernel_rfl) rfl

theorem Bd58 : Bodied Try.prog 58 := bodied Try.func58 (by kernel_rfl) rfl

theorem Fa108x0 : ∀ (a : Addr) (w : World), (Instr.fieldAt 108 (.pointer (some a)) 0).run Try.prog w = .ok (.pointer (some (a.add 0))) w := fun _ _ => by kernel_rfl

theorem Sz76 : SzT Try.prog 76 1 := ⟨_, rfl, rfl⟩

def k_impl_freeOf (M : Nat → Prop) (w0 : World) (r : (Option (((Int × (List (Int × (List Int)))) × Int × (List (List Int)) × (List (ByteArray × Int))) × Int × (List (List Int)))) × Bool) (a : Act) (w : World) : Prop :=
  ∃ (σ : Nat → Value) (rn0 : Value) (rf0 : List Nat), a = fr 117 (ovl σ [(4, rn0), (5, (.bool r.2))]) ∧ Chg [] w0 w ∧ (RT.op 108 (RT.pr (RT.po 81 (RT.pr (RT.pr (RT.int .i64) (RT.rs (RT.pr (RT.int .i64) (RT.rs (RT.int .i64))))) (RT.pr (RT.int .i64) (RT.pr (RT.os 43 (RT.rs (RT.int .i64))) (RT.mo (Value.int .i64)))))) (RT.pr (RT.int .i64) (RT.rs (RT.rs (RT.int .i64)))))).val (PastL M [] w0 w (rf0 ++ ([]))) w rn0 r.1 rf0 ∧ Own (Nw w0 []) (fun _ => True) w (rf0 ++ ([]))
def s_impl_freeOf (a_ : Int × (List (Int × (List Int)))) (k : Int) : Option ((Option (((Int × (List (Int × (List Int)))) × Int × (List (List Int)) × (List (ByteArray × Int))) × Int × (List (List Int)))) × Bool) :=
  ((s_impl_IsAlgebra (a_.1, a_.2)).bind fun r7 =>
  (bif (!r7) then some true else (bif (decide (k < 0)) then some true else (bif (decide (3 < k)) then some true else (s_impl_power a_.1 k).bind fun r12 =>
  some (decide (64 < r12)))))).bind fun s3 =>
  (bif s3 then some (none, false) else (s_impl_power a_.1 k).bind fun r15 =>
  (forC (S := (List (List Int))) (R := (Option (((Int × (List (Int × (List Int)))) × Int × (List (List Int)) × (List (ByteArray × Int))) × Int × (List (List Int)))) × Bool) (fun k107 s105 =>
  (mks r15 (0 : Int)).bind fun y116 =>
  (forC (S := (List Int)) (R := (Option (((Int × (List (Int × (List Int)))) × Int × (List (List Int)) × (List (ByteArray × Int))) × Int × (List (List Int)))) × Bool) (fun k137 s135 =>
  (s_impl_argsAt k137 k a_.1).bind fun r144 =>
  (idx r144 k107).bind fun x146 =>
  (idx s135 k137).bind fun x148 =>
  some (.nx (List.set s135 (Int.toNat k137) x146))) 0 (y116.length : Int) y116).bind fun o139 => after o139 (fun r_ => some (.rt r_)) (fun s135 =>
  (app s105 ([s135])).bind fun y154 =>
  some (.nx y154))) 0 k ([])).bind fun o109 => after o109 (fun r_ => some r_) (fun s105 =>
  (s_impl_spanOf (a_.1, a_.2) r15 s105).bind fun r167 =>
  (bif (!r167.2) then some (none, false) else (r167.1).bind fun p171 =>
  (s_impl_sortedTuples p171.2.2.1).bind fun r177 =>
  (forC (S := (List (ByteArray × Int))) (R := (Option (((Int × (List (Int × (List Int)))) × Int × (List (List Int)) × (List (ByteArray × Int))) × Int × (List (List Int)))) × Bool) (fun k199 s197 =>
  (idx r177 k199).bind fun x205 =>
  (s_impl_keyOf x205).bind fun r211 =>
  some (.nx (mput s197 r211 k199))) 0 (r177.length : Int) p171.2.2.2).bind fun o201 => after o201 (fun r_ => some r_) (fun s197 =>
  some ((some (((p171.1.1, p171.1.2), p171.2.1, r177, s197), k, s105)), true)))))
set_option maxHeartbeats 4000000 in
theorem c_impl_freeOf {M : Nat → Prop} {w : World} {pa0 : Option Addr} {pn0 pc0 : Nat} (a_ : Int × (List (Int × (List Int)))) (k : Int) (h0 : (RT.rs (RT.pr (RT.int .i64) (RT.rs (RT.int .i64)))).val M w (.slice pa0 pn0 pc0) a_.2 ([])) (hM : ∀ g, w.heap.size ≤ g → M g) {r : (Option (((Int × (List (Int × (List Int)))) × Int × (List (List Int)) × (List (ByteArray × Int))) × Int × (List (List Int)))) × Bool} (hs : s_impl_freeOf a_ k = some r) :
    Gives Try.prog 48 [(.agg #[(.int .i64 a_.1), (.slice pa0 pn0 pc0)]), (.int .i64 k)] w (fun v w' => ∃ (rn0 : Value) (rf0 : List Nat), v = (.tuple #[rn0, (.bool r.2)]) ∧ Chg [] w w' ∧ (RT.op 108 (RT.pr (RT.po 81 (RT.pr (RT.pr (RT.int .i64) (RT.rs (RT.pr (RT.int .i64) (RT.rs (RT.int .i64))))) (RT.pr (RT.int .i64) (RT.pr (RT.os 43 (RT.rs (RT.int .i64))) (RT.mo (Value.int .i64)))))) (RT.pr (RT.int .i64) (RT.rs (RT.rs (RT.int .i64)))))).val (PastL M [] w w' (rf0 ++ ([]))) w' rn0 r.1 rf0 ∧ Own (Nw w []) (fun _ => True) w' (rf0 ++ ([]))) := by
 refine calls_fr Try.func48 rfl Try.ntmps48 (Nat.le_of_ble_eq_true rfl) ?_
 have hO := Own.start (N := Nw w []) hM Nw.fut
 have hC := Chg.refl [] w
 unfold s_impl_freeOf at hs
 refine wp_mono (Q := KPost (k_impl_freeOf M w r)) ?_ (fun e a i5 h => ?_)
 rotate_left
 ·cases e
  case ret =>
   obtain ⟨σ, rn0, rf0, rfl, hrest⟩ := h
   exact ret2x Try.results48 (res_tmp rfl) (res_tmp rfl) ⟨rn0, rf0, rfl, hrest⟩
  all_goals exact (h : False).elim
 refine c_sr ?_
 obtain ⟨i6, a5, l7, k5, i7, a0⟩ := new_block w [(.int .i64 a_.1), (.slice pa0 pn0 pc0)] 35
 refine pl_val (w' := i6) (.pointer (some ⟨a5, 0, none⟩)) (y_box rfl (by rw [l7, k5]; kernel_rfl)) ?_
 have h0 := h0.ext i7
 have hC := hC.ext i7
 have hO := hO.new1 i7 k5 a0.lt
 refine pl_val (.pointer none) (y_assign rfl) ?_
 refine pl_val (.bool false) (y_assign rfl) ?_
 refine c_nil ?_
 refine c_seq ?_
 refine c_seq ?_
 obtain ⟨s3, l8, hs⟩ := bind_some hs
 refine c_mid (I := fun a k6 => ∃ (σ : Nat → Value), a = fr 117 (ovl σ [(1, (.int .i64 k)), (2, (.pointer (some ⟨a5, 0, none⟩))), (4, (.pointer none)), (5, (.bool false)), (32, (.bool s3))]) ∧ Chg [] i6 k6) ?_ ?_
 ·replace hs := l8
  have hMid := Chg.refl [] i6
  refine c_region ?_
  refine pl_val (.agg #[(.int .i64 a_.1), (.slice pa0 pn0 pc0)]) (y_load rfl ((box_load Ag35 Sz35 a0 [] [(.int .i64 a_.1), (.slice pa0 pn0 pc0)] [] rfl rfl (fun h => nomatch h)) _ (Chg.refl _ _))) ?_
  obtain ⟨r7, l9, hs⟩ := bind_some hs
  refine pl_call Bd39 rfl (c_impl_IsAlgebra (M := M) (a_.1, a_.2) h0 hO.fut l9) ?_
  rintro _ t3 ⟨rfl, g1⟩
  have h0 := h0.ext g1
  have a0 := a0.cn g1
  have hMid := hMid.ext g1
  have hC := hC.ext g1
  have hO := hO.ext g1
  refine pl_val (.bool (!r7)) (y_not rfl) ?_
  refine pl_val (.bool (!r7)) (y_move rfl) ?_
  rcases bif_some hs with ⟨e4, hs⟩ | ⟨e4, hs⟩
  ·skip
   refine pl_not (tg := 18) (by kernel_rfl) (congrArg Value.bool e4) ?_
   refine pl_not (tg := 18) (by kernel_rfl) (congrArg Value.bool e4) ?_
   refine pl_val (.bool true) (y_pick_t (congrArg Value.bool e4) rfl) ?_
   refine pl_val (.bool true) (y_move rfl) ?_
   refine pl_not (tg := 22) (by kernel_rfl) (by rfl) ?_
   refine pl_not (tg := 22) (by kernel_rfl) (by rfl) ?_
   refine pl_val (.bool true) (y_pick_t (by rfl) rfl) ?_
   refine pl_val (.bool true) (y_move rfl) ?_
   refine pl_not (tg := 26) (by kernel_rfl) (by rfl) ?_
   refine pl_not (tg := 26) (by kernel_rfl) (by rfl) ?_
   refine pl_not (tg := 26) (by kernel_rfl) (by rfl) ?_
   refine pl_not (tg := 26) (by kernel_rfl) (by rfl) ?_
   refine pl_not (tg := 26) (by kernel_rfl) (by rfl) ?_
   refine pl_val (.bool true) (y_pick_t (by rfl) rfl) ?_
   refine c_nil ?_
   cases hs
   exact ⟨_, fr_ovl 117 ⟨rfl, rfl, rfl, rfl, rfl, trivial⟩, hMid⟩
  refine pl_yes (.int .i64 k) (tg := 18) (by kernel_rfl) (congrArg Value.bool e4) (y_move rfl) ?_
  refine pl_yes (.bool (decide (k < 0))) (tg := 18) (by kernel_rfl) (congrArg Value.bool e4) (y_lss rfl rfl) ?_
  refine pl_val (.bool (decide (k < 0))) (y_pick_f (congrArg Value.bool e4) rfl) ?_
  refine pl_val (.bool (decide (k < 0))) (y_move rfl) ?_
  rcases bif_some hs with ⟨e5, hs⟩ | ⟨e5, hs⟩
  ·skip
   refine pl_not (tg := 22) (by kernel_rfl) (congrArg Value.bool e5) ?_
   refine pl_not (tg := 22) (by kernel_rfl) (congrArg Value.bool e5) ?_
   refine pl_val (.bool true) (y_pick_t (congrArg Value.bool e5) rfl) ?_
   refine pl_val (.bool true) (y_move rfl) ?_
   refine pl_not (tg := 26) (by kernel_rfl) (by rfl) ?_
   refine pl_not (tg := 26) (by kernel_rfl) (by rfl) ?_
   refine pl_not (tg := 26) (by kernel_rfl) (by rfl) ?_
   refine pl_not (tg := 26) (by kernel_rfl) (by rfl) ?_
   refine pl_not (tg := 26) (by kernel_rfl) (by rfl) ?_
   refine pl_val (.bool true) (y_pick_t (by rfl) rfl) ?_
   refine c_nil ?_
   cases hs
   exact ⟨_, fr_ovl 117 ⟨rfl, rfl, rfl, rfl, rfl, trivial⟩, hMid⟩
  refine pl_yes (.int .i64 k) (tg := 22) (by kernel_rfl) (congrArg Value.bool e5) (y_move rfl) ?_
  refine pl_yes (.bool (decide (3 < k))) (tg := 22) (by kernel_rfl) (congrArg Value.bool e5) (y_gtr rfl rfl) ?_
  refine pl_val (.bool (decide (3 < k))) (y_pick_f (congrArg Value.bool e5) rfl) ?_
  refine pl_val (.bool (decide (3 < k))) (y_move rfl) ?_
  rcases bif_some hs with ⟨b7, hs⟩ | ⟨b7, hs⟩
  ·skip
   refine pl_not (tg := 26) (by kernel_rfl) (congrArg Value.bool b7) ?_
   refine pl_not (tg := 26) (by kernel_rfl) (congrArg Value.bool b7) ?_
   refine pl_not (tg := 26) (by kernel_rfl) (congrArg Value.bool b7) ?_
   refine pl_not (tg := 26) (by kernel_rfl) (congrArg Value.bool b7) ?_
   refine pl_not (tg := 26) (by kernel_rfl) (congrArg Value.bool b7) ?_
   refine pl_val (.bool true) (y_pick_t (congrArg Value.bool b7) rfl) ?_
   refine c_nil ?_
   cases hs
   exact ⟨_, fr_ovl 117 ⟨rfl, rfl, rfl, rfl, rfl, trivial⟩, hMid⟩
  refine pl_yes (.pointer (some ⟨a5, 0, none⟩)) (tg := 26) (by kernel_rfl) (congrArg Value.bool b7) (y_faddr rfl Fa35x0) ?_
  refine pl_yes (.int .i64 a_.1) (tg := 26) (by kernel_rfl) (congrArg Value.bool b7) (y_load rfl ((box_load Ag3 Sz3 a0 [] [(.int .i64 a_.1)] [(.slice pa0 pn0 pc0)] rfl rfl (fun _ => rfl)) _ (Chg.refl _ _))) ?_
  refine pl_yes (.int .i64 k) (tg := 26) (by kernel_rfl) (congrArg Value.bool b7) (y_move rfl) ?_
  obtain ⟨r12, m0, hs⟩ := bind_some hs
  refine pl_cally (tg := 26) (by kernel_rfl) (congrArg Value.bool b7) Bd88 rfl (c_impl_power (M := M) a_.1 k  hO.fut m0) ?_
  rintro _ t4 ⟨rfl, g2⟩
  have h0 := h0.ext g2
  have a0 := a0.cn g2
  have hMid := hMid.ext g2
  have hC := hC.ext g2
  have hO := hO.ext g2
  refine pl_yes (.bool (decide (64 < r12))) (tg := 26) (by kernel_rfl) (congrArg Value.bool b7) (y_gtr rfl rfl) ?_
  refine pl_val (.bool (decide (64 < r12))) (y_pick_f (congrArg Value.bool b7) rfl) ?_
  refine c_nil ?_
  cases hs
  exact ⟨_, fr_ovl 117 ⟨rfl, rfl, rfl, rfl, rfl, trivial⟩, hMid⟩
 rintro f3 k6 ⟨σ, rfl, h2⟩
 have h0 := h0.ext h2
 have a0 := a0.cn h2
 have hC := hC.ext h2
 have hO := hO.ext h2
 rcases bif_some hs with ⟨i9, hs⟩ | ⟨i9, hs⟩
 ·refine c_condT (congrArg Value.bool i9) ?_
  refine c_sr ?_
  refine pl_val (.pointer none) (y_assign rfl) ?_
  refine pl_val (.bool false) (y_assign rfl) ?_
  refine c_nil ?_
  refine wp_ret ?_
  cases hs
  have hO := hO.drop
  have hO := hO.nil
  exact ⟨_, (.pointer none), [], fr_ovl 117 ⟨rfl, rfl, trivial⟩, hC, op_none, hO.top⟩
 refine c_condF (congrArg Value.bool i9) ?_
 refine wp_skip ?_
 refine c_sr ?_
 refine pl_val (.pointer (some ⟨a5, 0, none⟩)) (y_faddr rfl Fa35x0) ?_
 refine pl_val (.int .i64 a_.1) (y_load rfl ((box_load Ag3 Sz3 a0 [] [(.int .i64 a_.1)] [(.slice pa0 pn0 pc0)] rfl rfl (fun _ => rfl)) _ (Chg.refl _ _))) ?_
 refine pl_val (.int .i64 k) (y_move rfl) ?_
 obtain ⟨r15, m1, hs⟩ := bind_some hs
 refine pl_call Bd88 rfl (c_impl_power (M := M) a_.1 k  hO.fut m1) ?_
 rintro _ m2 ⟨rfl, h3⟩
 have h0 := h0.ext h3
 have a0 := a0.cn h3
 have hC := hC.ext h3
 have hO := hO.ext h3
 refine pl_val (.int .i64 r15) (y_assign rfl) ?_
 refine c_nil ?_
 refine c_sr ?_
 refine pl_val (.int .i64 k) (y_move rfl) ?_
 refine pl_val (.agg #[(.pointer none), (.int .i64 k), (.slice none 0 0)]) (y_build rfl (by kernel_rfl)) ?_
 obtain ⟨m3, a1, m4, k7, h4, a2⟩ := new_block m2 [(.pointer none), (.int .i64 k), (.slice none 0 0)] 108
 refine pl_val (w' := m3) (.pointer (some ⟨a1, 0, none⟩)) (y_box rfl (by rw [m4, k7]; kernel_rfl)) ?_
 have h0 := h0.ext h4
 have a0 := a0.cn h4
 have hC := hC.ext h4
 have hO := hO.new1 h4 k7 a2.lt
 refine pl_val (.pointer (some ⟨a1, 0, none⟩)) (y_assign rfl) ?_
 refine c_nil ?_
 refine c_seq ?_
 refine c_sr ?_
 refine pl_val (.int .i64 0) (y_assign rfl) ?_
 refine c_nil ?_
 obtain ⟨o109, m5, hs⟩ := bind_some hs
 refine wp_block ?_
 refine wp_forC (id := 0) k (I := fun k107 s105 a a9 => ∃ (σ : Nat → Value) (b9 : Option Addr) (c0 : Nat) (c1 : Nat) (c2 : List Nat), a = fr 117 (ovl σ [(1, (.int .i64 k)), (2, (.pointer (some ⟨a5, 0, none⟩))), (6, (.int .i64 r15)), (7, (.pointer (some ⟨a1, 0, none⟩))), (8, (.int .i64 k107))]) ∧ Chg [] w a9 ∧ Own (Nw w []) M a9 (c2 ++ (([a1]) ++ (([a5]) ++ []))) ∧ (RT.rs (RT.pr (RT.int .i64) (RT.rs (RT.int .i64)))).val M a9 (.slice pa0 pn0 pc0) a_.2 ([]) ∧ BoxV a9 a5 35 [(.int .i64 a_.1), (.slice pa0 pn0 pc0)] ∧ BoxV a9 a1 108 [(.pointer none), (.int .i64 k), (.slice b9 c0 c1)] ∧ (RT.os 43 (RT.os 3 (RT.int .i64))).val M a9 (.slice b9 c0 c1) s105 c2) (J := fun s105 a a9 => ∃ (σ : Nat → Value) (c3 : Option Addr) (c4 : Nat) (c5 : Nat) (j0 : List Nat), a = fr 117 (ovl σ [(2, (.pointer (some ⟨a5, 0, none⟩))), (6, (.int .i64 r15)), (7, (.pointer (some ⟨a1, 0, none⟩)))]) ∧ Chg [] w a9 ∧ Own (Nw w []) M a9 (j0 ++ (([a1]) ++ (([a5]) ++ []))) ∧ (RT.rs (RT.pr (RT.int .i64) (RT.rs (RT.int .i64)))).val M a9 (.slice pa0 pn0 pc0) a_.2 ([]) ∧ BoxV a9 a5 35 [(.int .i64 a_.1), (.slice pa0 pn0 pc0)] ∧ BoxV a9 a1 108 [(.pointer none), (.int .i64 k), (.slice c3 c4 c5)] ∧ (RT.os 43 (RT.os 3 (RT.int .i64))).val M a9 (.slice c3 c4 c5) s105 j0) (K := (k_impl_freeOf M w)) ?_ ?_ 0 ([]) o109 _ _ ?_ m5 ?_
 ·rintro k107 s105 a a9 ⟨σ, b9, c0, c1, c2, rfl, hC, hO, h0, a0, a2, b3⟩ hlt
  refine c_seq ?_
  refine c_sr ?_
  refine pl_val (.int .i64 k107) (y_move rfl) ?_
  refine pl_val (.int .i64 k) (y_move rfl) ?_
  refine pl_val (.bool (decide (k107 < k))) (y_lss rfl rfl) ?_
  refine c_nil ?_
  refine c_condF (congrArg Value.bool (decide_eq_false hlt)) ?_
  refine wp_exit ?_
  have hO := hO.fr2
  have hO := hO.fr2
  have hO := hO.fr2
  exact ⟨rfl, _, b9, c0, c1, c2, fr_ovl 117 ⟨rfl, rfl, rfl, trivial⟩, hC, hO, h0, a0, a2, b3⟩
 ·rintro k107 s105 o109 a a9 ⟨σ, b9, c0, c1, c2, rfl, hC, hO, h0, a0, a2, b3⟩ hlt hw hs
  refine c_seq ?_
  refine c_sr ?_
  refine pl_val (.int .i64 k107) (y_move rfl) ?_
  refine pl_val (.int .i64 k) (y_move rfl) ?_
  refine pl_val (.bool (decide (k107 < k))) (y_lss rfl rfl) ?_
  refine c_nil ?_
  refine c_condT (congrArg Value.bool (decide_eq_true hlt)) ?_
  refine wp_skip ?_
  refine c_seq ?_
  refine wp_block ?_
  refine c_sr ?_
  refine pl_val (.int .i64 r15) (y_move rfl) ?_
  obtain ⟨y116, m6, hs⟩ := bind_some hs
  obtain ⟨c6, c7, c8, m7, m8, m9, f4, n0, h5⟩ := mk_os (M := M) (w := a9) (r := (RT.int .i64)) Rw43 m6 (fun _ _ => ⟨rfl, rfl⟩)
  refine pl_val (w' := m7) (.slice c6 c7 c8) (y_make rfl rfl m9) ?_
  have h0 := h0.ext f4
  have a0 := a0.cn f4
  have a2 := a2.cn f4
  have b3 := b3.ext f4
  have hC := hC.ext f4
  have hO := hO.new f4 n0 (os_nodup h5) h5.fpl
  refine pl_val (.slice c6 c7 c8) (y_assign rfl) ?_
  refine c_nil ?_
  refine c_seq ?_
  refine c_sr ?_
  refine pl_val (.slice c6 c7 c8) (y_move rfl) ?_
  refine pl_val (.int .i64 (y116.length : Int)) (y_len' Sl43 (os_len h5) rfl) ?_
  refine pl_val (.int .i64 0) (y_move rfl) ?_
  refine c_nil ?_
  obtain ⟨o139, n1, hs⟩ := bind_some hs
  refine wp_block ?_
  refine wp_forC (id := 2) (y116.length : Int) (I := fun k137 s135 a b0 => ∃ (σ : Nat → Value) (e6 : List Nat), a = fr 117 (ovl σ [(1, (.int .i64 k)), (2, (.pointer (some ⟨a5, 0, none⟩))), (6, (.int .i64 r15)), (7, (.pointer (some ⟨a1, 0, none⟩))), (8, (.int .i64 k107)), (9, (.slice c6 c7 c8)), (48, (.int .i64 (y116.length : Int))), (49, (.int .i64 k137))]) ∧ Chg [] w b0 ∧ Own (Nw w []) M b0 (e6 ++ (c2 ++ (([a1]) ++ (([a5]) ++ [])))) ∧ (RT.rs (RT.pr (RT.int .i64) (RT.rs (RT.int .i64)))).val M b0 (.slice pa0 pn0 pc0) a_.2 ([]) ∧ BoxV b0 a5 35 [(.int .i64 a_.1), (.slice pa0 pn0 pc0)] ∧ BoxV b0 a1 108 [(.pointer none), (.int .i64 k), (.slice b9 c0 c1)] ∧ (RT.os 43 (RT.os 3 (RT.int .i64))).val M b0 (.slice b9 c0 c1) s105 c2 ∧ (RT.os 3 (RT.int .i64)).val M b0 (.slice c6 c7 c8) s135 e6) (J := fun s135 a b0 => ∃ (σ : Nat → Value) (f5 : List Nat), a = fr 117 (ovl σ [(1, (.int .i64 k)), (2, (.pointer (some ⟨a5, 0, none⟩))), (6, (.int .i64 r15)), (7, (.pointer (some ⟨a1, 0, none⟩))), (8, (.int .i64 k107)), (9, (.slice c6 c7 c8))]) ∧ Chg [] w b0 ∧ Own (Nw w []) M b0 (f5 ++ (c2 ++ (([a1]) ++ (([a5]) ++ [])))) ∧ (RT.rs (RT.pr (RT.int .i64) (RT.rs (RT.int .i64)))).val M b0 (.slice pa0 pn0 pc0) a_.2 ([]) ∧ BoxV b0 a5 35 [(.int .i64 a_.1), (.slice pa0 pn0 pc0)] ∧ BoxV b0 a1 108 [(.pointer none), (.int .i64 k), (.slice b9 c0 c1)] ∧ (RT.os 43 (RT.os 3 (RT.int .i64))).val M b0 (.slice b9 c0 c1) s105 c2 ∧ (RT.os 3 (RT.int .i64)).val M b0 (.slice c6 c7 c8) s135 f5) (K := (k_impl_freeOf M w)) ?_ ?_ 0 y116 o139 _ _ ?_ n1 ?_
  ·rintro k137 s135 a b0 ⟨σ, e6, rfl, hC, hO, h0, a0, a2, b3, e0⟩ hlt
   refine c_sr ?_
   refine pl_val (.bool (decide (k137 < (y116.length : Int)))) (y_lss rfl rfl) ?_
   refine c_nil ?_
   refine c_seq ?_
   refine c_condF (congrArg Value.bool (decide_eq_false hlt)) ?_
   refine wp_exit ?_
   have hO := hO.fr3
   have hO := hO.fr3
   have hO := hO.fr3
   have hO := hO.fr3
   exact ⟨rfl, _, e6, fr_ovl 117 ⟨rfl, rfl, rfl, rfl, rfl, rfl, trivial⟩, hC, hO, h0, a0, a2, b3, e0⟩
  ·rintro k137 s135 o139 a b0 ⟨σ, e6, rfl, hC, hO, h0, a0, a2, b3, e0⟩ hlt hw hs
   refine c_sr ?_
   refine pl_val (.bool (decide (k137 < (y116.length : Int)))) (y_lss rfl rfl) ?_
   refine c_nil ?_
   refine c_seq ?_
   refine c_condT (congrArg Value.bool (decide_eq_true hlt)) ?_
   refine wp_skip ?_
   refine c_seq ?_
   refine wp_block ?_
   refine c_sr ?_
   refine pl_val (.int .i64 k137) (y_move rfl) ?_
   refine pl_val (.int .i64 k137) (y_assign rfl) ?_
   refine c_nil ?_
   refine c_region ?_
   refine pl_val (.slice c6 c7 c8) (y_move rfl) ?_
   refine pl_val (.int .i64 k137) (y_move rfl) ?_
   refine pl_val (.int .i64 k137) (y_move rfl) ?_
   refine pl_val (.int .i64 k) (y_move rfl) ?_
   refine pl_val (.pointer (some ⟨a5, 0, none⟩)) (y_faddr rfl Fa35x0) ?_
   refine pl_val (.int .i64 a_.1) (y_load rfl ((box_load Ag3 Sz3 a0 [] [(.int .i64 a_.1)] [(.slice pa0 pn0 pc0)] rfl rfl (fun _ => rfl)) _ (Chg.refl _ _))) ?_
   obtain ⟨r144, n2, hs⟩ := bind_some hs
   refine pl_call Bd89 rfl (c_impl_argsAt (M := M) k137 k a_.1  hO.fut n2) ?_
   rintro _ t5 ⟨t6, t7, t8, n3, rfl, e7, j1, n4⟩
   have h0 := h0.ext e7
   have a0 := a0.cn e7
   have a2 := a2.cn e7
   have b3 := b3.ext e7
   have e0 := e0.ext e7
   have hC := hC.ext e7
   have hO := Own.join0 hO e7 n4
   have hO := hO.perm (R := n3 ++ (e6 ++ (c2 ++ (([a1]) ++ (([a5]) ++ ([])))))) (by simp)
   refine pl_val (.int .i64 k107) (y_move rfl) ?_
   obtain ⟨x146, n5, hs⟩ := bind_some hs
   obtain ⟨n6, t9, u0, u1, n7, n8, u2⟩ := os_idx Sl43 Sz3 j1 n5
   refine pl_val (.pointer (some ⟨n6, 0 + Int.toNat k107 * 1, none⟩)) (n7 _ _ _ _ _ _ _ _ _ rfl rfl) ?_
   refine pl_val (.int .i64 x146) (y_load rfl ((at_load_int Ag3 Sz3 n8) _ (Chg.refl _ _))) ?_
   obtain ⟨x148, n9, hs⟩ := bind_some hs
   obtain ⟨k8, u3, k9, o0, o1, u4, u5⟩ := os_idx Sl43 Sz3 e0 n9
   refine pl_val (.pointer (some ⟨k8, 0 + Int.toNat k137 * 1, none⟩)) (o1 _ _ _ _ _ _ _ _ _ rfl rfl) ?_
   have hO := hO.fr1
   obtain ⟨o2, o3, o4, e8, o5, j2⟩ := os_store (P := Try.prog) (c' := [(.int .i64 x146)]) k9 e0 o0 (fun g hg => hO.inM g (os_block e0 g (by simpa using hg))) ⟨rfl, rfl⟩ List.nodup_nil (fun _ h => nomatch h) (fun _ h => .inl h)
   have f6 : ∀ q ∈ [k8], q ∈ e6 := fun q hq => os_block e0 q (by rw [k9]; exact hq)
   refine pl_skip (w' := o2) (ys_store rfl rfl (o4 _ _ rfl Sz3)) ?_
   have h0 := h0.mt e8 hO f6
   have a0 := a0.ap e8 hO f6 (mem_r (mem_r (mem_r (mem_l (List.mem_singleton.2 rfl)))))
   have a2 := a2.ap e8 hO f6 (mem_r (mem_r (mem_l (List.mem_singleton.2 rfl))))
   have b3 := b3.ma e8 hO f6 (fun _ e => (mem_r (mem_l (e))))
   have j1 := j1.ma e8 hO f6 (fun _ e => (mem_l (e)))
   have hC := hC.st e8 hO f6
   have hO := hO.grow e8 (fun q hq => .inl ((o5 q hq).resolve_right (fun h => nomatch h))) (os_nodup j2) j2.fpl
   refine c_nil ?_
   refine c_region ?_
   refine pl_val (.int .i64 (w64 (k137 + 1))) (y_add rfl rfl) ?_
   refine pl_val (.int .i64 (w64 (k137 + 1))) (y_move rfl) ?_
   refine c_nil ?_
   cases hs
   have hO := hO.fr1
   have hO := hO.drop
   have hO := hO.fr3
   have hO := hO.fr3
   have hO := hO.fr3
   have hO := hO.fr3
   exact ⟨_, o3, fr_ovl 117 ⟨rfl, rfl, rfl, rfl, rfl, rfl, rfl, congrArg (Value.int .i64) hw, trivial⟩, hC, hO, h0, a0, a2, b3, j2⟩
  ·skip
   have hO := hO.fr3
   have hO := hO.fr3
   have hO := hO.fr3
   have hO := hO.fr3
   exact ⟨_, m8, fr_ovl 117 ⟨rfl, rfl, rfl, rfl, rfl, rfl, rfl, rfl, trivial⟩, hC, hO, h0, a0, a2, b3, h5⟩
  cases o139 with
  | nx _ => exact True.intro
  | rt r_ =>
   have hs := after_rt hs
   intro f3 i5 hK
   cases hs
   exact hK
  | br s135 =>
   have hs := after_br hs
   rintro f3 b0 ⟨σ, f5, rfl, hC, hO, h0, a0, a2, b3, j3⟩
   refine c_region ?_
   refine pl_val (.pointer (some ⟨a1, 0, none⟩)) (y_move rfl) ?_
   refine pl_val (.pointer (some ⟨a1, 0, none⟩)) (y_move rfl) ?_
   refine pl_val (.pointer (some ⟨a1, 0, none⟩)) (y_nilc rfl) ?_
   refine pl_val (.pointer (some ⟨a1, 2, none⟩)) (y_faddr rfl Fa108x2) ?_
   refine pl_val (.slice b9 c0 c1) (y_load rfl ((box_load Ag25 Sz25 a2 [(.pointer none), (.int .i64 k)] [(.slice b9 c0 c1)] [] rfl rfl (fun _ => rfl)) _ (Chg.refl _ _))) ?_
   refine pl_val (.slice c6 c7 c8) (y_move rfl) ?_
   obtain ⟨l0, h6, o6, l1, e9, l2⟩ := new_block b0 [(.slice c6 c7 c8)] 43
   refine pl_val (w' := l0) (.slice (some ⟨h6, 0, none⟩) 1 1) (y_bslice rfl (by rw [o6, l1]; kernel_rfl)) ?_
   have h0 := h0.ext e9
   have a0 := a0.cn e9
   have a2 := a2.cn e9
   have b3 := b3.ext e9
   have j3 := j3.ext e9
   have hC := hC.ext e9
   have hO := hO.new1 e9 l1 l2.lt
   have hO := hO.perm (R := (h6 :: ((f5) ++ ([]))) ++ (c2 ++ (([a1]) ++ (([a5]) ++ ([]))))) (by simp)
   have o7 := hO.nd
   have j4 := os_of_box (r := (RT.os 3 (RT.int .i64))) (M := M) (css := [[(.slice c6 c7 c8)]]) (fps := [(f5 : List Nat)]) (xs := ([s135] : List (List Int))) l2 ⟨(os_unval j3), trivial⟩ (Nat.le_of_ble_eq_true rfl) o7
   have j4 : (RT.os 43 (RT.os 3 (RT.int .i64))).val M l0 (.slice (some ⟨h6, 0, none⟩) 1 1) [s135] (h6 :: ((f5) ++ ([]))) := j4
   obtain ⟨y154, o8, hs⟩ := bind_some hs
   have hO := hO.fr1
   obtain ⟨h7, h8, h9, o9, p0, p1, g3, p2, g4⟩ := app_os Rw25 o8 b3 j4 hO.inM (fun g hg hq => hO.apart g hq (mem_l hg))
   have i0 := os_block b3
   refine pl_val (w' := o9) (.slice h7 h8 h9) (y_append rfl rfl (p1 _)) ?_
   have hO := hO.fr1
   have hO := hO.fr1
   have h0 := h0.mt g3 hO i0
   have a0 := a0.ap g3 hO i0 (mem_r (mem_r (mem_l (List.mem_singleton.2 rfl))))
   have a2 := a2.ap g3 hO i0 (mem_r (mem_l (List.mem_singleton.2 rfl)))
   have hC := hC.st g3 hO i0
   have hO := hO.eat g3 p2 (os_nodup g4) g4.fpl
   refine pl_val (.pointer (some ⟨a1, 0, none⟩)) (y_nilc rfl) ?_
   refine pl_val (.pointer (some ⟨a1, 2, none⟩)) (y_faddr rfl Fa108x2) ?_
   obtain ⟨l3, p3, g5, j5⟩ := box_store (P := Try.prog) a2 [(.pointer none), (.int .i64 k)] [(.slice b9 c0 c1)] [] [(.slice h7 h8 h9)] rfl rfl (by intro u hu; simp only [List.mem_cons, List.not_mem_nil, or_false] at hu; rcases hu with rfl <;> rfl)
   refine pl_skip (w' := l3) (ys_store rfl rfl (p3 _ _ rfl Sz25)) ?_
   have hO := hO.fr1
   have h0 := h0.mt g5 hO same_
   have a0 := a0.ap g5 hO same_ (mem_r (mem_l (List.mem_singleton.2 rfl)))
   have g4 := g4.ma g5 hO same_ (fun _ e => (mem_l (e)))
   have hC := hC.st g5 hO same_
   have hO := hO.ext g5
   have j5 : BoxV l3 a1 108 [(.pointer none), (.int .i64 k), (.slice h7 h8 h9)] := j5
   refine c_nil ?_
   refine c_region ?_
   refine pl_val (.int .i64 k107) (y_move rfl) ?_
   refine pl_val (.int .i64 (w64 (k107 + 1))) (y_add rfl rfl) ?_
   refine pl_val (.int .i64 (w64 (k107 + 1))) (y_assign rfl) ?_
   refine c_nil ?_
   cases hs
   have hO := hO.fr2
   have hO := hO.fr1
   have hO := hO.fr2
   exact ⟨_, h7, h8, h9, p0, fr_ovl 117 ⟨rfl, rfl, rfl, rfl, congrArg (Value.int .i64) hw, trivial⟩, hC, hO, h0, a0, j5, g4⟩
 ·skip
  have hO := hO.fr1
  have hO := hO.fr1
  have hO := hO.nil
  exact ⟨_, none, 0, 0, [], fr_ovl 117 ⟨rfl, rfl, rfl, rfl, rfl, trivial⟩, hC, hO, h0, a0, a2, os_nil⟩
 cases o109 with
 | nx _ => exact True.intro
 | rt r_ =>
  have hs := after_rt hs
  intro f3 i5 hK
  cases hs
  exact hK
 | br s105 =>
  have hs := after_br hs
  rintro f3 a9 ⟨σ, c3, c4, c5, j0, rfl, hC, hO, h0, a0, a2, j6⟩
  refine c_seq ?_
  refine x_start [] Mx rfl ?_
  have f0 := Chg.drew a9
  generalize World.drew a9 = b5 at f0 ⊢
  have h0 := h0.ext f0
  have a0 := a0.cn f0
  have a2 := a2.cn f0
  have j6 := j6.ext f0
  have hC := hC.ext f0
  have hO := hO.ext f0
  have hS := Chg.refl [] b5
  refine x_l 0 (.agg #[(.int .i64 a_.1), (.slice pa0 pn0 pc0)]) rfl (by kernel_rfl)  (fun w' hw' => y_load rfl ((box_load Ag35 Sz35 a0 [] [(.int .i64 a_.1), (.slice pa0 pn0 pc0)] [] rfl rfl (fun h => nomatch h)) w' hw')) hS ?_
  refine x_p 1 (.int .i64 r15) rfl (by kernel_rfl)  (fun _ => y_move rfl) (fun _ => hS) ?_
  refine x_p 2 (.pointer (some ⟨a1, 0, none⟩)) rfl (by kernel_rfl)  (fun _ => y_move rfl) (fun _ => hS) ?_
  refine x_p 3 (.pointer (some ⟨a1, 0, none⟩)) rfl (by kernel_rfl)  (fun _ => y_nilc rfl) (fun _ => hS) ?_
  refine x_p 4 (.pointer (some ⟨a1, 2, none⟩)) rfl (by kernel_rfl)  (fun _ => y_faddr rfl Fa108x2) (fun _ => hS) ?_
  refine x_l 5 (.slice c3 c4 c5) rfl (by kernel_rfl)  (fun w' hw' => y_load rfl ((box_load Ag25 Sz25 a2 [(.pointer none), (.int .i64 k)] [(.slice c3 c4 c5)] [] rfl rfl (fun _ => rfl)) w' hw')) hS ?_
  refine x_one (i := 6) (by kernel_rfl) ?_
  obtain ⟨b1, u6, p4, p5, hO, a4⟩ := frzF_own (Frz.os (Frz.os Frz.int)) j6 hO
  have h0 := h0.sub (M' := b1) p4
  have hK := p5
  obtain ⟨r167, p6, hs⟩ := bind_some hs
  refine xk_call (b := false) rfl  Bd56 rfl (c_impl_spanOf (M := b1) (a_.1, a_.2) r15 s105 h0 a4 hO.fut p6) rfl (by rintro _ _ _ ⟨f7, b4, rfl, d7, l4, l5⟩; exact hS.ext d7) ?_
  rintro _ b6 ⟨f7, b4, rfl, d7, l4, l5⟩
  have hO := hO.perm (R := [] ++ (([a1]) ++ (([a5]) ++ ([])))) (by simp)
  have p7 := Own.pastL hO d7 l5
  have hK := hK.trans (show KeepsF w [] b1 (PastL b1 [] b5 b6 (b4 ++ ([]))) from KeepsF.pastL hC.size (fun g hg => (hO.inN g hg)))
  have h0 := h0.ext d7
  have a0 := a0.cn d7
  have a2 := a2.cn d7
  have a4 := a4.ext d7
  have hC := hC.ext d7
  have hO := p7
  have h0 := h0.sub (M' := (PastL b1 [] b5 b6 (b4 ++ ([])))) (fun g hg => .inl hg.1)
  have a4 := a4.sub (M' := (PastL b1 [] b5 b6 (b4 ++ ([])))) (fun g hg => .inl hg.1)
  have hO := hO.perm (R := b4 ++ (([a1]) ++ (([a5]) ++ ([])))) (by simp)
  have hS := hS.ext d7
  refine x_p 7 (.tuple #[f7, (.bool r167.2)]) rfl (by kernel_rfl)  (fun _ => y_move rfl) (fun _ => hS) ?_
  refine x_p 8 f7 rfl (by kernel_rfl)  (fun _ => y_extract rfl (by kernel_rfl)) (fun _ => hS) ?_
  refine x_p 9 (.bool r167.2) rfl (by kernel_rfl)  (fun _ => y_extract rfl (by kernel_rfl)) (fun _ => hS) ?_
  refine x_p 10 f7 rfl (by kernel_rfl)  (fun _ => y_assign rfl) (fun _ => hS) ?_
  refine x_p 11 (.bool r167.2) rfl (by kernel_rfl)  (fun _ => y_assign rfl) (fun _ => hS) ?_
  refine x_end (by kernel_rfl) ?_
  clear hS
  refine c_seq ?_
  refine c_sr ?_
  refine pl_val (.bool r167.2) (y_move rfl) ?_
  refine pl_val (.bool (!r167.2)) (y_not rfl) ?_
  refine c_nil ?_
  rcases bif_some hs with ⟨j7, hs⟩ | ⟨j7, hs⟩
  ·refine c_condT (congrArg Value.bool j7) ?_
   refine c_sr ?_
   refine pl_val (.pointer none) (y_assign rfl) ?_
   refine pl_val (.bool false) (y_assign rfl) ?_
   refine c_nil ?_
   refine wp_ret ?_
   cases hs
   have hO := hO.drop
   have hO := hO.drop
   have hO := hO.drop
   have hO := hO.nil
   exact ⟨_, (.pointer none), [], fr_ovl 117 ⟨rfl, rfl, trivial⟩, hC, op_none, hO.top⟩
  refine c_condF (congrArg Value.bool j7) ?_
  refine wp_skip ?_
  refine c_sr ?_
  refine pl_val f7 (y_move rfl) ?_
  refine pl_val f7 (y_move rfl) ?_
  obtain ⟨p171, p8, hs⟩ := bind_some hs
  obtain ⟨a3, rfl, p9⟩ := op_get l4 p8
  obtain ⟨u7, u9, q0, f8, q1⟩ := po_open p9
  obtain ⟨v0, v1, v2, v3, rfl, rfl, q2, q3⟩ := q1
  obtain ⟨v4, v5, v6, v7, rfl, rfl, q4, q5⟩ := q2
  obtain ⟨rfl, rfl⟩ := q4
  obtain ⟨d1, d2, d3, rfl, rfl, a7⟩ := rs_rel' q5
  obtain ⟨v8, v9, w1, w2, rfl, rfl, q6, q7⟩ := q3
  obtain ⟨rfl, rfl⟩ := q6
  obtain ⟨w3, w4, j8, j9, rfl, rfl, q8, q9⟩ := q7
  obtain ⟨i1, i2, i3, rfl, g6⟩ := os_rel' q8
  obtain ⟨c9, rfl, g7⟩ := mo_rel' q9
  have f8 : BoxV b6 a3 81 [(.int .i64 p171.1.1), (.slice d1 d2 d3), (.int .i64 p171.2.1), (.slice i1 i2 i3), (.map (some c9))] := f8
  have hO := hO.perm (R := ([a3]) ++ (j8 ++ (j9 ++ (([a1]) ++ (([a5]) ++ ([])))))) (by rw [q0]; simp)
  refine pl_val (.pointer (some ⟨a3, 0, none⟩)) (y_nilc rfl) ?_
  refine pl_val (.pointer (some ⟨a3, 3, none⟩)) (y_faddr rfl Fa81x2) ?_
  refine pl_val (.slice i1 i2 i3) (y_load rfl ((box_load Ag25 Sz25 f8 [(.int .i64 p171.1.1), (.slice d1 d2 d3), (.int .i64 p171.2.1)] [(.slice i1 i2 i3)] [(.map (some c9))] rfl rfl (fun _ => rfl)) _ (Chg.refl _ _))) ?_
  have hO := hO.fr1
  obtain ⟨r177, r0, hs⟩ := bind_some hs
  refine pl_call Bd58 rfl (c_impl_sortedTuples (M := (Less (PastL b1 [] b5 b6 (b4 ++ ([]))) j8)) p171.2.2.1 (((Frz.os (Frz.rs Frz.int))).val g6 Less.sub Less.not) hO.less.fut r0) ?_
  rintro _ w5 ⟨d4, d5, d6, f9, rfl, d8, a8, r1⟩
  have a0 := a0.cn d8
  have a2 := a2.cn d8
  have a4 := a4.ext d8
  have a7 := a7.ext d8
  have g6 := g6.ext d8
  have g7 := g7.ext d8
  have f8 := f8.cn d8
  have hC := hC.ext d8
  have hO := Own.join0 hO d8 r1
  have hO := hO.perm (R := f9 ++ (j8 ++ (([a3]) ++ (j9 ++ (([a1]) ++ (([a5]) ++ ([]))))))) (by simp)
  have a8 := a8.free (M' := (PastL b1 [] b5 b6 (b4 ++ ([])))) (Free.os (Free.os Free.int))
  refine pl_val (.pointer (some ⟨a3, 0, none⟩)) (y_nilc rfl) ?_
  refine pl_val (.pointer (some ⟨a3, 3, none⟩)) (y_faddr rfl Fa81x2) ?_
  obtain ⟨l6, r2, d9, b2⟩ := box_store (P := Try.prog) f8 [(.int .i64 p171.1.1), (.slice d1 d2 d3), (.int .i64 p171.2.1)] [(.slice i1 i2 i3)] [(.map (some c9))] [(.slice d4 d5 d6)] rfl rfl (by intro u hu; simp only [List.mem_cons, List.not_mem_nil, or_false] at hu; rcases hu with rfl <;> rfl)
  refine pl_skip (w' := l6) (ys_store rfl rfl (r2 _ _ rfl Sz25)) ?_
  have hO := hO.fr2
  have a0 := a0.ap d9 hO same_ (mem_r (mem_r (mem_r (mem_r (mem_l (List.mem_singleton.2 rfl))))))
  have a2 := a2.ap d9 hO same_ (mem_r (mem_r (mem_r (mem_l (List.mem_singleton.2 rfl)))))
  have a4 := a4.mt d9 hO same_
  have a7 := a7.mt d9 hO same_
  have g6 := g6.ma d9 hO same_ (fun _ e => (mem_r (mem_l (e))))
  have g7 := g7.ma d9 hO same_ (fun _ e => (mem_r (mem_r (mem_l (e)))))
  have a8 := a8.ma d9 hO same_ (fun _ e => (mem_l (e)))
  have hC := hC.st d9 hO same_
  have hO := hO.ext d9
  have b2 : BoxV l6 a3 81 [(.int .i64 p171.1.1), (.slice d1 d2 d3), (.int .i64 p171.2.1), (.slice d4 d5 d6), (.map (some c9))] := b2
  refine c_nil ?_
  refine c_seq ?_
  refine c_sr ?_
  refine pl_val (.pointer (some ⟨a3, 0, none⟩)) (y_move rfl) ?_
  refine pl_val (.pointer (some ⟨a3, 0, none⟩)) (y_nilc rfl) ?_
  refine pl_val (.pointer (some ⟨a3, 3, none⟩)) (y_faddr rfl Fa81x2) ?_
  refine pl_val (.slice d4 d5 d6) (y_load rfl ((box_load Ag25 Sz25 b2 [(.int .i64 p171.1.1), (.slice d1 d2 d3), (.int .i64 p171.2.1)] [(.slice d4 d5 d6)] [(.map (some c9))] rfl rfl (fun _ => rfl)) _ (Chg.refl _ _))) ?_
  refine pl_val (.int .i64 (r177.length : Int)) (y_len' Sl25 (os_len a8) rfl) ?_
  refine pl_val (.int .i64 0) (y_move rfl) ?_
  refine c_nil ?_
  have hO := hO.fr2
  have hO := hO.drop
  have hO := hO.fr4
  have hO := hO.drop
  obtain ⟨o201, r3, hs⟩ := bind_some hs
  refine wp_block ?_
  refine wp_forC (id := 4) (r177.length : Int) (I := fun k199 s197 a a6 => ∃ (σ : Nat → Value) (g0 : List Nat), a = fr 117 (ovl σ [(7, (.pointer (some ⟨a1, 0, none⟩))), (11, (.pointer (some ⟨a3, 0, none⟩))), (97, (.slice d4 d5 d6)), (98, (.int .i64 (r177.length : Int))), (99, (.int .i64 k199))]) ∧ Chg [] w a6 ∧ Own (Nw w []) (PastL b1 [] b5 b6 (b4 ++ ([]))) a6 (([a3]) ++ (f9 ++ (g0 ++ (([a1]) ++ [])))) ∧ BoxV a6 a1 108 [(.pointer none), (.int .i64 k), (.slice c3 c4 c5)] ∧ (RT.rs (RT.rs (RT.int .i64))).val (PastL b1 [] b5 b6 (b4 ++ ([]))) a6 (.slice c3 c4 c5) s105 ([]) ∧ (RT.rs (RT.pr (RT.int .i64) (RT.rs (RT.int .i64)))).val (PastL b1 [] b5 b6 (b4 ++ ([]))) a6 (.slice d1 d2 d3) p171.1.2 ([]) ∧ (RT.mo (Value.int .i64)).val (PastL b1 [] b5 b6 (b4 ++ ([]))) a6 (.map (some c9)) s197 g0 ∧ BoxV a6 a3 81 [(.int .i64 p171.1.1), (.slice d1 d2 d3), (.int .i64 p171.2.1), (.slice d4 d5 d6), (.map (some c9))] ∧ (RT.os 43 (RT.os 3 (RT.int .i64))).val (PastL b1 [] b5 b6 (b4 ++ ([]))) a6 (.slice d4 d5 d6) r177 f9) (J := fun s197 a a6 => ∃ (σ : Nat → Value) (e1 : List Nat), a = fr 117 (ovl σ [(7, (.pointer (some ⟨a1, 0, none⟩))), (11, (.pointer (some ⟨a3, 0, none⟩)))]) ∧ Chg [] w a6 ∧ Own (Nw w []) (PastL b1 [] b5 b6 (b4 ++ ([]))) a6 (([a3]) ++ (f9 ++ (e1 ++ (([a1]) ++ [])))) ∧ BoxV a6 a1 108 [(.pointer none), (.int .i64 k), (.slice c3 c4 c5)] ∧ (RT.rs (RT.rs (RT.int .i64))).val (PastL b1 [] b5 b6 (b4 ++ ([]))) a6 (.slice c3 c4 c5) s105 ([]) ∧ (RT.rs (RT.pr (RT.int .i64) (RT.rs (RT.int .i64)))).val (PastL b1 [] b5 b6 (b4 ++ ([]))) a6 (.slice d1 d2 d3) p171.1.2 ([]) ∧ (RT.mo (Value.int .i64)).val (PastL b1 [] b5 b6 (b4 ++ ([]))) a6 (.map (some c9)) s197 e1 ∧ BoxV a6 a3 81 [(.int .i64 p171.1.1), (.slice d1 d2 d3), (.int .i64 p171.2.1), (.slice d4 d5 d6), (.map (some c9))] ∧ (RT.os 43 (RT.os 3 (RT.int .i64))).val (PastL b1 [] b5 b6 (b4 ++ ([]))) a6 (.slice d4 d5 d6) r177 f9) (K := (k_impl_freeOf M w)) ?_ ?_ 0 p171.2.2.2 o201 _ _ ?_ r3 ?_
  ·rintro k199 s197 a a6 ⟨σ, g0, rfl, hC, hO, a2, a4, a7, f1, b2, a8⟩ hlt
   refine c_sr ?_
   refine pl_val (.bool (decide (k199 < (r177.length : Int)))) (y_lss rfl rfl) ?_
   refine c_nil ?_
   refine c_seq ?_
   refine c_condF (congrArg Value.bool (decide_eq_false hlt)) ?_
   refine wp_exit ?_
   have hO := hO.fr3
   have hO := hO.fr3
   have hO := hO.fr3
   have hO := hO.fr3
   exact ⟨rfl, _, g0, fr_ovl 117 ⟨rfl, rfl, trivial⟩, hC, hO, a2, a4, a7, f1, b2, a8⟩
  ·rintro k199 s197 o201 a a6 ⟨σ, g0, rfl, hC, hO, a2, a4, a7, f1, b2, a8⟩ hlt hw hs
   refine c_sr ?_
   refine pl_val (.bool (decide (k199 < (r177.length : Int)))) (y_lss rfl rfl) ?_
   refine c_nil ?_
   refine c_seq ?_
   refine c_condT (congrArg Value.bool (decide_eq_true hlt)) ?_
   refine wp_skip ?_
   refine c_seq ?_
   refine wp_block ?_
   refine c_sr ?_
   refine pl_val (.int .i64 k199) (y_move rfl) ?_
   obtain ⟨x205, r4, hs⟩ := bind_some hs
   obtain ⟨r5, w6, w7, w8, r6, r8, r9⟩ := os_idx Sl25 Sz43 a8 r4
   have s0 := own_row (Frz.os Frz.int) r8 r9
   refine pl_val (.pointer (some ⟨r5, 0 + Int.toNat k199 * 1, none⟩)) (r6 _ _ _ _ _ _ _ _ _ rfl rfl) ?_
   obtain ⟨w9, s1, hrow207, e2⟩ := at_load1 Ag43 Sz43 rfl rfl s0
   obtain ⟨k0, k1, k2, rfl⟩ := rs_sl e2
   refine pl_val (.slice k0 k1 k2) (y_load rfl (s1 _ (Chg.refl _ _))) ?_
   refine pl_val (.int .i64 k199) (y_assign rfl) ?_
   refine pl_val (.slice k0 k1 k2) (y_assign rfl) ?_
   refine c_nil ?_
   refine x_start [7] Mx rfl ?_
   have d0 := Chg.drew a6
   generalize World.drew a6 = s2 at d0 ⊢
   have a2 := a2.cn d0
   have a4 := a4.ext d0
   have a7 := a7.ext d0
   have f1 := f1.ext d0
   have b2 := b2.cn d0
   have a8 := a8.ext d0
   have e2 := e2.ext d0
   have hrow207 := hrow207.cn d0
   have hC := hC.ext d0
   have hO := hO.ext d0
   have hS := Chg.refl [] s2
   refine x_p 0 (.pointer (some ⟨a3, 0, none⟩)) rfl (by kernel_rfl)  (fun _ => y_move rfl) (fun _ => hS) ?_
   refine x_p 1 (.pointer (some ⟨a3, 0, none⟩)) rfl (by kernel_rfl)  (fun _ => y_nilc rfl) (fun _ => hS) ?_
   refine x_p 2 (.pointer (some ⟨a3, 4, none⟩)) rfl (by kernel_rfl)  (fun _ => y_faddr rfl Fa81x3) (fun _ => hS) ?_
   refine x_l 3 (.map (some c9)) rfl (by kernel_rfl)  (fun w' hw' => y_load rfl ((box_load Ag79 Sz79 b2 [(.int .i64 p171.1.1), (.slice d1 d2 d3), (.int .i64 p171.2.1), (.slice d4 d5 d6)] [(.map (some c9))] [] rfl rfl (fun _ => rfl)) w' hw')) hS ?_
   refine x_p 4 (.slice k0 k1 k2) rfl (by kernel_rfl)  (fun _ => y_move rfl) (fun _ => hS) ?_
   refine x_p 6 (.int .i64 k199) rfl (by kernel_rfl)  (fun _ => y_move rfl) (fun _ => hS) ?_
   refine x_one (i := 5) (by kernel_rfl) ?_
   have hO := hO.fr1
   obtain ⟨r211, s4, hs⟩ := bind_some hs
   refine xk_call (b := false) rfl  Bd59 rfl (c_impl_keyOf (M := (Less (PastL b1 [] b5 b6 (b4 ++ ([]))) f9)) x205 e2 hO.less.fut s4) rfl (by rintro _ _ _ ⟨rfl, b8⟩; exact hS.ext b8) ?_
   rintro _ x0 ⟨rfl, b8⟩
   have a2 := a2.cn b8
   have a4 := a4.ext b8
   have a7 := a7.ext b8
   have f1 := f1.ext b8
   have b2 := b2.cn b8
   have a8 := a8.ext b8
   have e2 := e2.ext b8
   have hrow207 := hrow207.cn b8
   have hC := hC.ext b8
   have hO := hO.ext b8
   have hS := hS.ext b8
   refine x_one (i := 7) (by kernel_rfl) ?_
   have hO := hO.fr2
   obtain ⟨s5, s6, e3, s7⟩ := mo_put (P := Try.prog) (t := 79) (key := r211) (x := k199) Try.underlying79 Try.underlying9 f1
   refine xk_skip (w' := s5) (b := true) rfl (ys_put rfl rfl rfl s6) rfl (fun h => nomatch h) ?_
   have a2 := a2.ap e3 hO same_ (mem_r (mem_r (mem_l (List.mem_singleton.2 rfl))))
   have a4 := a4.mt e3 hO same_
   have a7 := a7.mt e3 hO same_
   have b2 := b2.ap e3 hO same_ (mem_r (mem_l (List.mem_singleton.2 rfl)))
   have a8 := a8.ma e3 hO same_ (fun _ e => (mem_l (e)))
   have e2 := e2.mut e3 (fun g hg => ⟨hO.inM g ((fun _ h => h) g hg), fun e => hO.apart g ((fun _ h => h) g hg) (mem_l (e))⟩) (fun _ _ h => nomatch h)
   have hC := hC.st e3 hO same_
   have hO := hO.ext e3
   refine x_end (by kernel_rfl) ?_
   clear hS
   refine c_region ?_
   refine pl_val (.int .i64 (w64 (k199 + 1))) (y_add rfl rfl) ?_
   refine pl_val (.int .i64 (w64 (k199 + 1))) (y_move rfl) ?_
   refine c_nil ?_
   cases hs
   have hO := hO.fr3
   have hO := hO.fr1
   have hO := hO.fr2
   have hO := hO.fr3
   exact ⟨_, g0, fr_ovl 117 ⟨rfl, rfl, rfl, rfl, congrArg (Value.int .i64) hw, trivial⟩, hC, hO, a2, a4, a7, s7, b2, a8⟩
  ·skip
   have hO := hO.fr3
   have hO := hO.fr3
   have hO := hO.fr3
   have hO := hO.fr3
   exact ⟨_, j9, fr_ovl 117 ⟨rfl, rfl, rfl, rfl, rfl, trivial⟩, hC, hO, a2, a4, a7, g7, b2, a8⟩
  cases o201 with
  | nx _ => exact True.intro
  | rt r_ =>
   have hs := after_rt hs
   intro f3 i5 hK
   cases hs
   exact hK
  | br s197 =>
   have hs := after_br hs
   rintro f3 a6 ⟨σ, e1, rfl, hC, hO, a2, a4, a7, g8, b2, a8⟩
   refine c_sr ?_
   refine pl_val (.pointer (some ⟨a1, 0, none⟩)) (y_move rfl) ?_
   refine pl_val (.pointer (some ⟨a3, 0, none⟩)) (y_move rfl) ?_
   refine pl_val (.pointer (some ⟨a1, 0, none⟩)) (y_nilc rfl) ?_
   refine pl_val (.pointer (some ⟨a1, 0, none⟩)) (y_faddr rfl Fa108x0) ?_
   obtain ⟨i4, s8, f2, k3⟩ := box_store (P := Try.prog) a2 [] [(.pointer none)] [(.int .i64 k), (.slice c3 c4 c5)] [(.pointer (some ⟨a3, 0, none⟩))] rfl rfl (by intro u hu; simp only [List.mem_cons, List.not_mem_nil, or_false] at hu; rcases hu with rfl <;> rfl)
   refine pl_skip (w' := i4) (ys_store rfl rfl (s8 _ _ rfl Sz76)) ?_
   have hO := hO.fr3
   have a4 := a4.mt f2 hO same_
   have a7 := a7.mt f2 hO same_
   have g8 := g8.ma f2 hO same_ (fun _ e => (mem_r (mem_r (mem_l (e)))))
   have b2 := b2.ap f2 hO same_ (mem_l (List.mem_singleton.2 rfl))
   have a8 := a8.ma f2 hO same_ (fun _ e => (mem_r (mem_l (e))))
   have hC := hC.st f2 hO same_
   have hO := hO.ext f2
   have k3 : BoxV i4 a1 108 [(.pointer (some ⟨a3, 0, none⟩)), (.int .i64 k), (.slice c3 c4 c5)] := k3
   refine c_nil ?_
   refine c_sr ?_
   refine pl_val (.pointer (some ⟨a1, 0, none⟩)) (y_move rfl) ?_
   refine pl_val (.pointer (some ⟨a1, 0, none⟩)) (y_assign rfl) ?_
   refine pl_val (.bool true) (y_assign rfl) ?_
   refine c_nil ?_
   refine wp_ret ?_
   have hO := hO.fr2
   obtain ⟨g9, h1, k4, s9, hO, t0⟩ := osF_inner (Frz.os Frz.int) a8 hO
   have a4 := a4.sub (M' := g9) k4
   have a7 := a7.sub (M' := g9) k4
   have g8 := g8.sub (M' := g9) k4
   have hK := hK.trans s9
   have hO := hO.fr3
   have hO := hO.fr1
   have hO := hO.fr3
   have hO := hO.perm (R := (a3 :: ((([] : List Nat) ++ ([] : List Nat)) ++ (([] : List Nat) ++ (h1 ++ e1)))) ++ (([a1]) ++ ([]))) (by simp)
   have t1 : (RT.po 81 (RT.pr (RT.pr (RT.int .i64) (RT.rs (RT.pr (RT.int .i64) (RT.rs (RT.int .i64))))) (RT.pr (RT.int .i64) (RT.pr (RT.os 43 (RT.rs (RT.int .i64))) (RT.mo (Value.int .i64)))))).val g9 i4 (.pointer (some ⟨a3, 0, none⟩)) ((p171.1.1, p171.1.2), p171.2.1, r177, s197) (a3 :: ((([] : List Nat) ++ ([] : List Nat)) ++ (([] : List Nat) ++ (h1 ++ e1)))) := po_shut b2 ⟨_, _, _, _, rfl, rfl, ⟨_, _, _, _, rfl, rfl, ⟨rfl, rfl⟩, (rs_unval a7)⟩, ⟨_, _, _, _, rfl, rfl, ⟨rfl, rfl⟩, ⟨_, _, _, _, rfl, rfl, (os_unval t0), (mo_unval g8)⟩⟩⟩ hO.nd
   have hO := hO.fr1
   have hO := hO.perm (R := (a1 :: ((a3 :: ((([] : List Nat) ++ ([] : List Nat)) ++ (([] : List Nat) ++ (h1 ++ e1)))) ++ (([] : List Nat) ++ ([] : List Nat)))) ++ ([])) (by simp)
   have t2 : (RT.po 108 (RT.pr (RT.po 81 (RT.pr (RT.pr (RT.int .i64) (RT.rs (RT.pr (RT.int .i64) (RT.rs (RT.int .i64))))) (RT.pr (RT.int .i64) (RT.pr (RT.os 43 (RT.rs (RT.int .i64))) (RT.mo (Value.int .i64)))))) (RT.pr (RT.int .i64) (RT.rs (RT.rs (RT.int .i64)))))).val g9 i4 (.pointer (some ⟨a1, 0, none⟩)) (((p171.1.1, p171.1.2), p171.2.1, r177, s197), k, s105) (a1 :: ((a3 :: ((([] : List Nat) ++ ([] : List Nat)) ++ (([] : List Nat) ++ (h1 ++ e1)))) ++ (([] : List Nat) ++ ([] : List Nat)))) := po_shut k3 ⟨_, _, _, _, rfl, rfl, (po_unval t1), ⟨_, _, _, _, rfl, rfl, ⟨rfl, rfl⟩, (rs_unval a4)⟩⟩ hO.nd
   cases hs
   exact ⟨_, (.pointer (some ⟨a1, 0, none⟩)), (a1 :: ((a3 :: ((([] : List Nat) ++ ([] : List Nat)) ++ (([] : List Nat) ++ (h1 ++ e1)))) ++ (([] : List Nat) ++ ([] : List Nat)))), fr_ovl 117 ⟨rfl, rfl, trivial⟩, hC, (KeepsF.out hK hO.allM (op_some t2)), hO.top⟩

def k_impl_endOf (M : Nat → Prop) (w0 : World) (r : Int) (a : Act) (w : World) : Prop :=
  ∃ (σ : Nat → Value) , a = fr 48 (ovl σ [(6, (.int .i64 r))]) ∧ Chg [] w0 w
def s_impl_endOf (a_ : Int × (List (Int × (List Int)))) (t : List Int) (at_ : Int) : Option (Int) :=
  (iter (S := Int × Int) (R := Int) (fun s17 =>
  (bif (decide (0 < s17.2)) then (bif (decide ((t.length : Int) ≤ s17.1)) then some (.rt (-1)) else (idx t s17.1).bind fun x25 =>
  (bif ((decide (6 ≤ x25)) || (decide (x25 < (w64 (-(a_.2.length : Int)))))) then some (.rt (-1)) else (bif (decide (0 ≤ x25)) then some (.nx (w64 (s17.1 + 1), w64 (s17.2 - 1))) else (idx a_.2 (w64 ((-1) - x25))).bind fun x33 =>
  some (.nx (w64 (s17.1 + 1), w64 (s17.2 + (w64 (x33.1 - 1)))))))) else some (.br (s17.1, s17.2)))) FU (at_, 1)).bind fun o21 => after o21 (fun r_ => some r_) (fun s17 =>
  some s17.1)
set_option maxHeartbeats 4000000 in
theorem c_impl_endOf {M : Nat → Prop} {w : World} {pa0 : Option Addr} {pn0 pc0 : Nat} {pa1 : Option Addr} {pn1 pc1 : Nat} (a_ : Int × (List (Int × (List Int)))) (t : List Int) (at_ : Int) (h0 : (RT.rs (RT.pr (RT.int .i64) (RT.rs (RT.int .i64)))).val M w (.slice pa0 pn0 pc0) a_.2 ([])) (h1 : (RT.rs (RT.int .i64)).val M w (.slice pa1 pn1 pc1) t ([])) (hM : ∀ g, w.heap.size ≤ g → M g) {r : Int} (hs : s_impl_endOf a_ t at_ = some r) :
    Gives Try.prog 110 [(.agg #[(.int .i64 a_.1), (.slice pa0 pn0 pc0)]), (.slice pa1 pn1 pc1), (.int .i64 at_)] w (fun v w' => v = (.int .i64 r) ∧ Chg [] w w') := by
 refine calls_fr Try.func110 rfl Try.ntmps110 (Nat.le_of_ble_eq_true rfl) ?_
 have hO := Own.start (N := Nw w []) hM Nw.fut
 have hC := Chg.refl [] w
 unfold s_impl_endOf at hs
 refine wp_mono (Q := KPost (k_impl_endOf M w r)) ?_ (fun e a b5 h => ?_)
 rotate_left
 ·cases e
  case ret =>
   obtain ⟨σ, rfl, hrest⟩ := h
   exact ret1x Try.results110 (res_tmp rfl) ⟨rfl, hrest⟩
  all_goals exact (h : False).elim
 refine c_sr ?_
 obtain ⟨b6, a3, b7, b0, a5, a2⟩ := new_block w [(.int .i64 a_.1), (.slice pa0 pn0 pc0)] 35
 refine pl_val (w' := b6) (.pointer (some ⟨a3, 0, none⟩)) (y_box rfl (by rw [b7, b0]; kernel_rfl)) ?_
 have h0 := h0.ext a5
 have h1 := h1.ext a5
 have hC := hC.ext a5
 have hO := hO.new1 a5 b0 a2.lt
 refine pl_val (.int .i64 0) (y_assign rfl) ?_
 refine c_nil ?_
 refine c_sr ?_
 refine pl_val (.int .i64 1) (y_assign rfl) ?_
 refine c_nil ?_
 refine c_seq ?_
 obtain ⟨o21, b8, hs⟩ := bind_some hs
 refine wp_block ?_
 refine wp_iter (id := 0) (I := fun s17 a a1 => ∃ (σ : Nat → Value), a = fr 48 (ovl σ [(1, (.slice pa1 pn1 pc1)), (2, (.int .i64 s17.1)), (3, (.pointer (some ⟨a3, 0, none⟩))), (7, (.int .i64 s17.2))]) ∧ Chg [] w a1 ∧ Own (Nw w []) M a1 (([a3]) ++ []) ∧ (RT.rs (RT.pr (RT.int .i64) (RT.rs (RT.int .i64)))).val M a1 (.slice pa0 pn0 pc0) a_.2 ([]) ∧ (RT.rs (RT.int .i64)).val M a1 (.slice pa1 pn1 pc1) t ([]) ∧ BoxV a1 a3 35 [(.int .i64 a_.1), (.slice pa0 pn0 pc0)]) (J := fun s17 a a1 => ∃ (σ : Nat → Value), a = fr 48 (ovl σ [(2, (.int .i64 s17.1))]) ∧ Chg [] w a1 ∧ Own (Nw w []) M a1 (([a3]) ++ []) ∧ (RT.rs (RT.pr (RT.int .i64) (RT.rs (RT.int .i64)))).val M a1 (.slice pa0 pn0 pc0) a_.2 ([]) ∧ (RT.rs (RT.int .i64)).val M a1 (.slice pa1 pn1 pc1) t ([]) ∧ BoxV a1 a3 35 [(.int .i64 a_.1), (.slice pa0 pn0 pc0)]) (K := (k_impl_endOf M w)) ?_ FU (at_, 1) o21 _ _ ?_ b8 ?_
 ·rintro s17 o21 a a1 ⟨σ, rfl, hC, hO, h0, h1, a2⟩ hs
  refine c_seq ?_
  refine c_sr ?_
  refine pl_val (.int .i64 s17.2) (y_move rfl) ?_
  refine pl_val (.bool (decide (0 < s17.2))) (y_gtr rfl rfl) ?_
  refine c_nil ?_
  rcases bif_some hs with ⟨a6, hs⟩ | ⟨a6, hs⟩
  ·refine c_condT (congrArg Value.bool a6) ?_
   refine wp_skip ?_
   refine wp_block ?_
   refine c_seq ?_
   refine c_sr ?_
   refine pl_val (.int .i64 s17.1) (y_move rfl) ?_
   refine pl_val (.slice pa1 pn1 pc1) (y_move rfl) ?_
   refine pl_val (.int .i64 (t.length : Int)) (y_len' Sl43 (rs_len h1) rfl) ?_
   refine pl_val (.bool (decide ((t.length : Int) ≤ s17.1))) (y_geq rfl rfl) ?_
   refine c_nil ?_
   rcases bif_some hs with ⟨a7, hs⟩ | ⟨a7, hs⟩
   ·refine c_condT (congrArg Value.bool a7) ?_
    refine c_sr ?_
    refine pl_val (.int .i64 (-1)) (y_assign rfl) ?_
    refine c_nil ?_
    refine wp_ret ?_
    cases hs
    exact ⟨_, fr_ovl 48 ⟨rfl, trivial⟩, hC⟩
   refine c_condF (congrArg Value.bool a7) ?_
   refine wp_skip ?_
   refine c_sr ?_
   refine pl_val (.slice pa1 pn1 pc1) (y_move rfl) ?_
   refine pl_val (.int .i64 s17.1) (y_move rfl) ?_
   obtain ⟨x25, b9, hs⟩ := bind_some hs
   obtain ⟨c0, c1, c2, c3⟩ := rs_idx Sl43 Sz3 h1 b9
   refine pl_val (.pointer (some ⟨c0, c1, none⟩)) (c2 _ _ _ _ _ _ _ _ _ rfl rfl) ?_
   refine pl_val (.int .i64 x25) (y_load rfl ((at_load_int Ag3 Sz3 c3) _ (Chg.refl _ _))) ?_
   refine pl_val (.int .i64 x25) (y_assign rfl) ?_
   refine c_nil ?_
   refine c_seq ?_
   refine wp_block ?_
   refine c_seq ?_
   refine c_mid (I := fun a b1 => ∃ (σ : Nat → Value), a = fr 48 (ovl σ [(1, (.slice pa1 pn1 pc1)), (2, (.int .i64 s17.1)), (3, (.pointer (some ⟨a3, 0, none⟩))), (7, (.int .i64 s17.2)), (8, (.int .i64 x25)), (29, (.bool ((decide (6 ≤ x25)) || (decide (x25 < (w64 (-(a_.2.length : Int))))))))]) ∧ Chg [] a1 b1) ?_ ?_
   ·have hMid := Chg.refl [] a1
    refine c_region ?_
    refine pl_val (.int .i64 x25) (y_move rfl) ?_
    refine pl_val (.bool (decide (6 ≤ x25))) (y_geq rfl rfl) ?_
    refine pl_val (.bool (decide (6 ≤ x25))) (y_move rfl) ?_
    rcases Bool.eq_false_or_eq_true ((decide (6 ≤ x25))) with a0 | a0
    ·skip
     refine pl_not (tg := 32) (by kernel_rfl) (congrArg Value.bool a0) ?_
     refine pl_not (tg := 32) (by kernel_rfl) (congrArg Value.bool a0) ?_
     refine pl_not (tg := 32) (by kernel_rfl) (congrArg Value.bool a0) ?_
     refine pl_not (tg := 32) (by kernel_rfl) (congrArg Value.bool a0) ?_
     refine pl_not (tg := 32) (by kernel_rfl) (congrArg Value.bool a0) ?_
     refine pl_not (tg := 32) (by kernel_rfl) (congrArg Value.bool a0) ?_
     refine pl_val (.bool ((decide (6 ≤ x25)) || (decide (x25 < (w64 (-(a_.2.length : Int))))))) (y_pick_t (congrArg Value.bool a0) (congrArg Value.bool (by rw [a0]; rfl))) ?_
     refine pl_val (.bool ((decide (6 ≤ x25)) || (decide (x25 < (w64 (-(a_.2.length : Int))))))) (y_assign rfl) ?_
     refine c_nil ?_
     exact ⟨_, fr_ovl 48 ⟨rfl, rfl, rfl, rfl, rfl, rfl, trivial⟩, hMid⟩
    refine pl_yes (.int .i64 x25) (tg := 32) (by kernel_rfl) (congrArg Value.bool a0) (y_move rfl) ?_
    refine pl_yes (.pointer (some ⟨a3, 1, none⟩)) (tg := 32) (by kernel_rfl) (congrArg Value.bool a0) (y_faddr rfl Fa35x1) ?_
    refine pl_yes (.slice pa0 pn0 pc0) (tg := 32) (by kernel_rfl) (congrArg Value.bool a0) (y_load rfl ((box_load Ag33 Sz33 a2 [(.int .i64 a_.1)] [(.slice pa0 pn0 pc0)] [] rfl rfl (fun _ => rfl)) _ (Chg.refl _ _))) ?_
    refine pl_yes (.int .i64 (a_.2.length : Int)) (tg := 32) (by kernel_rfl) (congrArg Value.bool a0) (y_len' Sl33 (rs_len h0) rfl) ?_
    refine pl_yes (.int .i64 (w64 (-(a_.2.length : Int)))) (tg := 32) (by kernel_rfl) (congrArg Value.bool a0) (y_neg rfl) ?_
    refine pl_yes (.bool (decide (x25 < (w64 (-(a_.2.length : Int)))))) (tg := 32) (by kernel_rfl) (congrArg Value.bool a0) (y_lss rfl rfl) ?_
    refine pl_val (.bool ((decide (6 ≤ x25)) || (decide (x25 < (w64 (-(a_.2.length : Int))))))) (y_pick_f (congrArg Value.bool a0) (congrArg Value.bool (by rw [a0]; rfl))) ?_
    refine pl_val (.bool ((decide (6 ≤ x25)) || (decide (x25 < (w64 (-(a_.2.length : Int))))))) (y_assign rfl) ?_
    refine c_nil ?_
    exact ⟨_, fr_ovl 48 ⟨rfl, rfl, rfl, rfl, rfl, rfl, trivial⟩, hMid⟩
   rintro b2 b1 ⟨σ, rfl, a4⟩
   have h0 := h0.ext a4
   have h1 := h1.ext a4
   have a2 := a2.cn a4
   have hC := hC.ext a4
   have hO := hO.ext a4
   rcases bif_some hs with ⟨a8, hs⟩ | ⟨a8, hs⟩
   ·refine c_condT (congrArg Value.bool a8) ?_
    refine c_sr ?_
    refine pl_val (.int .i64 (-1)) (y_assign rfl) ?_
    refine c_nil ?_
    refine wp_ret ?_
    cases hs
    exact ⟨_, fr_ovl 48 ⟨rfl, trivial⟩, hC⟩
   refine c_condF (congrArg Value.bool a8) ?_
   refine c_sr ?_
   refine pl_val (.int .i64 x25) (y_move rfl) ?_
   refine pl_val (.bool (decide (0 ≤ x25))) (y_geq rfl rfl) ?_
   refine pl_val (.bool (decide (0 ≤ x25))) (y_assign rfl) ?_
   refine c_nil ?_
   rcases bif_some hs with ⟨a9, hs⟩ | ⟨a9, hs⟩
   ·refine c_condT (congrArg Value.bool a9) ?_
    refine c_region ?_
    refine pl_val (.int .i64 s17.2) (y_move rfl) ?_
    refine pl_val (.int .i64 (w64 (s17.2 - 1))) (y_sub rfl rfl) ?_
    refine pl_val (.int .i64 (w64 (s17.2 - 1))) (y_assign rfl) ?_
    refine c_nil ?_
    refine c_region ?_
    refine pl_val (.int .i64 s17.1) (y_move rfl) ?_
    refine pl_val (.int .i64 (w64 (s17.1 + 1))) (y_add rfl rfl) ?_
    refine pl_val (.int .i64 (w64 (s17.1 + 1))) (y_assign rfl) ?_
    refine c_nil ?_
    cases hs
    exact ⟨_, fr_ovl 48 ⟨rfl, rfl, rfl, rfl, trivial⟩, hC, hO, h0, h1, a2⟩
   refine c_condF (congrArg Value.bool a9) ?_
   refine c_region ?_
   refine pl_val (.int .i64 s17.2) (y_move rfl) ?_
   refine pl_val (.pointer (some ⟨a3, 1, none⟩)) (y_faddr rfl Fa35x1) ?_
   refine pl_val (.slice pa0 pn0 pc0) (y_load rfl ((box_load Ag33 Sz33 a2 [(.int .i64 a_.1)] [(.slice pa0 pn0 pc0)] [] rfl rfl (fun _ => rfl)) _ (Chg.refl _ _))) ?_
   refine pl_val (.int .i64 x25) (y_move rfl) ?_
   refine pl_val (.int .i64 (w64 ((-1) - x25))) (y_sub rfl rfl) ?_
   obtain ⟨x33, c4, hs⟩ := bind_some hs
   obtain ⟨b3, b4, c5, c6⟩ := rs_idx Sl33 Sz89 h0 c4
   refine pl_val (.pointer (some ⟨b3, b4, none⟩)) (c5 _ _ _ _ _ _ _ _ _ rfl rfl) ?_
   obtain ⟨c7, _⟩ := pr_at c6
   refine pl_val (.pointer (some ⟨b3, b4 + 0, none⟩)) (y_faddr rfl Fa89x0) ?_
   refine pl_val (.int .i64 x33.1) (y_load rfl ((at_load_int Ag3 Sz3 c7) _ (Chg.refl _ _))) ?_
   refine pl_val (.int .i64 (w64 (x33.1 - 1))) (y_sub rfl rfl) ?_
   refine pl_val (.int .i64 (w64 (s17.2 + (w64 (x33.1 - 1))))) (y_add rfl rfl) ?_
   refine pl_val (.int .i64 (w64 (s17.2 + (w64 (x33.1 - 1))))) (y_assign rfl) ?_
   refine c_nil ?_
   refine c_region ?_
   refine pl_val (.int .i64 s17.1) (y_move rfl) ?_
   refine pl_val (.int .i64 (w64 (s17.1 + 1))) (y_add rfl rfl) ?_
   refine pl_val (.int .i64 (w64 (s17.1 + 1))) (y_assign rfl) ?_
   refine c_nil ?_
   cases hs
   exact ⟨_, fr_ovl 48 ⟨rfl, rfl, rfl, rfl, trivial⟩, hC, hO, h0, h1, a2⟩
  refine c_condF (congrArg Value.bool a6) ?_
  refine wp_exit ?_
  cases hs
  exact ⟨rfl, _, fr_ovl 48 ⟨rfl, trivial⟩, hC, hO, h0, h1, a2⟩
 ·skip
  exact ⟨_, fr_ovl 48 ⟨rfl, rfl, rfl, rfl, trivial⟩, hC, hO, h0, h1, a2⟩
 cases o21 with
 | nx _ => exact True.intro
 | rt r_ =>
  have hs := after_rt hs
  intro b2 b5 hK
  cases hs
  exact hK
 | br s17 =>
  have hs := after_br hs
  rintro b2 a1 ⟨σ, rfl, hC, hO, h0, h1, a2⟩
  refine c_sr ?_
  refine pl_val (.int .i64 s17.1) (y_move rfl) ?_
  refine pl_val (.int .i64 s17.1) (y_assign rfl) ?_
  refine c_nil ?_
  refine wp_ret ?_
  cases hs
  exact ⟨_, fr_ovl 48 ⟨rfl, trivial⟩, hC⟩

theorem Bd110 : Bodied Try.prog 110 := bodied Try.func110 (by kernel_rfl) rfl

def k_impl_isTerm (M : Nat → Prop) (w0 : World) (r : Bool) (a : Act) (w : World) : Prop :=
  ∃ (σ : Nat → Value) , a = fr 16 (ovl σ [(4, (.bool r))]) ∧ Chg [] w0 w
def s_impl_isTerm (a_ : Int × (List (Int × (List Int)))) (t : List Int) : Option (Bool) :=
  (bif (decide ((t.length : Int) ≤ 60)) then (s_impl_endOf (a_.1, a_.2) t 0).bind fun r6 =>
  some (r6 == (t.length : Int)) else some false)
set_option maxHeartbeats 4000000 in
theorem c_impl_isTerm {M : Nat → Prop} {w : World} {pa0 : Option Addr} {pn0 pc0 : Nat} {pa1 : Option Addr} {pn1 pc1 : Nat} (a_ : Int × (List (Int × (List Int)))) (t : List Int) (h0 : (RT.rs (RT.pr (RT.int .i64) (RT.rs (RT.int .i64)))).val M w (.slice pa0 pn0 pc0) a_.2 ([])) (h1 : (RT.rs (RT.int .i64)).val M w (.slice pa1 pn1 pc1) t ([])) (hM : ∀ g, w.heap.size ≤ g → M g) {r : Bool} (hs : s_impl_isTerm a_ t = some r) :
    Gives Try.prog 90 [(.agg #[(.int .i64 a_.1), (.slice pa0 pn0 pc0)]), (.slice pa1 pn1 pc1)] w (fun v w' => v = (.bool r) ∧ Chg [] w w') := by
 refine calls_fr Try.func90 rfl Try.ntmps90 (Nat.le_of_ble_eq_true rfl) ?_
 have hO := Own.start (N := Nw w []) hM Nw.fut
 have hC := Chg.refl [] w
 unfold s_impl_isTerm at hs
 refine wp_mono (Q := KPost (k_impl_isTerm M w r)) ?_ (fun e a a9 h => ?_)
 rotate_left
 ·cases e
  case ret =>
   obtain ⟨σ, rfl, hrest⟩ := h
   exact ret1x Try.results90 (res_tmp rfl) ⟨rfl, hrest⟩
  all_goals exact (h : False).elim
 refine c_sr ?_
 obtain ⟨a5, a6, a7, a4, a2, a3⟩ := new_block w [(.int .i64 a_.1), (.slice pa0 pn0 pc0)] 35
 refine pl_val (w' := a5) (.pointer (some ⟨a6, 0, none⟩)) (y_box rfl (by rw [a7, a4]; kernel_rfl)) ?_
 have h0 := h0.ext a2
 have h1 := h1.ext a2
 have hC := hC.ext a2
 have hO := hO.new1 a2 a4 a3.lt
 refine pl_val (.bool false) (y_assign rfl) ?_
 refine c_nil ?_
 refine c_sr ?_
 refine pl_val (.slice pa1 pn1 pc1) (y_move rfl) ?_
 refine pl_val (.int .i64 (t.length : Int)) (y_len' Sl43 (rs_len h1) rfl) ?_
 refine pl_val (.bool (decide ((t.length : Int) ≤ 60))) (y_leq rfl rfl) ?_
 refine pl_val (.bool (decide ((t.length : Int) ≤ 60))) (y_move rfl) ?_
 rcases bif_some hs with ⟨a0, hs⟩ | ⟨a0, hs⟩
 ·skip
  refine pl_yes (.agg #[(.int .i64 a_.1), (.slice pa0 pn0 pc0)]) (tg := 8) (by kernel_rfl) (congrArg Value.bool a0) (y_load rfl ((box_load Ag35 Sz35 a3 [] [(.int .i64 a_.1), (.slice pa0 pn0 pc0)] [] rfl rfl (fun h => nomatch h)) _ (Chg.refl _ _))) ?_
  refine pl_yes (.slice pa1 pn1 pc1) (tg := 8) (by kernel_rfl) (congrArg Value.bool a0) (y_move rfl) ?_
  obtain ⟨r6, a8, hs⟩ := bind_some hs
  refine pl_cally (tg := 8) (by kernel_rfl) (congrArg Value.bool a0) Bd110 rfl (c_impl_endOf (M := M) (a_.1, a_.2) t 0 h0 h1 hO.fut a8) ?_
  rintro _ b0 ⟨rfl, a1⟩
  have h0 := h0.ext a1
  have h1 := h1.ext a1
  have a3 := a3.cn a1
  have hC := hC.ext a1
  have hO := hO.ext a1
  refine pl_yes (.slice pa1 pn1 pc1) (tg := 8) (by kernel_rfl) (congrArg Value.bool a0) (y_move rfl) ?_
  refine pl_yes (.int .i64 (t.length : Int)) (tg := 8) (by kernel_rfl) (congrArg Value.bool a0) (y_len' Sl43 (rs_len h1) rfl) ?_
  refine pl_yes (.bool (r6 == (t.length : Int))) (tg := 8) (by kernel_rfl) (congrArg Value.bool a0) (y_eql rfl rfl) ?_
  refine pl_val (.bool (r6 == (t.length : Int))) (y_pick_t (congrArg Value.bool a0) rfl) ?_
  refine pl_val (.bool (r6 == (t.length : Int))) (y_assign rfl) ?_
  refine c_nil ?_
  refine wp_ret ?_
  cases hs
  exact ⟨_, fr_ovl 16 ⟨rfl, trivial⟩, hC⟩
 refine pl_not (tg := 8) (by kernel_rfl) (congrArg Value.bool a0) ?_
 refine pl_not (tg := 8) (by kernel_rfl) (congrArg Value.bool a0) ?_
 refine pl_not (tg := 8) (by kernel_rfl) (congrArg Value.bool a0) ?_
 refine pl_not (tg := 8) (by kernel_rfl) (congrArg Value.bool a0) ?_
 refine pl_not (tg := 8) (by kernel_rfl) (congrArg Value.bool a0) ?_
 refine pl_not (tg := 8) (by kernel_rfl) (congrArg Value.bool a0) ?_
 refine pl_val (.bool false) (y_pick_f (congrArg Value.bool a0) rfl) ?_
 refine pl_val (.bool false) (y_assign rfl) ?_
 refine c_nil ?_
 refine wp_ret ?_
 cases hs
 exact ⟨_, fr_ovl 16 ⟨rfl, trivial⟩, hC⟩

def k_impl_hasValues (M : Nat → Prop) (w0 : World) (r : Bool) (a : Act) (w : World) : Prop :=
  ∃ (σ : Nat → Value) , a = fr 17 (ovl σ [(4, (.bool r))]) ∧ Chg [] w0 w
def s_impl_hasValues (t : List Int) (n : Int) : Option (Bool) :=
  (forR (S := Unit) (R := Bool) (fun _ x7 s4 =>
  (bif (decide (n ≤ x7)) then some (.rt false) else some (.nx ()))) 0 t ()).bind fun o8 => after o8 (fun r_ => some r_) (fun s4 =>
  some true)
set_option maxHeartbeats 4000000 in
theorem c_impl_hasValues {M : Nat → Prop} {w : World} {pa0 : Option Addr} {pn0 pc0 : Nat} (t : List Int) (n : Int) (h0 : (RT.rs (RT.int .i64)).val M w (.slice pa0 pn0 pc0) t ([])) (hM : ∀ g, w.heap.size ≤ g → M g) {r : Bool} (hs : s_impl_hasValues t n = some r) :
    Gives Try.prog 91 [(.slice pa0 pn0 pc0), (.int .i64 n)] w (fun v w' => v = (.bool r) ∧ Chg [] w w') := by
 refine calls_fr Try.func91 rfl Try.ntmps91 (Nat.le_of_ble_eq_true rfl) ?_
 have hO := Own.start (N := Nw w []) hM Nw.fut
 have hC := Chg.refl [] w
 unfold s_impl_hasValues at hs
 refine wp_mono (Q := KPost (k_impl_hasValues M w r)) ?_ (fun e a a3 h => ?_)
 rotate_left
 ·cases e
  case ret =>
   obtain ⟨σ, rfl, hrest⟩ := h
   exact ret1x Try.results91 (res_tmp rfl) ⟨rfl, hrest⟩
  all_goals exact (h : False).elim
 refine c_sr ?_
 refine pl_val (.bool false) (y_assign rfl) ?_
 refine c_nil ?_
 refine c_seq ?_
 refine c_sr ?_
 refine pl_val (.slice pa0 pn0 pc0) (y_move rfl) ?_
 refine pl_val (.int .i64 (t.length : Int)) (y_len' Sl43 (rs_len h0) rfl) ?_
 refine pl_val (.int .i64 0) (y_move rfl) ?_
 refine c_nil ?_
 obtain ⟨o8, a4, hs⟩ := bind_some hs
 refine wp_block ?_
 refine wp_forR (id := 0) (I := fun i_ xs_ s4 a a0 => ∃ a1 : Nat, i_ = (a1 : Int) ∧ List.drop a1 t = xs_ ∧ (∃ (σ : Nat → Value), a = fr 17 (ovl σ [(1, (.int .i64 n)), (7, (.slice pa0 pn0 pc0)), (8, (.int .i64 (t.length : Int))), (9, (.int .i64 (a1 : Int)))]) ∧ Chg [] w a0 ∧ Own (Nw w []) M a0 ([]) ∧ (RT.rs (RT.int .i64)).val M a0 (.slice pa0 pn0 pc0) t ([]))) (J := fun s4 a a0 => ∃ (σ : Nat → Value), a = fr 17 (ovl σ []) ∧ Chg [] w a0 ∧ Own (Nw w []) M a0 ([]) ∧ (RT.rs (RT.int .i64)).val M a0 (.slice pa0 pn0 pc0) t ([])) (K := (k_impl_hasValues M w)) ?_ ?_ t 0 () o8 _ _ ?_ a4 ?_
 ·rintro _ s4 a a0 ⟨a1, rfl, hd, σ, rfl, hC, hO, h0⟩
  have hlt := drop_nil_ge hd
  refine c_sr ?_
  refine pl_val (.bool (decide ((a1 : Int) < (t.length : Int)))) (y_lss rfl rfl) ?_
  refine c_nil ?_
  refine c_seq ?_
  refine c_condF (congrArg Value.bool (decide_eq_false hlt)) ?_
  refine wp_exit ?_
  exact ⟨rfl, _, fr_ovl 17 trivial, hC, hO, h0⟩
 ·rintro _ x7 xs_ s4 o8 a a0 ⟨a1, rfl, hd, σ, rfl, hC, hO, h0⟩ hs
  have hlt := drop_cons_lt hd
  have a5 := drop_cons_idx hd
  refine c_sr ?_
  refine pl_val (.bool (decide ((a1 : Int) < (t.length : Int)))) (y_lss rfl rfl) ?_
  refine c_nil ?_
  refine c_seq ?_
  refine c_condT (congrArg Value.bool (decide_eq_true hlt)) ?_
  refine wp_skip ?_
  refine c_seq ?_
  refine wp_block ?_
  refine c_sr ?_
  obtain ⟨a6, a7, a8, a9⟩ := rs_idx Sl43 Sz3 h0 a5
  refine pl_val (.pointer (some ⟨a6, a7, none⟩)) (a8 _ _ _ _ _ _ _ _ _ rfl rfl) ?_
  refine pl_val (.int .i64 x7) (y_load rfl ((at_load_int Ag3 Sz3 a9) _ (Chg.refl _ _))) ?_
  refine pl_val (.int .i64 x7) (y_assign rfl) ?_
  refine c_nil ?_
  refine c_sr ?_
  refine pl_val (.int .i64 x7) (y_move rfl) ?_
  refine pl_val (.int .i64 n) (y_move rfl) ?_
  refine pl_val (.bool (decide (n ≤ x7))) (y_geq rfl rfl) ?_
  refine c_nil ?_
  rcases bif_some hs with ⟨a2, hs⟩ | ⟨a2, hs⟩
  ·refine c_condT (congrArg Value.bool a2) ?_
   refine c_sr ?_
   refine pl_val (.bool false) (y_assign rfl) ?_
   refine c_nil ?_
   refine wp_ret ?_
   cases hs
   exact ⟨_, fr_ovl 17 ⟨rfl, trivial⟩, hC⟩
  refine c_condF (congrArg Value.bool a2) ?_
  refine wp_skip ?_
  refine c_region ?_
  refine pl_val (.int .i64 (w64 ((a1 : Int) + 1))) (y_add rfl rfl) ?_
  refine pl_val (.int .i64 (w64 ((a1 : Int) + 1))) (y_move rfl) ?_
  refine c_nil ?_
  cases hs
  exact ⟨_, rfl, drop_cons_next hd, _, fr_ovl 17 ⟨rfl, rfl, rfl, congrArg (Value.int .i64) (w64_succ hlt (Int.natCast_nonneg _) (rs_max h0)), trivial⟩, hC, hO, h0⟩
 ·skip
  exact ⟨0, rfl, rfl, _, fr_ovl 17 ⟨rfl, rfl, rfl, rfl, trivial⟩, hC, hO, h0⟩
 cases o8 with
 | nx _ => exact True.intro
 | rt r_ =>
  have hs := after_rt hs
  intro b0 a3 hK
  cases hs
  exact hK
 | br s4 =>
  have hs := after_br hs
  rintro b0 a0 ⟨σ, rfl, hC, hO, h0⟩
  refine c_sr ?_
  refine pl_val (.bool true) (y_assign rfl) ?_
  refine c_nil ?_
  refine wp_ret ?_
  cases hs
  exact ⟨_, fr_ovl 17 ⟨rfl, trivial⟩, hC⟩

def k_impl_eval (M : Nat → Prop) (w0 : World) (r : Int) (a : Act) (w : World) : Prop :=
  ∃ (σ : Nat → Value) , a = fr 78 (ovl σ [(6, (.int .i64 r))]) ∧ Chg [] w0 w
def s_impl_eval (a_ : Int × (List (Int × (List Int)))) (t : List Int) (values : List Int) : Option (Int) :=
  (mkc 0 (t.length : Int)).bind fun u6 =>
  (iter (S := (List Int) × Int) (R := Int) (fun s50 =>
  (bif (decide (0 ≤ s50.2)) then (idx t s50.2).bind fun x61 =>
  (bif (decide (0 ≤ x61)) then (idx values x61).bind fun x64 =>
  (app s50.1 ([x64])).bind fun y69 =>
  some (.nx (y69, w64 (s50.2 - 1))) else (idx a_.2 (w64 ((-1) - x61))).bind fun x71 =>
  (forC (S := Int) (R := Int) (fun k82 s80 =>
  (idx s50.1 (w64 ((w64 ((s50.1.length : Int) - 1)) - k82))).bind fun x87 =>
  some (.nx (w64 ((w64 (s80 * a_.1)) + x87)))) 0 x71.1 0).bind fun o84 => after o84 (fun r_ => some (.rt r_)) (fun s80 =>
  (slc s50.1 0 (w64 ((s50.1.length : Int) - x71.1))).bind fun y91 =>
  (idx x71.2 s80).bind fun x93 =>
  (app y91 ([x93])).bind fun y98 =>
  some (.nx (y98, w64 (s50.2 - 1))))) else some (.br (s50.1, s50.2)))) FU ((List.replicate (Int.toNat 0) (0 : Int)), w64 ((t.length : Int) - 1))).bind fun o54 => after o54 (fun r_ => some r_) (fun s50 =>
  (idx s50.1 0).bind fun x100 =>
  some x100)
set_option maxHeartbeats 4000000 in
theorem c_impl_eval {M : Nat → Prop} {w : World} {pa0 : Option Addr} {pn0 pc0 : Nat} {pa1 : Option Addr} {pn1 pc1 : Nat} {pa2 : Option Addr} {pn2 pc2 : Nat} (a_ : Int × (List (Int × (List Int)))) (t : List Int) (values : List Int) (h0 : (RT.rs (RT.pr (RT.int .i64) (RT.rs (RT.int .i64)))).val M w (.slice pa0 pn0 pc0) a_.2 ([])) (h1 : (RT.rs (RT.int .i64)).val M w (.slice pa1 pn1 pc1) t ([])) (h2 : (RT.rs (RT.int .i64)).val M w (.slice pa2 pn2 pc2) values ([])) (hM : ∀ g, w.heap.size ≤ g → M g) {r : Int} (hs : s_impl_eval a_ t values = some r) :
    Gives Try.prog 111 [(.agg #[(.int .i64 a_.1), (.slice pa0 pn0 pc0)]), (.slice pa1 pn1 pc1), (.slice pa2 pn2 pc2)] w (fun v w' => v = (.int .i64 r) ∧ Chg [] w w') := by
 refine calls_fr Try.func111 rfl Try.ntmps111 (Nat.le_of_ble_eq_true rfl) ?_
 have hO := Own.start (N := Nw w []) hM Nw.fut
 have hC := Chg.refl [] w
 unfold s_impl_eval at hs
 refine wp_mono (Q := KPost (k_impl_eval M w r)) ?_ (fun e a f4 h => ?_)
 rotate_left
 ·cases e
  case ret =>
   obtain ⟨σ, rfl, hrest⟩ := h
   exact ret1x Try.results111 (res_tmp rfl) ⟨rfl, hrest⟩
  all_goals exact (h : False).elim
 refine c_sr ?_
 obtain ⟨f5, a6, g7, f6, c5, a0⟩ := new_block w [(.int .i64 a_.1), (.slice pa0 pn0 pc0)] 35
 refine pl_val (w' := f5) (.pointer (some ⟨a6, 0, none⟩)) (y_box rfl (by rw [g7, f6]; kernel_rfl)) ?_
 have h0 := h0.ext c5
 have h1 := h1.ext c5
 have h2 := h2.ext c5
 have hC := hC.ext c5
 have hO := hO.new1 c5 f6 a0.lt
 refine pl_val (.int .i64 0) (y_assign rfl) ?_
 refine c_nil ?_
 refine c_sr ?_
 refine pl_val (.slice pa1 pn1 pc1) (y_move rfl) ?_
 refine pl_val (.int .i64 (t.length : Int)) (y_len' Sl43 (rs_len h1) rfl) ?_
 obtain ⟨u6, g8, hs⟩ := bind_some hs
 obtain ⟨d1, d2, d3, g9, h3, h4, c3, h5, d4⟩ := mk_cap (M := M) (w := f5) (r := (RT.int .i64)) (x := (0 : Int)) Rw43 g8 (fun _ _ => ⟨rfl, rfl⟩)
 refine pl_val (w' := g9) (.slice d1 d2 d3) (y_make rfl rfl h4) ?_
 have h0 := h0.ext c3
 have h1 := h1.ext c3
 have h2 := h2.ext c3
 have a0 := a0.cn c3
 have hC := hC.ext c3
 have hO := hO.new c3 h5 (os_nodup d4) d4.fpl
 refine pl_val (.slice d1 d2 d3) (y_assign rfl) ?_
 refine c_nil ?_
 refine c_seq ?_
 refine c_sr ?_
 refine pl_val (.slice pa1 pn1 pc1) (y_move rfl) ?_
 refine pl_val (.int .i64 (t.length : Int)) (y_len' Sl43 (rs_len h1) rfl) ?_
 refine pl_val (.int .i64 (w64 ((t.length : Int) - 1))) (y_sub rfl rfl) ?_
 refine pl_val (.int .i64 (w64 ((t.length : Int) - 1))) (y_assign rfl) ?_
 refine c_nil ?_
 obtain ⟨o54, h6, hs⟩ := bind_some hs
 refine wp_block ?_
 refine wp_iter (id := 0) (I := fun s50 a a4 => ∃ (σ : Nat → Value) (a7 : Option Addr) (a9 : Nat) (a8 : Nat) (b8 : List Nat), a = fr 78 (ovl σ [(1, (.slice pa1 pn1 pc1)), (2, (.slice pa2 pn2 pc2)), (3, (.pointer (some ⟨a6, 0, none⟩))), (7, (.slice a7 a9 a8)), (8, (.int .i64 s50.2))]) ∧ Chg [] w a4 ∧ Own (Nw w []) M a4 (b8 ++ (([a6]) ++ [])) ∧ (RT.rs (RT.pr (RT.int .i64) (RT.rs (RT.int .i64)))).val M a4 (.slice pa0 pn0 pc0) a_.2 ([]) ∧ (RT.rs (RT.int .i64)).val M a4 (.slice pa1 pn1 pc1) t ([]) ∧ (RT.rs (RT.int .i64)).val M a4 (.slice pa2 pn2 pc2) values ([]) ∧ BoxV a4 a6 35 [(.int .i64 a_.1), (.slice pa0 pn0 pc0)] ∧ (RT.os 3 (RT.int .i64)).val M a4 (.slice a7 a9 a8) s50.1 b8) (J := fun s50 a a4 => ∃ (σ : Nat → Value) (c7 : Option Addr) (c8 : Nat) (c9 : Nat) (d5 : List Nat), a = fr 78 (ovl σ [(7, (.slice c7 c8 c9))]) ∧ Chg [] w a4 ∧ Own (Nw w []) M a4 (d5 ++ (([a6]) ++ [])) ∧ (RT.rs (RT.pr (RT.int .i64) (RT.rs (RT.int .i64)))).val M a4 (.slice pa0 pn0 pc0) a_.2 ([]) ∧ (RT.rs (RT.int .i64)).val M a4 (.slice pa1 pn1 pc1) t ([]) ∧ (RT.rs (RT.int .i64)).val M a4 (.slice pa2 pn2 pc2) values ([]) ∧ BoxV a4 a6 35 [(.int .i64 a_.1), (.slice pa0 pn0 pc0)] ∧ (RT.os 3 (RT.int .i64)).val M a4 (.slice c7 c8 c9) s50.1 d5) (K := (k_impl_eval M w)) ?_ FU ((List.replicate (Int.toNat 0) (0 : Int)), w64 ((t.length : Int) - 1)) o54 _ _ ?_ h6 ?_
 ·rintro s50 o54 a a4 ⟨σ, a7, a9, a8, b8, rfl, hC, hO, h0, h1, h2, a0, a2⟩ hs
  refine c_seq ?_
  refine c_sr ?_
  refine pl_val (.int .i64 s50.2) (y_move rfl) ?_
  refine pl_val (.bool (decide (0 ≤ s50.2))) (y_geq rfl rfl) ?_
  refine c_nil ?_
  rcases bif_some hs with ⟨d6, hs⟩ | ⟨d6, hs⟩
  ·refine c_condT (congrArg Value.bool d6) ?_
   refine wp_skip ?_
   refine c_seq ?_
   refine wp_block ?_
   refine c_sr ?_
   refine pl_val (.slice pa1 pn1 pc1) (y_move rfl) ?_
   refine pl_val (.int .i64 s50.2) (y_move rfl) ?_
   obtain ⟨x61, h7, hs⟩ := bind_some hs
   obtain ⟨h8, h9, i0, i1⟩ := rs_idx Sl43 Sz3 h1 h7
   refine pl_val (.pointer (some ⟨h8, h9, none⟩)) (i0 _ _ _ _ _ _ _ _ _ rfl rfl) ?_
   refine pl_val (.int .i64 x61) (y_load rfl ((at_load_int Ag3 Sz3 i1) _ (Chg.refl _ _))) ?_
   refine pl_val (.int .i64 x61) (y_assign rfl) ?_
   refine c_nil ?_
   refine c_seq ?_
   refine c_sr ?_
   refine pl_val (.int .i64 x61) (y_move rfl) ?_
   refine pl_val (.bool (decide (0 ≤ x61))) (y_geq rfl rfl) ?_
   refine c_nil ?_
   rcases bif_some hs with ⟨d7, hs⟩ | ⟨d7, hs⟩
   ·refine c_condT (congrArg Value.bool d7) ?_
    refine c_sr ?_
    refine pl_val (.slice a7 a9 a8) (y_move rfl) ?_
    refine pl_val (.slice pa2 pn2 pc2) (y_move rfl) ?_
    refine pl_val (.int .i64 x61) (y_move rfl) ?_
    obtain ⟨x64, i2, hs⟩ := bind_some hs
    obtain ⟨i3, i4, i5, d8⟩ := rs_idx Sl43 Sz3 h2 i2
    refine pl_val (.pointer (some ⟨i3, i4, none⟩)) (i5 _ _ _ _ _ _ _ _ _ rfl rfl) ?_
    refine pl_val (.int .i64 x64) (y_load rfl ((at_load_int Ag3 Sz3 d8) _ (Chg.refl _ _))) ?_
    obtain ⟨f7, d9, i6, f8, b9, f9⟩ := new_block a4 [(.int .i64 x64)] 3
    refine pl_val (w' := f7) (.slice (some ⟨d9, 0, none⟩) 1 1) (y_bslice rfl (by rw [i6, f8]; kernel_rfl)) ?_
    have h0 := h0.ext b9
    have h1 := h1.ext b9
    have h2 := h2.ext b9
    have a0 := a0.cn b9
    have a2 := a2.ext b9
    have d8 := at_ext d8 b9
    have hC := hC.ext b9
    have hO := hO.new1 b9 f8 f9.lt
    have e0 := os_of_box (r := (RT.int .i64)) (M := M) (css := [[(.int .i64 x64)]]) (fps := [([] : List Nat)]) (xs := ([x64] : List Int)) f9 ⟨⟨rfl, rfl⟩, trivial⟩ (Nat.le_of_ble_eq_true rfl) (List.nodup_cons.2 ⟨(fun h => nomatch h), List.nodup_nil⟩)
    have e0 : (RT.os 3 (RT.int .i64)).val M f7 (.slice (some ⟨d9, 0, none⟩) 1 1) [x64] [d9] := e0
    obtain ⟨y69, i7, hs⟩ := bind_some hs
    have hO := hO.fr1
    obtain ⟨e1, e2, e3, i9, j0, j1, c4, j2, e4⟩ := app_os Rw43 i7 a2 e0 hO.inM (fun g hg hq => hO.apart g hq (mem_l hg))
    have c6 := os_block a2
    refine pl_val (w' := i9) (.slice e1 e2 e3) (y_append rfl rfl (j1 _)) ?_
    have hO := hO.fr1
    have hO := hO.fr1
    have h0 := h0.mt c4 hO c6
    have h1 := h1.mt c4 hO c6
    have h2 := h2.mt c4 hO c6
    have a0 := a0.ap c4 hO c6 (mem_r (mem_l (List.mem_singleton.2 rfl)))
    have hC := hC.st c4 hO c6
    have hO := hO.eat c4 j2 (os_nodup e4) e4.fpl
    refine pl_val (.slice e1 e2 e3) (y_assign rfl) ?_
    refine c_nil ?_
    refine wp_exit ?_
    refine c_region ?_
    refine pl_val (.int .i64 s50.2) (y_move rfl) ?_
    refine pl_val (.int .i64 (w64 (s50.2 - 1))) (y_sub rfl rfl) ?_
    refine pl_val (.int .i64 (w64 (s50.2 - 1))) (y_assign rfl) ?_
    refine c_nil ?_
    cases hs
    have hO := hO.fr1
    have hO := hO.fr1
    exact ⟨_, e1, e2, e3, j0, fr_ovl 78 ⟨rfl, rfl, rfl, rfl, rfl, trivial⟩, hC, hO, h0, h1, h2, a0, e4⟩
   refine c_condF (congrArg Value.bool d7) ?_
   refine wp_skip ?_
   refine c_sr ?_
   refine pl_val (.pointer (some ⟨a6, 1, none⟩)) (y_faddr rfl Fa35x1) ?_
   refine pl_val (.slice pa0 pn0 pc0) (y_load rfl ((box_load Ag33 Sz33 a0 [(.int .i64 a_.1)] [(.slice pa0 pn0 pc0)] [] rfl rfl (fun _ => rfl)) _ (Chg.refl _ _))) ?_
   refine pl_val (.int .i64 x61) (y_move rfl) ?_
   refine pl_val (.int .i64 (w64 ((-1) - x61))) (y_sub rfl rfl) ?_
   obtain ⟨x71, j3, hs⟩ := bind_some hs
   obtain ⟨j4, j5, j6, e5⟩ := rs_idx Sl33 Sz89 h0 j3
   refine pl_val (.pointer (some ⟨j4, j5, none⟩)) (j6 _ _ _ _ _ _ _ _ _ rfl rfl) ?_
   obtain ⟨m9, j7, j8⟩ := at_load Ag89 Sz89 (by intro h; cases h) e5
   obtain ⟨n0, rfl, j9⟩ := j8
   obtain ⟨n1, n2, rfl, k0, k1⟩ := pr_open j9
   obtain rfl := int_rel k0
   obtain ⟨b0, b1, b2, rfl, a5⟩ := rs_rel k1
   refine pl_val (.agg #[(.int .i64 x71.1), (.slice b0 b1 b2)]) (y_load rfl (j7 _ (Chg.refl _ _))) ?_
   obtain ⟨k2, b3, k3, g0, b7, g1⟩ := new_block a4 [(.int .i64 0), (.slice none 0 0)] 89
   refine pl_val (w' := k2) (.pointer (some ⟨b3, 0, none⟩)) (y_alloc (by rw [k3, g0]; kernel_rfl)) ?_
   have h0 := h0.ext b7
   have h1 := h1.ext b7
   have h2 := h2.ext b7
   have a0 := a0.cn b7
   have a2 := a2.ext b7
   have a5 := a5.ext b7
   have e5 := at_ext e5 b7
   have hC := hC.ext b7
   have hO := hO.new1 b7 g0 g1.lt
   obtain ⟨g2, k4, c0, a3⟩ := box_store (P := Try.prog) g1 [] [(.int .i64 0), (.slice none 0 0)] [] [(.int .i64 x71.1), (.slice b0 b1 b2)] rfl rfl (by intro u hu; simp only [List.mem_cons, List.not_mem_nil, or_false] at hu; rcases hu with rfl | rfl <;> rfl)
   refine pl_skip (w' := g2) (ys_store rfl rfl (k4 _ _ rfl Sz89)) ?_
   have h0 := h0.mt c0 hO same_
   have h1 := h1.mt c0 hO same_
   have h2 := h2.mt c0 hO same_
   have a0 := a0.ap c0 hO same_ (mem_r (mem_l (List.mem_singleton.2 rfl)))
   have a2 := a2.ma c0 hO same_ (fun _ e => (mem_l (e)))
   have a5 := a5.mt c0 hO same_
   have hC := hC.st c0 hO same_
   have hO := hO.ext c0
   have a3 : BoxV g2 b3 89 [(.int .i64 x71.1), (.slice b0 b1 b2)] := a3
   refine c_nil ?_
   refine c_sr ?_
   refine pl_val (.int .i64 0) (y_assign rfl) ?_
   refine c_nil ?_
   refine c_seq ?_
   refine c_sr ?_
   refine pl_val (.int .i64 0) (y_assign rfl) ?_
   refine c_nil ?_
   obtain ⟨o84, k5, hs⟩ := bind_some hs
   refine wp_block ?_
   refine wp_forC (id := 2) x71.1 (I := fun k82 s80 a a1 => ∃ (σ : Nat → Value), a = fr 78 (ovl σ [(1, (.slice pa1 pn1 pc1)), (2, (.slice pa2 pn2 pc2)), (3, (.pointer (some ⟨a6, 0, none⟩))), (7, (.slice a7 a9 a8)), (8, (.int .i64 s50.2)), (10, (.pointer (some ⟨b3, 0, none⟩))), (11, (.int .i64 s80)), (12, (.int .i64 k82))]) ∧ Chg [] w a1 ∧ Own (Nw w []) M a1 (([b3]) ++ (b8 ++ (([a6]) ++ []))) ∧ (RT.rs (RT.pr (RT.int .i64) (RT.rs (RT.int .i64)))).val M a1 (.slice pa0 pn0 pc0) a_.2 ([]) ∧ (RT.rs (RT.int .i64)).val M a1 (.slice pa1 pn1 pc1) t ([]) ∧ (RT.rs (RT.int .i64)).val M a1 (.slice pa2 pn2 pc2) values ([]) ∧ BoxV a1 a6 35 [(.int .i64 a_.1), (.slice pa0 pn0 pc0)] ∧ (RT.os 3 (RT.int .i64)).val M a1 (.slice a7 a9 a8) s50.1 b8 ∧ (RT.rs (RT.int .i64)).val M a1 (.slice b0 b1 b2) x71.2 ([]) ∧ BoxV a1 b3 89 [(.int .i64 x71.1), (.slice b0 b1 b2)]) (J := fun s80 a a1 => ∃ (σ : Nat → Value), a = fr 78 (ovl σ [(1, (.slice pa1 pn1 pc1)), (2, (.slice pa2 pn2 pc2)), (3, (.pointer (some ⟨a6, 0, none⟩))), (7, (.slice a7 a9 a8)), (8, (.int .i64 s50.2)), (10, (.pointer (some ⟨b3, 0, none⟩))), (11, (.int .i64 s80))]) ∧ Chg [] w a1 ∧ Own (Nw w []) M a1 (([b3]) ++ (b8 ++ (([a6]) ++ []))) ∧ (RT.rs (RT.pr (RT.int .i64) (RT.rs (RT.int .i64)))).val M a1 (.slice pa0 pn0 pc0) a_.2 ([]) ∧ (RT.rs (RT.int .i64)).val M a1 (.slice pa1 pn1 pc1) t ([]) ∧ (RT.rs (RT.int .i64)).val M a1 (.slice pa2 pn2 pc2) values ([]) ∧ BoxV a1 a6 35 [(.int .i64 a_.1), (.slice pa0 pn0 pc0)] ∧ (RT.os 3 (RT.int .i64)).val M a1 (.slice a7 a9 a8) s50.1 b8 ∧ (RT.rs (RT.int .i64)).val M a1 (.slice b0 b1 b2) x71.2 ([]) ∧ BoxV a1 b3 89 [(.int .i64 x71.1), (.slice b0 b1 b2)]) (K := (k_impl_eval M w)) ?_ ?_ 0 0 o84 _ _ ?_ k5 ?_
   ·rintro k82 s80 a a1 ⟨σ, rfl, hC, hO, h0, h1, h2, a0, a2, a5, a3⟩ hlt
    refine c_seq ?_
    refine c_sr ?_
    refine pl_val (.int .i64 k82) (y_move rfl) ?_
    refine pl_val (.pointer (some ⟨b3, 0, none⟩)) (y_faddr rfl Fa89x0) ?_
    refine pl_val (.int .i64 x71.1) (y_load rfl ((box_load Ag3 Sz3 a3 [] [(.int .i64 x71.1)] [(.slice b0 b1 b2)] rfl rfl (fun _ => rfl)) _ (Chg.refl _ _))) ?_
    refine pl_val (.bool (decide (k82 < x71.1))) (y_lss rfl rfl) ?_
    refine c_nil ?_
    refine c_condF (congrArg Value.bool (decide_eq_false hlt)) ?_
    refine wp_exit ?_
    have hO := hO.fr2
    have hO := hO.fr2
    have hO := hO.fr2
    exact ⟨rfl, _, fr_ovl 78 ⟨rfl, rfl, rfl, rfl, rfl, rfl, rfl, trivial⟩, hC, hO, h0, h1, h2, a0, a2, a5, a3⟩
   ·rintro k82 s80 o84 a a1 ⟨σ, rfl, hC, hO, h0, h1, h2, a0, a2, a5, a3⟩ hlt hw hs
    refine c_seq ?_
    refine c_sr ?_
    refine pl_val (.int .i64 k82) (y_move rfl) ?_
    refine pl_val (.pointer (some ⟨b3, 0, none⟩)) (y_faddr rfl Fa89x0) ?_
    refine pl_val (.int .i64 x71.1) (y_load rfl ((box_load Ag3 Sz3 a3 [] [(.int .i64 x71.1)] [(.slice b0 b1 b2)] rfl rfl (fun _ => rfl)) _ (Chg.refl _ _))) ?_
    refine pl_val (.bool (decide (k82 < x71.1))) (y_lss rfl rfl) ?_
    refine c_nil ?_
    refine c_condT (congrArg Value.bool (decide_eq_true hlt)) ?_
    refine wp_skip ?_
    refine c_seq ?_
    refine wp_block ?_
    refine x_start [] Mx rfl ?_
    have b5 := Chg.drew a1
    generalize World.drew a1 = k6 at b5 ⊢
    have h0 := h0.ext b5
    have h1 := h1.ext b5
    have h2 := h2.ext b5
    have a0 := a0.cn b5
    have a2 := a2.ext b5
    have a5 := a5.ext b5
    have a3 := a3.cn b5
    have hC := hC.ext b5
    have hO := hO.ext b5
    have hS := Chg.refl [] k6
    refine x_p 0 (.int .i64 s80) rfl (by kernel_rfl)  (fun _ => y_move rfl) (fun _ => hS) ?_
    refine x_p 1 (.pointer (some ⟨a6, 0, none⟩)) rfl (by kernel_rfl)  (fun _ => y_faddr rfl Fa35x0) (fun _ => hS) ?_
    refine x_l 2 (.int .i64 a_.1) rfl (by kernel_rfl)  (fun w' hw' => y_load rfl ((box_load Ag3 Sz3 a0 [] [(.int .i64 a_.1)] [(.slice pa0 pn0 pc0)] rfl rfl (fun _ => rfl)) w' hw')) hS ?_
    refine x_p 3 (.int .i64 (w64 (s80 * a_.1))) rfl (by kernel_rfl)  (fun _ => y_mul rfl rfl) (fun _ => hS) ?_
    refine x_p 4 (.slice a7 a9 a8) rfl (by kernel_rfl)  (fun _ => y_move rfl) (fun _ => hS) ?_
    refine x_p 5 (.slice a7 a9 a8) rfl (by kernel_rfl)  (fun _ => y_move rfl) (fun _ => hS) ?_
    refine x_p 6 (.int .i64 (s50.1.length : Int)) rfl (by kernel_rfl)  (fun _ => y_len' Sl43 (os_len a2) rfl) (fun _ => hS) ?_
    refine x_p 7 (.int .i64 (w64 ((s50.1.length : Int) - 1))) rfl (by kernel_rfl)  (fun _ => y_sub rfl rfl) (fun _ => hS) ?_
    refine x_p 8 (.int .i64 k82) rfl (by kernel_rfl)  (fun _ => y_move rfl) (fun _ => hS) ?_
    refine x_p 9 (.int .i64 (w64 ((w64 ((s50.1.length : Int) - 1)) - k82))) rfl (by kernel_rfl)  (fun _ => y_sub rfl rfl) (fun _ => hS) ?_
    obtain ⟨x87, k7, hs⟩ := bind_some hs
    obtain ⟨k8, n3, n4, n5, k9, l0, n6⟩ := os_idx Sl43 Sz3 a2 k7
    refine x_p 10 (.pointer (some ⟨k8, 0 + Int.toNat (w64 ((w64 ((s50.1.length : Int) - 1)) - k82)) * 1, none⟩)) rfl (by kernel_rfl)  (fun _ => k9 _ _ _ _ _ _ _ _ _ rfl rfl) (fun _ => hS) ?_
    refine x_l 11 (.int .i64 x87) rfl (by kernel_rfl)  (fun w' hw' => y_load rfl ((at_load_int Ag3 Sz3 l0) w' hw')) hS ?_
    refine x_p 12 (.int .i64 (w64 ((w64 (s80 * a_.1)) + x87))) rfl (by kernel_rfl)  (fun _ => y_add rfl rfl) (fun _ => hS) ?_
    refine x_p 13 (.int .i64 (w64 ((w64 (s80 * a_.1)) + x87))) rfl (by kernel_rfl)  (fun _ => y_assign rfl) (fun _ => hS) ?_
    refine x_end (by kernel_rfl) ?_
    clear hS
    refine c_region ?_
    refine pl_val (.int .i64 k82) (y_move rfl) ?_
    refine pl_val (.int .i64 (w64 (k82 + 1))) (y_add rfl rfl) ?_
    refine pl_val (.int .i64 (w64 (k82 + 1))) (y_assign rfl) ?_
    refine c_nil ?_
    cases hs
    have hO := hO.fr2
    have hO := hO.fr2
    have hO := hO.fr2
    exact ⟨_, fr_ovl 78 ⟨rfl, rfl, rfl, rfl, rfl, rfl, rfl, congrArg (Value.int .i64) hw, trivial⟩, hC, hO, h0, h1, h2, a0, a2, a5, a3⟩
   ·skip
    have hO := hO.fr2
    have hO := hO.fr2
    have hO := hO.fr2
    exact ⟨_, fr_ovl 78 ⟨rfl, rfl, rfl, rfl, rfl, rfl, rfl, rfl, trivial⟩, hC, hO, h0, h1, h2, a0, a2, a5, a3⟩
   cases o84 with
   | nx _ => exact True.intro
   | rt r_ =>
    have hs := after_rt hs
    intro e6 f4 hK
    cases hs
    exact hK
   | br s80 =>
    have hs := after_br hs
    rintro e6 a1 ⟨σ, rfl, hC, hO, h0, h1, h2, a0, a2, a5, a3⟩
    refine x_start [13] Mx rfl ?_
    have b6 := Chg.drew a1
    generalize World.drew a1 = g3 at b6 ⊢
    have h0 := h0.ext b6
    have h1 := h1.ext b6
    have h2 := h2.ext b6
    have a0 := a0.cn b6
    have a2 := a2.ext b6
    have a5 := a5.ext b6
    have a3 := a3.cn b6
    have hC := hC.ext b6
    have hO := hO.ext b6
    have hS := Chg.refl [] g3
    refine x_p 0 (.slice a7 a9 a8) rfl (by kernel_rfl)  (fun _ => y_move rfl) (fun _ => hS) ?_
    refine x_p 1 (.slice a7 a9 a8) rfl (by kernel_rfl)  (fun _ => y_move rfl) (fun _ => hS) ?_
    refine x_p 2 (.int .i64 (s50.1.length : Int)) rfl (by kernel_rfl)  (fun _ => y_len' Sl43 (os_len a2) rfl) (fun _ => hS) ?_
    refine x_p 3 (.pointer (some ⟨b3, 0, none⟩)) rfl (by kernel_rfl)  (fun _ => y_faddr rfl Fa89x0) (fun _ => hS) ?_
    refine x_l 4 (.int .i64 x71.1) rfl (by kernel_rfl)  (fun w' hw' => y_load rfl ((box_load Ag3 Sz3 a3 [] [(.int .i64 x71.1)] [(.slice b0 b1 b2)] rfl rfl (fun _ => rfl)) w' hw')) hS ?_
    refine x_p 5 (.int .i64 (w64 ((s50.1.length : Int) - x71.1))) rfl (by kernel_rfl)  (fun _ => y_sub rfl rfl) (fun _ => hS) ?_
    obtain ⟨y91, l1, hs⟩ := bind_some hs
    obtain ⟨l2, d0, l3⟩ := os_pre Nf.int Try.underlying43 Sz3 a2 l1
    refine x_p 6 (.slice a7 l2 a8) rfl (by kernel_rfl)  (fun _ => y_slice rfl rfl rfl (l3 _)) (fun _ => hS) ?_
    refine x_p 7 (.pointer (some ⟨b3, 1, none⟩)) rfl (by kernel_rfl)  (fun _ => y_faddr rfl Fa89x1) (fun _ => hS) ?_
    refine x_l 8 (.slice b0 b1 b2) rfl (by kernel_rfl)  (fun w' hw' => y_load rfl ((box_load Ag43 Sz43 a3 [(.int .i64 x71.1)] [(.slice b0 b1 b2)] [] rfl rfl (fun _ => rfl)) w' hw')) hS ?_
    refine x_p 9 (.int .i64 s80) rfl (by kernel_rfl)  (fun _ => y_move rfl) (fun _ => hS) ?_
    obtain ⟨x93, l4, hs⟩ := bind_some hs
    obtain ⟨l5, l6, l7, e7⟩ := rs_idx Sl43 Sz3 a5 l4
    refine x_p 10 (.pointer (some ⟨l5, l6, none⟩)) rfl (by kernel_rfl)  (fun _ => l7 _ _ _ _ _ _ _ _ _ rfl rfl) (fun _ => hS) ?_
    refine x_l 11 (.int .i64 x93) rfl (by kernel_rfl)  (fun w' hw' => y_load rfl ((at_load_int Ag3 Sz3 e7) w' hw')) hS ?_
    refine x_one (i := 12) (by kernel_rfl) ?_
    obtain ⟨g4, e8, l8, g5, b4, g6⟩ := new_block g3 [(.int .i64 x93)] 3
    refine xk_val (w' := g4) (b := false) (.slice (some ⟨e8, 0, none⟩) 1 1) rfl  (y_bslice rfl (by rw [l8, g5]; kernel_rfl)) rfl (fun _ => hS.ext b4) ?_
    have h0 := h0.ext b4
    have h1 := h1.ext b4
    have h2 := h2.ext b4
    have a0 := a0.cn b4
    have a5 := a5.ext b4
    have a3 := a3.cn b4
    have d0 := d0.ext b4
    have e7 := at_ext e7 b4
    have hC := hC.ext b4
    have hO := hO.new1 b4 g5 g6.lt
    have e9 := os_of_box (r := (RT.int .i64)) (M := M) (css := [[(.int .i64 x93)]]) (fps := [([] : List Nat)]) (xs := ([x93] : List Int)) g6 ⟨⟨rfl, rfl⟩, trivial⟩ (Nat.le_of_ble_eq_true rfl) (List.nodup_cons.2 ⟨(fun h => nomatch h), List.nodup_nil⟩)
    have e9 : (RT.os 3 (RT.int .i64)).val M g4 (.slice (some ⟨e8, 0, none⟩) 1 1) [x93] [e8] := e9
    have hS := hS.ext b4
    refine x_one (i := 13) (by kernel_rfl) ?_
    obtain ⟨y98, l9, hs⟩ := bind_some hs
    have hO := hO.fr2
    obtain ⟨f0, f1, f2, m0, m1, m2, c1, m3, f3⟩ := app_os Rw43 l9 d0 e9 hO.inM (fun g hg hq => hO.apart g hq (mem_l hg))
    have c2 := os_block d0
    refine xk_val (w' := m0) (b := true) (.slice f0 f1 f2) rfl  (y_append rfl rfl (m2 _)) rfl (fun h => nomatch h) ?_
    have hO := hO.fr1
    have hO := hO.fr1
    have h0 := h0.mt c1 hO c2
    have h1 := h1.mt c1 hO c2
    have h2 := h2.mt c1 hO c2
    have a0 := a0.ap c1 hO c2 (mem_r (mem_r (mem_l (List.mem_singleton.2 rfl))))
    have a5 := a5.mt c1 hO c2
    have a3 := a3.ap c1 hO c2 (mem_r (mem_l (List.mem_singleton.2 rfl)))
    have hC := hC.st c1 hO c2
    have hO := hO.eat c1 m3 (os_nodup f3) f3.fpl
    refine x_p 14 (.slice f0 f1 f2) rfl (by kernel_rfl)  (fun _ => y_assign rfl) (fun h => nomatch h) ?_
    refine x_end (by kernel_rfl) ?_
    clear hS
    refine c_region ?_
    refine pl_val (.int .i64 s50.2) (y_move rfl) ?_
    refine pl_val (.int .i64 (w64 (s50.2 - 1))) (y_sub rfl rfl) ?_
    refine pl_val (.int .i64 (w64 (s50.2 - 1))) (y_assign rfl) ?_
    refine c_nil ?_
    cases hs
    have hO := hO.fr1
    have hO := hO.drop
    have hO := hO.fr1
    have hO := hO.fr1
    exact ⟨_, f0, f1, f2, m1, fr_ovl 78 ⟨rfl, rfl, rfl, rfl, rfl, trivial⟩, hC, hO, h0, h1, h2, a0, f3⟩
  refine c_condF (congrArg Value.bool d6) ?_
  refine wp_exit ?_
  cases hs
  have hO := hO.fr1
  have hO := hO.fr1
  exact ⟨rfl, _, a7, a9, a8, b8, fr_ovl 78 ⟨rfl, trivial⟩, hC, hO, h0, h1, h2, a0, a2⟩
 ·skip
  have hO := hO.fr1
  have hO := hO.fr1
  exact ⟨_, d1, d2, d3, h3, fr_ovl 78 ⟨rfl, rfl, rfl, rfl, rfl, trivial⟩, hC, hO, h0, h1, h2, a0, d4⟩
 cases o54 with
 | nx _ => exact True.intro
 | rt r_ =>
  have hs := after_rt hs
  intro e6 f4 hK
  cases hs
  exact hK
 | br s50 =>
  have hs := after_br hs
  rintro e6 a4 ⟨σ, c7, c8, c9, d5, rfl, hC, hO, h0, h1, h2, a0, m4⟩
  refine c_sr ?_
  refine pl_val (.slice c7 c8 c9) (y_move rfl) ?_
  obtain ⟨x100, m5, hs⟩ := bind_some hs
  obtain ⟨m6, n7, n8, n9, m7, m8, o0⟩ := os_idx Sl43 Sz3 m4 m5
  refine pl_val (.pointer (some ⟨m6, 0 + Int.toNat 0 * 1, none⟩)) (m7 _ _ _ _ _ _ _ _ _ rfl rfl) ?_
  refine pl_val (.int .i64 x100) (y_load rfl ((at_load_int Ag3 Sz3 m8) _ (Chg.refl _ _))) ?_
  refine pl_val (.int .i64 x100) (y_assign rfl) ?_
  refine c_nil ?_
  refine wp_ret ?_
  cases hs
  exact ⟨_, fr_ovl 78 ⟨rfl, trivial⟩, hC⟩

theorem Bd111 : Bodied Try.prog 111 := bodied Try.func111 (by kernel_rfl) rfl

end Go.Proofs
