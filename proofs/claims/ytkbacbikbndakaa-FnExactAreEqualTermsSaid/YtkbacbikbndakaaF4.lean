/- What functions of the program compute, as plain functions, and that a call gives just that. Conditions: those named in each theorem. -/
import Derived.Test.YtkbacbikbndakaaF3
set_option linter.unusedVariables false
namespace Go.Proofs
open Go.G Go.RowKit
set_option maxRecDepth 100000

def k_impl_termTable (M : Nat → Prop) (w0 : World) (r : (List Int)) (a : Act) (w : World) : Prop :=
  ∃ (σ : Nat → Value) (ra0 : Option Addr) (rn0 rc0 : Nat) (rf0 : List Nat), a = fr 30 (ovl σ [(6, (.slice ra0 rn0 rc0))]) ∧ Chg [] w0 w ∧ (RT.os 3 (RT.int .i64)).val M w (.slice ra0 rn0 rc0) r rf0 ∧ Own (Nw w0 []) (fun _ => True) w (rf0 ++ ([]))
def s_impl_termTable (a_ : Int × (List (Int × (List Int)))) (t : List Int) (k : Int) : Option ((List Int)) :=
  (iter (S := (List Int) × Int) (R := (List Int)) (fun s22 =>
  (s_impl_power a_.1 k).bind fun r33 =>
  (bif (decide (s22.2 < r33)) then (s_impl_argsAt s22.2 k a_.1).bind fun r37 =>
  (s_impl_eval (a_.1, a_.2) t r37).bind fun r40 =>
  (app s22.1 ([r40])).bind fun y44 =>
  some (.nx (y44, w64 (s22.2 + 1))) else some (.br (s22.1, s22.2)))) FU ([], 0)).bind fun o26 => after o26 (fun r_ => some r_) (fun s22 =>
  some s22.1)
set_option maxHeartbeats 4000000 in
theorem c_impl_termTable {M : Nat → Prop} {w : World} {pa0 : Option Addr} {pn0 pc0 : Nat} {pa1 : Option Addr} {pn1 pc1 : Nat} (a_ : Int × (List (Int × (List Int)))) (t : List Int) (k : Int) (h0 : (RT.rs (RT.pr (RT.int .i64) (RT.rs (RT.int .i64)))).val M w (.slice pa0 pn0 pc0) a_.2 ([])) (h1 : (RT.rs (RT.int .i64)).val M w (.slice pa1 pn1 pc1) t ([])) (hM : ∀ g, w.heap.size ≤ g → M g) {r : (List Int)} (hs : s_impl_termTable a_ t k = some r) :
    Gives Try.prog 92 [(.agg #[(.int .i64 a_.1), (.slice pa0 pn0 pc0)]), (.slice pa1 pn1 pc1), (.int .i64 k)] w (fun v w' => ∃ (ra0 : Option Addr) (rn0 rc0 : Nat) (rf0 : List Nat), v = (.slice ra0 rn0 rc0) ∧ Chg [] w w' ∧ (RT.os 3 (RT.int .i64)).val M w' (.slice ra0 rn0 rc0) r rf0 ∧ Own (Nw w []) (fun _ => True) w' (rf0 ++ ([]))) := by
 refine calls_fr Try.func92 rfl Try.ntmps92 (Nat.le_of_ble_eq_true rfl) ?_
 have hO := Own.start (N := Nw w []) hM Nw.fut
 have hC := Chg.refl [] w
 unfold s_impl_termTable at hs
 refine wp_mono (Q := KPost (k_impl_termTable M w r)) ?_ (fun e a e2 h => ?_)
 rotate_left
 ·cases e
  case ret =>
   obtain ⟨σ, ra0, rn0, rc0, rf0, rfl, hrest⟩ := h
   exact ret1x Try.results92 (res_tmp rfl) ⟨ra0, rn0, rc0, rf0, rfl, hrest⟩
  all_goals exact (h : False).elim
 refine c_sr ?_
 obtain ⟨d2, a4, e3, d3, c1, a0⟩ := new_block w [(.int .i64 a_.1), (.slice pa0 pn0 pc0)] 35
 refine pl_val (w' := d2) (.pointer (some ⟨a4, 0, none⟩)) (y_box rfl (by rw [e3, d3]; kernel_rfl)) ?_
 have h0 := h0.ext c1
 have h1 := h1.ext c1
 have hC := hC.ext c1
 have hO := hO.new1 c1 d3 a0.lt
 refine pl_val (.slice none 0 0) (y_assign rfl) ?_
 refine c_nil ?_
 refine c_sr ?_
 obtain ⟨d4, a9, e4, d5, b5, d6⟩ := new_block d2 [] 3
 refine pl_val (w' := d4) (.slice (some ⟨a9, 0, none⟩) 0 0) (y_bslice rfl (by rw [e4, d5]; kernel_rfl)) ?_
 have h0 := h0.ext b5
 have h1 := h1.ext b5
 have a0 := a0.cn b5
 have hC := hC.ext b5
 have hO := hO.new1 b5 d5 d6.lt
 have c3 := os_of_box (r := (RT.int .i64)) (M := M) (css := []) (fps := []) (xs := ([] : List Int)) d6 trivial (Nat.zero_le _) (List.nodup_cons.2 ⟨(fun h => nomatch h), List.nodup_nil⟩)
 have c3 : (RT.os 3 (RT.int .i64)).val M d4 (.slice (some ⟨a9, 0, none⟩) 0 0) [] [a9] := c3
 refine pl_val (.slice (some ⟨a9, 0, none⟩) 0 0) (y_assign rfl) ?_
 refine c_nil ?_
 refine c_seq ?_
 refine c_sr ?_
 refine pl_val (.int .i64 0) (y_assign rfl) ?_
 refine c_nil ?_
 obtain ⟨o26, e5, hs⟩ := bind_some hs
 refine wp_block ?_
 refine wp_iter (id := 0) (I := fun s22 a a1 => ∃ (σ : Nat → Value) (b6 : Option Addr) (b7 : Nat) (b8 : Nat) (b9 : List Nat), a = fr 30 (ovl σ [(1, (.slice pa1 pn1 pc1)), (2, (.int .i64 k)), (3, (.pointer (some ⟨a4, 0, none⟩))), (7, (.slice b6 b7 b8)), (8, (.int .i64 s22.2))]) ∧ Chg [] w a1 ∧ Own (Nw w []) M a1 (b9 ++ (([a4]) ++ [])) ∧ (RT.rs (RT.pr (RT.int .i64) (RT.rs (RT.int .i64)))).val M a1 (.slice pa0 pn0 pc0) a_.2 ([]) ∧ (RT.rs (RT.int .i64)).val M a1 (.slice pa1 pn1 pc1) t ([]) ∧ BoxV a1 a4 35 [(.int .i64 a_.1), (.slice pa0 pn0 pc0)] ∧ (RT.os 3 (RT.int .i64)).val M a1 (.slice b6 b7 b8) s22.1 b9) (J := fun s22 a a1 => ∃ (σ : Nat → Value) (b0 : Option Addr) (b1 : Nat) (b2 : Nat) (c2 : List Nat), a = fr 30 (ovl σ [(7, (.slice b0 b1 b2))]) ∧ Chg [] w a1 ∧ Own (Nw w []) M a1 (c2 ++ (([a4]) ++ [])) ∧ (RT.rs (RT.pr (RT.int .i64) (RT.rs (RT.int .i64)))).val M a1 (.slice pa0 pn0 pc0) a_.2 ([]) ∧ (RT.rs (RT.int .i64)).val M a1 (.slice pa1 pn1 pc1) t ([]) ∧ BoxV a1 a4 35 [(.int .i64 a_.1), (.slice pa0 pn0 pc0)] ∧ (RT.os 3 (RT.int .i64)).val M a1 (.slice b0 b1 b2) s22.1 c2) (K := (k_impl_termTable M w)) ?_ FU ([], 0) o26 _ _ ?_ e5 ?_
 ·rintro s22 o26 a a1 ⟨σ, b6, b7, b8, b9, rfl, hC, hO, h0, h1, a0, a2⟩ hs
  refine c_seq ?_
  refine c_sr ?_
  refine pl_val (.int .i64 s22.2) (y_move rfl) ?_
  refine pl_val (.pointer (some ⟨a4, 0, none⟩)) (y_faddr rfl Fa35x0) ?_
  refine pl_val (.int .i64 a_.1) (y_load rfl ((box_load Ag3 Sz3 a0 [] [(.int .i64 a_.1)] [(.slice pa0 pn0 pc0)] rfl rfl (fun _ => rfl)) _ (Chg.refl _ _))) ?_
  refine pl_val (.int .i64 k) (y_move rfl) ?_
  obtain ⟨r33, e6, hs⟩ := bind_some hs
  refine pl_call Bd88 rfl (c_impl_power (M := M) a_.1 k  hO.fut e6) ?_
  rintro _ d7 ⟨rfl, b3⟩
  have h0 := h0.ext b3
  have h1 := h1.ext b3
  have a0 := a0.cn b3
  have a2 := a2.ext b3
  have hC := hC.ext b3
  have hO := hO.ext b3
  refine pl_val (.bool (decide (s22.2 < r33))) (y_lss rfl rfl) ?_
  refine c_nil ?_
  rcases bif_some hs with ⟨c4, hs⟩ | ⟨c4, hs⟩
  ·refine c_condT (congrArg Value.bool c4) ?_
   refine wp_skip ?_
   refine c_seq ?_
   refine wp_block ?_
   refine x_start [10] Mx rfl ?_
   have a8 := Chg.drew d7
   generalize World.drew d7 = e7 at a8 ⊢
   have h0 := h0.ext a8
   have h1 := h1.ext a8
   have a0 := a0.cn a8
   have a2 := a2.ext a8
   have hC := hC.ext a8
   have hO := hO.ext a8
   have hS := Chg.refl [] e7
   refine x_p 0 (.slice b6 b7 b8) rfl (by kernel_rfl)  (fun _ => y_move rfl) (fun _ => hS) ?_
   refine x_l 1 (.agg #[(.int .i64 a_.1), (.slice pa0 pn0 pc0)]) rfl (by kernel_rfl)  (fun w' hw' => y_load rfl ((box_load Ag35 Sz35 a0 [] [(.int .i64 a_.1), (.slice pa0 pn0 pc0)] [] rfl rfl (fun h => nomatch h)) w' hw')) hS ?_
   refine x_p 2 (.slice pa1 pn1 pc1) rfl (by kernel_rfl)  (fun _ => y_move rfl) (fun _ => hS) ?_
   refine x_p 3 (.int .i64 s22.2) rfl (by kernel_rfl)  (fun _ => y_move rfl) (fun _ => hS) ?_
   refine x_p 4 (.int .i64 k) rfl (by kernel_rfl)  (fun _ => y_move rfl) (fun _ => hS) ?_
   refine x_p 5 (.pointer (some ⟨a4, 0, none⟩)) rfl (by kernel_rfl)  (fun _ => y_faddr rfl Fa35x0) (fun _ => hS) ?_
   refine x_l 6 (.int .i64 a_.1) rfl (by kernel_rfl)  (fun w' hw' => y_load rfl ((box_load Ag3 Sz3 a0 [] [(.int .i64 a_.1)] [(.slice pa0 pn0 pc0)] rfl rfl (fun _ => rfl)) w' hw')) hS ?_
   refine x_one (i := 7) (by kernel_rfl) ?_
   obtain ⟨r37, e8, hs⟩ := bind_some hs
   refine xk_call (b := false) rfl  Bd89 rfl (c_impl_argsAt (M := M) s22.2 k a_.1  hO.fut e8) rfl (by rintro _ _ _ ⟨e9, f0, f1, c5, rfl, a5, a7, d8⟩; exact hS.ext a5) ?_
   rintro _ g2 ⟨e9, f0, f1, c5, rfl, a5, a7, d8⟩
   have h0 := h0.ext a5
   have h1 := h1.ext a5
   have a0 := a0.cn a5
   have a2 := a2.ext a5
   have hC := hC.ext a5
   have hO := Own.join0 hO a5 d8
   have hO := hO.perm (R := c5 ++ (b9 ++ (([a4]) ++ ([])))) (by simp)
   have hS := hS.ext a5
   refine x_one (i := 8) (by kernel_rfl) ?_
   obtain ⟨r40, f2, hs⟩ := bind_some hs
   refine xk_call (b := false) rfl  Bd111 rfl (c_impl_eval (M := (Less M c5)) (a_.1, a_.2) t r37 (h0.sub Less.sub) (h1.sub Less.sub) (((Frz.os Frz.int)).val a7 Less.sub Less.not) hO.less.fut f2) rfl (by rintro _ _ _ ⟨rfl, a3⟩; exact hS.ext a3) ?_
   rintro _ f3 ⟨rfl, a3⟩
   have h0 := h0.ext a3
   have h1 := h1.ext a3
   have a0 := a0.cn a3
   have a2 := a2.ext a3
   have a7 := a7.ext a3
   have hC := hC.ext a3
   have hO := hO.ext a3
   have hS := hS.ext a3
   refine x_one (i := 9) (by kernel_rfl) ?_
   obtain ⟨d9, c6, f4, e0, a6, e1⟩ := new_block f3 [(.int .i64 r40)] 3
   refine xk_val (w' := d9) (b := false) (.slice (some ⟨c6, 0, none⟩) 1 1) rfl  (y_bslice rfl (by rw [f4, e0]; kernel_rfl)) rfl (fun _ => hS.ext a6) ?_
   have h0 := h0.ext a6
   have h1 := h1.ext a6
   have a0 := a0.cn a6
   have a2 := a2.ext a6
   have a7 := a7.ext a6
   have hC := hC.ext a6
   have hO := hO.new1 a6 e0 e1.lt
   have c7 := os_of_box (r := (RT.int .i64)) (M := M) (css := [[(.int .i64 r40)]]) (fps := [([] : List Nat)]) (xs := ([r40] : List Int)) e1 ⟨⟨rfl, rfl⟩, trivial⟩ (Nat.le_of_ble_eq_true rfl) (List.nodup_cons.2 ⟨(fun h => nomatch h), List.nodup_nil⟩)
   have c7 : (RT.os 3 (RT.int .i64)).val M d9 (.slice (some ⟨c6, 0, none⟩) 1 1) [r40] [c6] := c7
   have hS := hS.ext a6
   refine x_one (i := 10) (by kernel_rfl) ?_
   obtain ⟨y44, f5, hs⟩ := bind_some hs
   have hO := hO.fr2
   obtain ⟨c8, c9, d0, f6, f7, f8, b4, f9, d1⟩ := app_os Rw43 f5 a2 c7 hO.inM (fun g hg hq => hO.apart g hq (mem_l hg))
   have c0 := os_block a2
   refine xk_val (w' := f6) (b := true) (.slice c8 c9 d0) rfl  (y_append rfl rfl (f8 _)) rfl (fun h => nomatch h) ?_
   have hO := hO.fr1
   have hO := hO.fr1
   have h0 := h0.mt b4 hO c0
   have h1 := h1.mt b4 hO c0
   have a0 := a0.ap b4 hO c0 (mem_r (mem_r (mem_l (List.mem_singleton.2 rfl))))
   have a7 := a7.ma b4 hO c0 (fun _ e => (mem_r (mem_l (e))))
   have hC := hC.st b4 hO c0
   have hO := hO.eat b4 f9 (os_nodup d1) d1.fpl
   refine x_p 11 (.slice c8 c9 d0) rfl (by kernel_rfl)  (fun _ => y_assign rfl) (fun h => nomatch h) ?_
   refine x_end (by kernel_rfl) ?_
   clear hS
   refine c_region ?_
   refine pl_val (.int .i64 s22.2) (y_move rfl) ?_
   refine pl_val (.int .i64 (w64 (s22.2 + 1))) (y_add rfl rfl) ?_
   refine pl_val (.int .i64 (w64 (s22.2 + 1))) (y_assign rfl) ?_
   refine c_nil ?_
   cases hs
   have hO := hO.fr1
   have hO := hO.drop
   have hO := hO.fr1
   have hO := hO.fr1
   exact ⟨_, c8, c9, d0, f7, fr_ovl 30 ⟨rfl, rfl, rfl, rfl, rfl, trivial⟩, hC, hO, h0, h1, a0, d1⟩
  refine c_condF (congrArg Value.bool c4) ?_
  refine wp_exit ?_
  cases hs
  have hO := hO.fr1
  have hO := hO.fr1
  exact ⟨rfl, _, b6, b7, b8, b9, fr_ovl 30 ⟨rfl, trivial⟩, hC, hO, h0, h1, a0, a2⟩
 ·skip
  have hO := hO.fr1
  have hO := hO.fr1
  exact ⟨_, (some ⟨a9, 0, none⟩), 0, 0, ([a9]), fr_ovl 30 ⟨rfl, rfl, rfl, rfl, rfl, trivial⟩, hC, hO, h0, h1, a0, c3⟩
 cases o26 with
 | nx _ => exact True.intro
 | rt r_ =>
  have hs := after_rt hs
  intro g0 e2 hK
  cases hs
  exact hK
 | br s22 =>
  have hs := after_br hs
  rintro g0 a1 ⟨σ, b0, b1, b2, c2, rfl, hC, hO, h0, h1, a0, g1⟩
  refine c_sr ?_
  refine pl_val (.slice b0 b1 b2) (y_move rfl) ?_
  refine pl_val (.slice b0 b1 b2) (y_assign rfl) ?_
  refine c_nil ?_
  refine wp_ret ?_
  cases hs
  have hO := hO.fr1
  have hO := hO.drop
  exact ⟨_, b0, b1, b2, c2, fr_ovl 30 ⟨rfl, trivial⟩, hC, g1, hO.top⟩

theorem Ag76 : AggT Try.prog 76 false := fun _ => by kernel_rfl

theorem Bd90 : Bodied Try.prog 90 := bodied Try.func90 (by kernel_rfl) rfl

theorem Fa108x1 : ∀ (a : Addr) (w : World), (Instr.fieldAt 108 (.pointer (some a)) 1).run Try.prog w = .ok (.pointer (some (a.add 1))) w := fun _ _ => by kernel_rfl

theorem Bd91 : Bodied Try.prog 91 := bodied Try.func91 (by kernel_rfl) rfl

theorem Bd92 : Bodied Try.prog 92 := bodied Try.func92 (by kernel_rfl) rfl

def k_impl_free__element (M : Nat → Prop) (w0 : World) (r : Int × Bool) (a : Act) (w : World) : Prop :=
  ∃ (σ : Nat → Value) , a = fr 47 (ovl σ [(4, (.int .i64 r.1)), (5, (.bool r.2))]) ∧ Chg [] w0 w
def s_impl_free__element (t : List Int) (b0 : Int × (List (List Int))) (b1 : Int × (List (Int × (List Int))) × Int × (List (List Int)) × (List (ByteArray × Int))) : Option (Int × Bool) :=
  ((s_impl_isTerm (b1.1, b1.2.1) t).bind fun r12 =>
  (bif (!r12) then some true else (s_impl_hasValues t b0.1).bind fun r15 =>
  some (!r15))).bind fun s8 =>
  (bif s8 then some (0, false) else (s_impl_termTable (b1.1, b1.2.1) t b0.1).bind fun r19 =>
  (s_impl_keyOf r19).bind fun r22 =>
  some (((mget b1.2.2.2.2 r22).getD 0), true))
set_option maxHeartbeats 4000000 in
theorem c_impl_free__element {M : Nat → Prop} {w : World} {vg0 : Nat} {vg1 : Nat} {pa0 : Option Addr} {pn0 pc0 : Nat} {va0x2 : Option Addr} {vn0x2 vc0x2 : Nat} {va1x1 : Option Addr} {vn1x1 vc1x1 : Nat} {va1x3 : Option Addr} {vn1x3 vc1x3 : Nat} {vn1x4 : Nat} (t : List Int) (b0 : Int × (List (List Int))) (b1 : Int × (List (Int × (List Int))) × Int × (List (List Int)) × (List (ByteArray × Int))) (h0 : (RT.rs (RT.int .i64)).val M w (.slice pa0 pn0 pc0) t ([])) (hb0 : RBox M w vg0 108 [(.pointer (some ⟨vg1, 0, none⟩)), (.int .i64 b0.1), (.slice va0x2 vn0x2 vc0x2)]) (hl0x2 : (RT.rs (RT.rs (RT.int .i64))).val M w (.slice va0x2 vn0x2 vc0x2) b0.2 ([])) (hb1 : RBox M w vg1 81 [(.int .i64 b1.1), (.slice va1x1 vn1x1 vc1x1), (.int .i64 b1.2.2.1), (.slice va1x3 vn1x3 vc1x3), (.map (some vn1x4))]) (hl1x1 : (RT.rs (RT.pr (RT.int .i64) (RT.rs (RT.int .i64)))).val M w (.slice va1x1 vn1x1 vc1x1) b1.2.1 ([])) (hl1x3 : (RT.rs (RT.rs (RT.int .i64))).val M w (.slice va1x3 vn1x3 vc1x3) b1.2.2.2.1 ([])) (hl1x4 : (RT.mr (Value.int .i64)).val M w (.map (some vn1x4)) b1.2.2.2.2 ([])) (hM : ∀ g, w.heap.size ≤ g → M g) {r : Int × Bool} (hs : s_impl_free__element t b0 b1 = some r) :
    Gives Try.prog 49 [(.pointer (some ⟨vg0, 0, none⟩)), (.slice pa0 pn0 pc0)] w (fun v w' => v = (.tuple #[(.int .i64 r.1), (.bool r.2)]) ∧ Chg [] w w') := by
 refine calls_fr Try.func49 rfl Try.ntmps49 (Nat.le_of_ble_eq_true rfl) ?_
 have hO := Own.start (N := Nw w []) hM Nw.fut
 have hC := Chg.refl [] w
 unfold s_impl_free__element at hs
 refine wp_mono (Q := KPost (k_impl_free__element M w r)) ?_ (fun e a c3 h => ?_)
 rotate_left
 ·cases e
  case ret =>
   obtain ⟨σ, rfl, hrest⟩ := h
   exact ret2x Try.results49 (res_tmp rfl) (res_tmp rfl) ⟨rfl, hrest⟩
  all_goals exact (h : False).elim
 refine c_sr ?_
 refine pl_val (.int .i64 0) (y_assign rfl) ?_
 refine pl_val (.bool false) (y_assign rfl) ?_
 refine c_nil ?_
 refine c_seq ?_
 refine c_seq ?_
 obtain ⟨s8, b4, hs⟩ := bind_some hs
 refine c_mid (I := fun a a7 => ∃ (σ : Nat → Value), a = fr 47 (ovl σ [(0, (.pointer (some ⟨vg0, 0, none⟩))), (1, (.slice pa0 pn0 pc0)), (4, (.int .i64 0)), (5, (.bool false)), (24, (.bool s8))]) ∧ Chg [] w a7) ?_ ?_
 ·replace hs := b4
  have hMid := Chg.refl [] w
  refine c_region ?_
  refine pl_val (.pointer (some ⟨vg0, 0, none⟩)) (y_move rfl) ?_
  refine pl_val (.pointer (some ⟨vg0, 0, none⟩)) (y_nilc rfl) ?_
  refine pl_val (.pointer (some ⟨vg0, 0, none⟩)) (y_faddr rfl Fa108x0) ?_
  refine pl_val (.pointer (some ⟨vg1, 0, none⟩)) (y_load rfl ((box_load Ag76 Sz76 hb0.1 [] [(.pointer (some ⟨vg1, 0, none⟩))] [(.int .i64 b0.1), (.slice va0x2 vn0x2 vc0x2)] rfl rfl (fun _ => rfl)) _ (Chg.refl _ _))) ?_
  refine pl_val (.pointer (some ⟨vg1, 0, none⟩)) (y_nilc rfl) ?_
  refine pl_val (.pointer (some ⟨vg1, 0, none⟩)) (y_faddr rfl Fa81x0) ?_
  refine pl_val (.agg #[(.int .i64 b1.1), (.slice va1x1 vn1x1 vc1x1)]) (y_load rfl ((box_load Ag35 Sz35 hb1.1 [] [(.int .i64 b1.1), (.slice va1x1 vn1x1 vc1x1)] [(.int .i64 b1.2.2.1), (.slice va1x3 vn1x3 vc1x3), (.map (some vn1x4))] rfl rfl (fun h => nomatch h)) _ (Chg.refl _ _))) ?_
  refine pl_val (.slice pa0 pn0 pc0) (y_move rfl) ?_
  obtain ⟨r12, b5, hs⟩ := bind_some hs
  refine pl_call Bd90 rfl (c_impl_isTerm (M := M) (b1.1, b1.2.1) t hl1x1 h0 hO.fut b5) ?_
  rintro _ c4 ⟨rfl, a3⟩
  have h0 := h0.ext a3
  have hl0x2 := hl0x2.ext a3
  have hb0 := hb0.ext a3
  have hl1x1 := hl1x1.ext a3
  have hl1x3 := hl1x3.ext a3
  have hl1x4 := hl1x4.ext a3
  have hb1 := hb1.ext a3
  have hMid := hMid.ext a3
  have hC := hC.ext a3
  have hO := hO.ext a3
  refine pl_val (.bool (!r12)) (y_not rfl) ?_
  refine pl_val (.bool (!r12)) (y_move rfl) ?_
  rcases bif_some hs with ⟨a0, hs⟩ | ⟨a0, hs⟩
  ·skip
   refine pl_not (tg := 16) (by kernel_rfl) (congrArg Value.bool a0) ?_
   refine pl_not (tg := 16) (by kernel_rfl) (congrArg Value.bool a0) ?_
   refine pl_not (tg := 16) (by kernel_rfl) (congrArg Value.bool a0) ?_
   refine pl_not (tg := 16) (by kernel_rfl) (congrArg Value.bool a0) ?_
   refine pl_not (tg := 16) (by kernel_rfl) (congrArg Value.bool a0) ?_
   refine pl_not (tg := 16) (by kernel_rfl) (congrArg Value.bool a0) ?_
   refine pl_not (tg := 16) (by kernel_rfl) (congrArg Value.bool a0) ?_
   refine pl_val (.bool true) (y_pick_t (congrArg Value.bool a0) rfl) ?_
   refine c_nil ?_
   cases hs
   exact ⟨_, fr_ovl 47 ⟨rfl, rfl, rfl, rfl, rfl, trivial⟩, hMid⟩
  refine pl_yes (.slice pa0 pn0 pc0) (tg := 16) (by kernel_rfl) (congrArg Value.bool a0) (y_move rfl) ?_
  refine pl_yes (.pointer (some ⟨vg0, 0, none⟩)) (tg := 16) (by kernel_rfl) (congrArg Value.bool a0) (y_move rfl) ?_
  refine pl_yes (.pointer (some ⟨vg0, 0, none⟩)) (tg := 16) (by kernel_rfl) (congrArg Value.bool a0) (y_nilc rfl) ?_
  refine pl_yes (.pointer (some ⟨vg0, 1, none⟩)) (tg := 16) (by kernel_rfl) (congrArg Value.bool a0) (y_faddr rfl Fa108x1) ?_
  refine pl_yes (.int .i64 b0.1) (tg := 16) (by kernel_rfl) (congrArg Value.bool a0) (y_load rfl ((box_load Ag3 Sz3 hb0.1 [(.pointer (some ⟨vg1, 0, none⟩))] [(.int .i64 b0.1)] [(.slice va0x2 vn0x2 vc0x2)] rfl rfl (fun _ => rfl)) _ (Chg.refl _ _))) ?_
  obtain ⟨r15, b6, hs⟩ := bind_some hs
  refine pl_cally (tg := 16) (by kernel_rfl) (congrArg Value.bool a0) Bd91 rfl (c_impl_hasValues (M := M) t b0.1 h0 hO.fut b6) ?_
  rintro _ c5 ⟨rfl, a4⟩
  have h0 := h0.ext a4
  have hl0x2 := hl0x2.ext a4
  have hb0 := hb0.ext a4
  have hl1x1 := hl1x1.ext a4
  have hl1x3 := hl1x3.ext a4
  have hl1x4 := hl1x4.ext a4
  have hb1 := hb1.ext a4
  have hMid := hMid.ext a4
  have hC := hC.ext a4
  have hO := hO.ext a4
  refine pl_yes (.bool (!r15)) (tg := 16) (by kernel_rfl) (congrArg Value.bool a0) (y_not rfl) ?_
  refine pl_val (.bool (!r15)) (y_pick_f (congrArg Value.bool a0) rfl) ?_
  refine c_nil ?_
  cases hs
  exact ⟨_, fr_ovl 47 ⟨rfl, rfl, rfl, rfl, rfl, trivial⟩, hMid⟩
 rintro c6 a7 ⟨σ, rfl, a6⟩
 have h0 := h0.ext a6
 have hl0x2 := hl0x2.ext a6
 have hb0 := hb0.ext a6
 have hl1x1 := hl1x1.ext a6
 have hl1x3 := hl1x3.ext a6
 have hl1x4 := hl1x4.ext a6
 have hb1 := hb1.ext a6
 have hC := hC.ext a6
 have hO := hO.ext a6
 rcases bif_some hs with ⟨a9, hs⟩ | ⟨a9, hs⟩
 ·refine c_condT (congrArg Value.bool a9) ?_
  refine c_sr ?_
  refine pl_val (.int .i64 0) (y_assign rfl) ?_
  refine pl_val (.bool false) (y_assign rfl) ?_
  refine c_nil ?_
  refine wp_ret ?_
  cases hs
  exact ⟨_, fr_ovl 47 ⟨rfl, rfl, trivial⟩, hC⟩
 refine c_condF (congrArg Value.bool a9) ?_
 refine wp_skip ?_
 refine c_seq ?_
 refine x_start [] Mx rfl ?_
 have a5 := Chg.drew a7
 generalize World.drew a7 = b7 at a5 ⊢
 have h0 := h0.ext a5
 have hl0x2 := hl0x2.ext a5
 have hb0 := hb0.ext a5
 have hl1x1 := hl1x1.ext a5
 have hl1x3 := hl1x3.ext a5
 have hl1x4 := hl1x4.ext a5
 have hb1 := hb1.ext a5
 have hC := hC.ext a5
 have hO := hO.ext a5
 have hS := Chg.refl [] b7
 refine x_p 0 (.pointer (some ⟨vg0, 0, none⟩)) rfl (by kernel_rfl)  (fun _ => y_move rfl) (fun _ => hS) ?_
 refine x_p 1 (.pointer (some ⟨vg0, 0, none⟩)) rfl (by kernel_rfl)  (fun _ => y_nilc rfl) (fun _ => hS) ?_
 refine x_p 2 (.pointer (some ⟨vg0, 0, none⟩)) rfl (by kernel_rfl)  (fun _ => y_faddr rfl Fa108x0) (fun _ => hS) ?_
 refine x_l 3 (.pointer (some ⟨vg1, 0, none⟩)) rfl (by kernel_rfl)  (fun w' hw' => y_load rfl ((box_load Ag76 Sz76 hb0.1 [] [(.pointer (some ⟨vg1, 0, none⟩))] [(.int .i64 b0.1), (.slice va0x2 vn0x2 vc0x2)] rfl rfl (fun _ => rfl)) w' hw')) hS ?_
 refine x_p 4 (.pointer (some ⟨vg1, 0, none⟩)) rfl (by kernel_rfl)  (fun _ => y_nilc rfl) (fun _ => hS) ?_
 refine x_p 5 (.pointer (some ⟨vg1, 4, none⟩)) rfl (by kernel_rfl)  (fun _ => y_faddr rfl Fa81x3) (fun _ => hS) ?_
 refine x_l 6 (.map (some vn1x4)) rfl (by kernel_rfl)  (fun w' hw' => y_load rfl ((box_load Ag79 Sz79 hb1.1 [(.int .i64 b1.1), (.slice va1x1 vn1x1 vc1x1), (.int .i64 b1.2.2.1), (.slice va1x3 vn1x3 vc1x3)] [(.map (some vn1x4))] [] rfl rfl (fun _ => rfl)) w' hw')) hS ?_
 refine x_p 7 (.pointer (some ⟨vg0, 0, none⟩)) rfl (by kernel_rfl)  (fun _ => y_move rfl) (fun _ => hS) ?_
 refine x_p 8 (.pointer (some ⟨vg0, 0, none⟩)) rfl (by kernel_rfl)  (fun _ => y_nilc rfl) (fun _ => hS) ?_
 refine x_p 9 (.pointer (some ⟨vg0, 0, none⟩)) rfl (by kernel_rfl)  (fun _ => y_faddr rfl Fa108x0) (fun _ => hS) ?_
 refine x_l 10 (.pointer (some ⟨vg1, 0, none⟩)) rfl (by kernel_rfl)  (fun w' hw' => y_load rfl ((box_load Ag76 Sz76 hb0.1 [] [(.pointer (some ⟨vg1, 0, none⟩))] [(.int .i64 b0.1), (.slice va0x2 vn0x2 vc0x2)] rfl rfl (fun _ => rfl)) w' hw')) hS ?_
 refine x_p 11 (.pointer (some ⟨vg1, 0, none⟩)) rfl (by kernel_rfl)  (fun _ => y_nilc rfl) (fun _ => hS) ?_
 refine x_p 12 (.pointer (some ⟨vg1, 0, none⟩)) rfl (by kernel_rfl)  (fun _ => y_faddr rfl Fa81x0) (fun _ => hS) ?_
 refine x_l 13 (.agg #[(.int .i64 b1.1), (.slice va1x1 vn1x1 vc1x1)]) rfl (by kernel_rfl)  (fun w' hw' => y_load rfl ((box_load Ag35 Sz35 hb1.1 [] [(.int .i64 b1.1), (.slice va1x1 vn1x1 vc1x1)] [(.int .i64 b1.2.2.1), (.slice va1x3 vn1x3 vc1x3), (.map (some vn1x4))] rfl rfl (fun h => nomatch h)) w' hw')) hS ?_
 refine x_p 14 (.slice pa0 pn0 pc0) rfl (by kernel_rfl)  (fun _ => y_move rfl) (fun _ => hS) ?_
 refine x_p 15 (.pointer (some ⟨vg0, 0, none⟩)) rfl (by kernel_rfl)  (fun _ => y_move rfl) (fun _ => hS) ?_
 refine x_p 16 (.pointer (some ⟨vg0, 0, none⟩)) rfl (by kernel_rfl)  (fun _ => y_nilc rfl) (fun _ => hS) ?_
 refine x_p 17 (.pointer (some ⟨vg0, 1, none⟩)) rfl (by kernel_rfl)  (fun _ => y_faddr rfl Fa108x1) (fun _ => hS) ?_
 refine x_l 18 (.int .i64 b0.1) rfl (by kernel_rfl)  (fun w' hw' => y_load rfl ((box_load Ag3 Sz3 hb0.1 [(.pointer (some ⟨vg1, 0, none⟩))] [(.int .i64 b0.1)] [(.slice va0x2 vn0x2 vc0x2)] rfl rfl (fun _ => rfl)) w' hw')) hS ?_
 refine x_one (i := 19) (by kernel_rfl) ?_
 obtain ⟨r19, b8, hs⟩ := bind_some hs
 refine xk_call (b := false) rfl  Bd92 rfl (c_impl_termTable (M := M) (b1.1, b1.2.1) t b0.1 hl1x1 h0 hO.fut b8) rfl (by rintro _ _ _ ⟨b9, c0, c1, b2, rfl, a2, a8, b3⟩; exact hS.ext a2) ?_
 rintro _ c7 ⟨b9, c0, c1, b2, rfl, a2, a8, b3⟩
 have h0 := h0.ext a2
 have hl0x2 := hl0x2.ext a2
 have hb0 := hb0.ext a2
 have hl1x1 := hl1x1.ext a2
 have hl1x3 := hl1x3.ext a2
 have hl1x4 := hl1x4.ext a2
 have hb1 := hb1.ext a2
 have hC := hC.ext a2
 have hO := Own.join0 hO a2 b3
 have hO := hO.perm (R := b2 ++ ([])) (by simp)
 have hS := hS.ext a2
 refine x_one (i := 20) (by kernel_rfl) ?_
 obtain ⟨r22, c2, hs⟩ := bind_some hs
 refine xk_call (b := false) rfl  Bd59 rfl (c_impl_keyOf (M := (Less M b2)) r19 (((Frz.os Frz.int)).val a8 Less.sub Less.not) hO.less.fut c2) rfl (by rintro _ _ _ ⟨rfl, a1⟩; exact hS.ext a1) ?_
 rintro _ c8 ⟨rfl, a1⟩
 have h0 := h0.ext a1
 have hl0x2 := hl0x2.ext a1
 have hb0 := hb0.ext a1
 have hl1x1 := hl1x1.ext a1
 have hl1x3 := hl1x3.ext a1
 have hl1x4 := hl1x4.ext a1
 have hb1 := hb1.ext a1
 have a8 := a8.ext a1
 have hC := hC.ext a1
 have hO := hO.ext a1
 have hS := hS.ext a1
 refine x_one (i := 21) (by kernel_rfl) ?_
 refine xk_val (b := false) (.int .i64 ((mget b1.2.2.2.2 r22).getD 0)) rfl  (y_look (enc := (Value.int .i64)) Try.underlying79 Try.underlying9 Zv3 (mr_at hl1x4) rfl rfl) rfl (fun _ => hS) ?_
 refine x_p 22 (.int .i64 ((mget b1.2.2.2.2 r22).getD 0)) rfl (by kernel_rfl)  (fun _ => y_assign rfl) (fun _ => hS) ?_
 refine x_p 23 (.bool true) rfl (by kernel_rfl)  (fun _ => y_assign rfl) (fun _ => hS) ?_
 refine x_end (by kernel_rfl) ?_
 clear hS
 refine wp_ret ?_
 cases hs
 exact ⟨_, fr_ovl 47 ⟨rfl, rfl, trivial⟩, hC⟩

theorem Bd48 : Bodied Try.prog 48 := bodied Try.func48 (by kernel_rfl) rfl

theorem Bd49 : Bodied Try.prog 49 := bodied Try.func49 (by kernel_rfl) rfl

def k_impl_AreEqualTerms (M : Nat → Prop) (w0 : World) (r : Bool × Bool) (a : Act) (w : World) : Prop :=
  ∃ (σ : Nat → Value) , a = fr 45 (ovl σ [(8, (.bool r.1)), (9, (.bool r.2))]) ∧ Chg [] w0 w
def s_impl_AreEqualTerms (a_ : Int × (List (Int × (List Int)))) (k : Int) (s_ : List Int) (t : List Int) : Option (Bool × Bool) :=
  (s_impl_freeOf (a_.1, a_.2) k).bind fun r6 =>
  (bif (!r6.2) then some (false, false) else (r6.1).bind fun p10 =>
  (s_impl_free__element s_ (p10.2.1, p10.2.2) (p10.1.1.1, p10.1.1.2, p10.1.2.1, p10.1.2.2.1, p10.1.2.2.2)).bind fun r18 =>
  (s_impl_free__element t (p10.2.1, p10.2.2) (p10.1.1.1, p10.1.1.2, p10.1.2.1, p10.1.2.2.1, p10.1.2.2.2)).bind fun r20 =>
  (bif ((!r18.2) || (!r20.2)) then some (false, false) else some ((r18.1 == r20.1), true)))
set_option maxHeartbeats 4000000 in
theorem c_impl_AreEqualTerms {M : Nat → Prop} {w : World} {pa0 : Option Addr} {pn0 pc0 : Nat} {pa1 : Option Addr} {pn1 pc1 : Nat} {pa2 : Option Addr} {pn2 pc2 : Nat} (a_ : Int × (List (Int × (List Int)))) (k : Int) (s_ : List Int) (t : List Int) (h0 : (RT.rs (RT.pr (RT.int .i64) (RT.rs (RT.int .i64)))).val M w (.slice pa0 pn0 pc0) a_.2 ([])) (h1 : (RT.rs (RT.int .i64)).val M w (.slice pa1 pn1 pc1) s_ ([])) (h2 : (RT.rs (RT.int .i64)).val M w (.slice pa2 pn2 pc2) t ([])) (hM : ∀ g, w.heap.size ≤ g → M g) {r : Bool × Bool} (hs : s_impl_AreEqualTerms a_ k s_ t = some r) :
    Gives Try.prog 24 [(.agg #[(.int .i64 a_.1), (.slice pa0 pn0 pc0)]), (.int .i64 k), (.slice pa1 pn1 pc1), (.slice pa2 pn2 pc2)] w (fun v w' => v = (.tuple #[(.bool r.1), (.bool r.2)]) ∧ Chg [] w w') := by
 refine calls_fr Try.func24 rfl Try.ntmps24 (Nat.le_of_ble_eq_true rfl) ?_
 have hO := Own.start (N := Nw w []) hM Nw.fut
 have hC := Chg.refl [] w
 unfold s_impl_AreEqualTerms at hs
 refine wp_mono (Q := KPost (k_impl_AreEqualTerms M w r)) ?_ (fun e a g2 h => ?_)
 rotate_left
 ·cases e
  case ret =>
   obtain ⟨σ, rfl, hrest⟩ := h
   exact ret2x Try.results24 (res_tmp rfl) (res_tmp rfl) ⟨rfl, hrest⟩
  all_goals exact (h : False).elim
 refine c_sr ?_
 obtain ⟨a3, b3, d7, d4, c0, a8⟩ := new_block w [(.int .i64 a_.1), (.slice pa0 pn0 pc0)] 35
 refine pl_val (w' := a3) (.pointer (some ⟨b3, 0, none⟩)) (y_box rfl (by rw [d7, d4]; kernel_rfl)) ?_
 have h0 := h0.ext c0
 have h1 := h1.ext c0
 have h2 := h2.ext c0
 have hC := hC.ext c0
 have hO := hO.new1 c0 d4 a8.lt
 refine pl_val (.bool false) (y_assign rfl) ?_
 refine pl_val (.bool false) (y_assign rfl) ?_
 refine c_nil ?_
 refine c_sr ?_
 refine pl_val (.agg #[(.int .i64 a_.1), (.slice pa0 pn0 pc0)]) (y_load rfl ((box_load Ag35 Sz35 a8 [] [(.int .i64 a_.1), (.slice pa0 pn0 pc0)] [] rfl rfl (fun h => nomatch h)) _ (Chg.refl _ _))) ?_
 refine pl_val (.int .i64 k) (y_move rfl) ?_
 obtain ⟨r6, d8, hs⟩ := bind_some hs
 refine pl_call Bd48 rfl (c_impl_freeOf (M := M) (a_.1, a_.2) k h0 hO.fut d8) ?_
 rintro _ a2 ⟨c1, a4, rfl, b7, d9, e0⟩
 have hO := hO.perm (R := [] ++ (([b3]) ++ ([]))) (by simp)
 have e1 := Own.pastL hO b7 e0
 have hK := (show Keeps w M (PastL M [] a3 a2 (a4 ++ ([]))) from Keeps.pastL hC.size (fun g hg => (hO.inN g hg).resolve_left (fun h => nomatch h)))
 have h0 := h0.ext b7
 have h1 := h1.ext b7
 have h2 := h2.ext b7
 have a8 := a8.cn b7
 have hC := hC.ext b7
 have hO := e1
 have h0 := h0.sub (M' := (PastL M [] a3 a2 (a4 ++ ([])))) (fun g hg => .inl hg.1)
 have h1 := h1.sub (M' := (PastL M [] a3 a2 (a4 ++ ([])))) (fun g hg => .inl hg.1)
 have h2 := h2.sub (M' := (PastL M [] a3 a2 (a4 ++ ([])))) (fun g hg => .inl hg.1)
 have hO := hO.perm (R := a4 ++ (([b3]) ++ ([]))) (by simp)
 refine pl_val (.tuple #[c1, (.bool r6.2)]) (y_move rfl) ?_
 refine pl_val c1 (y_extract rfl (by kernel_rfl)) ?_
 refine pl_val (.bool r6.2) (y_extract rfl (by kernel_rfl)) ?_
 refine pl_val c1 (y_assign rfl) ?_
 refine pl_val (.bool r6.2) (y_assign rfl) ?_
 refine c_nil ?_
 refine c_seq ?_
 refine c_sr ?_
 refine pl_val (.bool r6.2) (y_move rfl) ?_
 refine pl_val (.bool (!r6.2)) (y_not rfl) ?_
 refine c_nil ?_
 rcases bif_some hs with ⟨c2, hs⟩ | ⟨c2, hs⟩
 ·refine c_condT (congrArg Value.bool c2) ?_
  refine c_sr ?_
  refine pl_val (.bool false) (y_assign rfl) ?_
  refine pl_val (.bool false) (y_assign rfl) ?_
  refine c_nil ?_
  refine wp_ret ?_
  cases hs
  exact ⟨_, fr_ovl 45 ⟨rfl, rfl, trivial⟩, hC⟩
 refine c_condF (congrArg Value.bool c2) ?_
 refine wp_skip ?_
 refine c_sr ?_
 refine pl_val c1 (y_move rfl) ?_
 refine pl_val (.slice pa1 pn1 pc1) (y_move rfl) ?_
 obtain ⟨p10, e2, hs⟩ := bind_some hs
 obtain ⟨a1, rfl, e3⟩ := op_get d9 e2
 obtain ⟨g3, g4, e4, a9, e5⟩ := po_open e3
 obtain ⟨g5, g6, g7, g8, rfl, rfl, e6, e7⟩ := e5
 obtain ⟨a0, rfl, e8⟩ := po_rel e6
 obtain ⟨g9, h3, rfl, b0, e9⟩ := po_open e8
 obtain ⟨h4, h5, h6, h7, rfl, rfl, f0, f1⟩ := e9
 obtain ⟨h8, h9, i0, i1, rfl, rfl, f2, f3⟩ := f0
 obtain ⟨rfl, rfl⟩ := f2
 obtain ⟨c3, c4, c5, rfl, rfl, b8⟩ := rs_rel' f3
 obtain ⟨i2, i3, i4, i5, rfl, rfl, f4, f5⟩ := f1
 obtain ⟨rfl, rfl⟩ := f4
 obtain ⟨i6, i7, a5, a6, rfl, rfl, f6, f7⟩ := f5
 obtain ⟨c6, c7, c8, rfl, b4⟩ := os_rel' f6
 obtain ⟨c9, rfl, b5⟩ := mo_rel' f7
 have b0 : BoxV a2 a0 81 [(.int .i64 p10.1.1.1), (.slice c3 c4 c5), (.int .i64 p10.1.2.1), (.slice c6 c7 c8), (.map (some c9))] := b0
 obtain ⟨i9, j0, j1, j2, rfl, rfl, f8, f9⟩ := e7
 obtain ⟨rfl, rfl⟩ := f8
 obtain ⟨d0, d1, d2, rfl, rfl, b9⟩ := rs_rel' f9
 have a9 : BoxV a2 a1 108 [(.pointer (some ⟨a0, 0, none⟩)), (.int .i64 p10.2.1), (.slice d0 d1 d2)] := a9
 have hO := hO.perm (R := ([a1]) ++ (([a0]) ++ (a5 ++ (a6 ++ (([b3]) ++ ([])))))) (by rw [e4]; simp)
 have hO := hO.fr3
 have hO := hO.fr3
 have hO := hO.fr3
 have hO := hO.fr3
 obtain ⟨r18, g0, hs⟩ := bind_some hs
 refine pl_call Bd49 rfl (c_impl_free__element (M := (Less (Less (Less (Less (PastL M [] a3 a2 (a4 ++ ([]))) ([a1])) ([a0])) a5) a6)) s_ (p10.2.1, p10.2.2) (p10.1.1.1, p10.1.1.2, p10.1.2.1, p10.1.2.2.1, p10.1.2.2.2) ((((h1.sub Less.sub).sub Less.sub).sub Less.sub).sub Less.sub) (show RBox (Less (Less (Less (Less (PastL M [] a3 a2 (a4 ++ ([]))) ([a1])) ([a0])) a5) a6) _ a1 108 [(.pointer (some ⟨a0, 0, none⟩)), (.int .i64 p10.2.1), (.slice d0 d1 d2)] from ⟨a9, fun h => by simp [Less] at h⟩) ((((b9.sub Less.sub).sub Less.sub).sub Less.sub).sub Less.sub) (show RBox (Less (Less (Less (Less (PastL M [] a3 a2 (a4 ++ ([]))) ([a1])) ([a0])) a5) a6) _ a0 81 [(.int .i64 p10.1.1.1), (.slice c3 c4 c5), (.int .i64 p10.1.2.1), (.slice c6 c7 c8), (.map (some c9))] from ⟨b0, fun h => by simp [Less] at h⟩) ((((b8.sub Less.sub).sub Less.sub).sub Less.sub).sub Less.sub) ((((Frz.os (Frz.rs Frz.int))).val ((b4.sub Less.sub).sub Less.sub) Less.sub Less.not).sub Less.sub) ((Frz.mo).val (((b5.sub Less.sub).sub Less.sub).sub Less.sub) Less.sub Less.not) (((hO.less).less).less).less.fut g0) ?_
 rintro _ j3 ⟨rfl, a7⟩
 have hO := hO.fr3
 have hO := hO.fr3
 have hO := hO.fr3
 have hO := hO.fr3
 have hO := hO.perm (R := [] ++ (([a1]) ++ (([a0]) ++ (a5 ++ (a6 ++ (([b3]) ++ ([]))))))) (by simp)
 have h1 := h1.ext a7
 have h2 := h2.ext a7
 have a8 := a8.cn a7
 have b8 := b8.ext a7
 have b4 := b4.ext a7
 have b5 := b5.ext a7
 have b0 := b0.cn a7
 have b9 := b9.ext a7
 have a9 := a9.cn a7
 have hC := hC.ext a7
 have hO := hO.ext a7
 have hO := hO.perm (R := ([a1]) ++ (([a0]) ++ (a5 ++ (a6 ++ (([b3]) ++ ([])))))) (by simp)
 refine pl_val (.tuple #[(.int .i64 r18.1), (.bool r18.2)]) (y_move rfl) ?_
 refine pl_val (.int .i64 r18.1) (y_extract rfl (by kernel_rfl)) ?_
 refine pl_val (.bool r18.2) (y_extract rfl (by kernel_rfl)) ?_
 refine pl_val (.int .i64 r18.1) (y_assign rfl) ?_
 refine pl_val (.bool r18.2) (y_assign rfl) ?_
 refine c_nil ?_
 refine c_sr ?_
 refine pl_val (.pointer (some ⟨a1, 0, none⟩)) (y_move rfl) ?_
 refine pl_val (.slice pa2 pn2 pc2) (y_move rfl) ?_
 have hO := hO.fr3
 have hO := hO.fr3
 have hO := hO.fr3
 have hO := hO.fr3
 obtain ⟨r20, g1, hs⟩ := bind_some hs
 refine pl_call Bd49 rfl (c_impl_free__element (M := (Less (Less (Less (Less (PastL M [] a3 a2 (a4 ++ ([]))) ([a1])) ([a0])) a5) a6)) t (p10.2.1, p10.2.2) (p10.1.1.1, p10.1.1.2, p10.1.2.1, p10.1.2.2.1, p10.1.2.2.2) ((((h2.sub Less.sub).sub Less.sub).sub Less.sub).sub Less.sub) (show RBox (Less (Less (Less (Less (PastL M [] a3 a2 (a4 ++ ([]))) ([a1])) ([a0])) a5) a6) _ a1 108 [(.pointer (some ⟨a0, 0, none⟩)), (.int .i64 p10.2.1), (.slice d0 d1 d2)] from ⟨a9, fun h => by simp [Less] at h⟩) ((((b9.sub Less.sub).sub Less.sub).sub Less.sub).sub Less.sub) (show RBox (Less (Less (Less (Less (PastL M [] a3 a2 (a4 ++ ([]))) ([a1])) ([a0])) a5) a6) _ a0 81 [(.int .i64 p10.1.1.1), (.slice c3 c4 c5), (.int .i64 p10.1.2.1), (.slice c6 c7 c8), (.map (some c9))] from ⟨b0, fun h => by simp [Less] at h⟩) ((((b8.sub Less.sub).sub Less.sub).sub Less.sub).sub Less.sub) ((((Frz.os (Frz.rs Frz.int))).val ((b4.sub Less.sub).sub Less.sub) Less.sub Less.not).sub Less.sub) ((Frz.mo).val (((b5.sub Less.sub).sub Less.sub).sub Less.sub) Less.sub Less.not) (((hO.less).less).less).less.fut g1) ?_
 rintro _ d5 ⟨rfl, b1⟩
 have hO := hO.fr3
 have hO := hO.fr3
 have hO := hO.fr3
 have hO := hO.fr3
 have hO := hO.perm (R := [] ++ (([a1]) ++ (([a0]) ++ (a5 ++ (a6 ++ (([b3]) ++ ([]))))))) (by simp)
 have h2 := h2.ext b1
 have a8 := a8.cn b1
 have b8 := b8.ext b1
 have b4 := b4.ext b1
 have b5 := b5.ext b1
 have b0 := b0.cn b1
 have b9 := b9.ext b1
 have a9 := a9.cn b1
 have hC := hC.ext b1
 have hO := hO.ext b1
 have hO := hO.perm (R := ([a1]) ++ (([a0]) ++ (a5 ++ (a6 ++ (([b3]) ++ ([])))))) (by simp)
 refine pl_val (.tuple #[(.int .i64 r20.1), (.bool r20.2)]) (y_move rfl) ?_
 refine pl_val (.int .i64 r20.1) (y_extract rfl (by kernel_rfl)) ?_
 refine pl_val (.bool r20.2) (y_extract rfl (by kernel_rfl)) ?_
 refine pl_val (.int .i64 r20.1) (y_assign rfl) ?_
 refine pl_val (.bool r20.2) (y_assign rfl) ?_
 refine c_nil ?_
 refine c_seq ?_
 refine c_seq ?_
 refine c_mid (I := fun a d6 => ∃ (σ : Nat → Value), a = fr 45 (ovl σ [(8, (.bool false)), (9, (.bool false)), (12, (.int .i64 r18.1)), (14, (.int .i64 r20.1)), (41, (.bool ((!r18.2) || (!r20.2))))]) ∧ Chg [] d5 d6) ?_ ?_
 ·have hMid := Chg.refl [] d5
  refine c_region ?_
  refine pl_val (.bool r18.2) (y_move rfl) ?_
  refine pl_val (.bool (!r18.2)) (y_not rfl) ?_
  refine pl_val (.bool (!r18.2)) (y_move rfl) ?_
  rcases Bool.eq_false_or_eq_true ((!r18.2)) with b2 | b2
  ·skip
   refine pl_not (tg := 38) (by kernel_rfl) (congrArg Value.bool b2) ?_
   refine pl_not (tg := 38) (by kernel_rfl) (congrArg Value.bool b2) ?_
   refine pl_val (.bool ((!r18.2) || (!r20.2))) (y_pick_t (congrArg Value.bool b2) (congrArg Value.bool (by rw [b2]; rfl))) ?_
   refine c_nil ?_
   exact ⟨_, fr_ovl 45 ⟨rfl, rfl, rfl, rfl, rfl, trivial⟩, hMid⟩
  refine pl_yes (.bool r20.2) (tg := 38) (by kernel_rfl) (congrArg Value.bool b2) (y_move rfl) ?_
  refine pl_yes (.bool (!r20.2)) (tg := 38) (by kernel_rfl) (congrArg Value.bool b2) (y_not rfl) ?_
  refine pl_val (.bool ((!r18.2) || (!r20.2))) (y_pick_f (congrArg Value.bool b2) (congrArg Value.bool (by rw [b2]; rfl))) ?_
  refine c_nil ?_
  exact ⟨_, fr_ovl 45 ⟨rfl, rfl, rfl, rfl, rfl, trivial⟩, hMid⟩
 rintro j4 d6 ⟨σ, rfl, b6⟩
 have a8 := a8.cn b6
 have b4 := b4.ext b6
 have b5 := b5.ext b6
 have b0 := b0.cn b6
 have a9 := a9.cn b6
 have hC := hC.ext b6
 have hO := hO.ext b6
 rcases bif_some hs with ⟨d3, hs⟩ | ⟨d3, hs⟩
 ·refine c_condT (congrArg Value.bool d3) ?_
  refine c_sr ?_
  refine pl_val (.bool false) (y_assign rfl) ?_
  refine pl_val (.bool false) (y_assign rfl) ?_
  refine c_nil ?_
  refine wp_ret ?_
  cases hs
  exact ⟨_, fr_ovl 45 ⟨rfl, rfl, trivial⟩, hC⟩
 refine c_condF (congrArg Value.bool d3) ?_
 refine wp_skip ?_
 refine c_sr ?_
 refine pl_val (.int .i64 r18.1) (y_move rfl) ?_
 refine pl_val (.int .i64 r20.1) (y_move rfl) ?_
 refine pl_val (.bool (r18.1 == r20.1)) (y_eql rfl rfl) ?_
 refine pl_val (.bool (r18.1 == r20.1)) (y_assign rfl) ?_
 refine pl_val (.bool true) (y_assign rfl) ?_
 refine c_nil ?_
 refine wp_ret ?_
 cases hs
 exact ⟨_, fr_ovl 45 ⟨rfl, rfl, trivial⟩, hC⟩

def k_laws_eqIntS (M : Nat → Prop) (w0 : World) (r : Bool) (a : Act) (w : World) : Prop :=
  ∃ (σ : Nat → Value) , a = fr 26 (ovl σ [(4, (.bool r))]) ∧ Chg [] w0 w
def s_laws_eqIntS (a_ : List Int) (b : List Int) : Option (Bool) :=
  (bif ((a_.length : Int) != (b.length : Int)) then some false else (forC (S := Unit) (R := Bool) (fun k12 s10 =>
  (idx a_ k12).bind fun x17 =>
  (idx b k12).bind fun x19 =>
  (bif (x17 != x19) then some (.rt false) else some (.nx ()))) 0 (a_.length : Int) ()).bind fun o14 => after o14 (fun r_ => some r_) (fun s10 =>
  some true))
set_option maxHeartbeats 4000000 in
theorem c_laws_eqIntS {M : Nat → Prop} {w : World} {pa0 : Option Addr} {pn0 pc0 : Nat} {pa1 : Option Addr} {pn1 pc1 : Nat} (a_ : List Int) (b : List Int) (h0 : (RT.rs (RT.int .i64)).val M w (.slice pa0 pn0 pc0) a_ ([])) (h1 : (RT.rs (RT.int .i64)).val M w (.slice pa1 pn1 pc1) b ([])) (hM : ∀ g, w.heap.size ≤ g → M g) {r : Bool} (hs : s_laws_eqIntS a_ b = some r) :
    Gives Try.prog 22 [(.slice pa0 pn0 pc0), (.slice pa1 pn1 pc1)] w (fun v w' => v = (.bool r) ∧ Chg [] w w') := by
 refine calls_fr Try.func22 rfl Try.ntmps22 (Nat.le_of_ble_eq_true rfl) ?_
 have hO := Own.start (N := Nw w []) hM Nw.fut
 have hC := Chg.refl [] w
 unfold s_laws_eqIntS at hs
 refine wp_mono (Q := KPost (k_laws_eqIntS M w r)) ?_ (fun e a a4 h => ?_)
 rotate_left
 ·cases e
  case ret =>
   obtain ⟨σ, rfl, hrest⟩ := h
   exact ret1x Try.results22 (res_tmp rfl) ⟨rfl, hrest⟩
  all_goals exact (h : False).elim
 refine c_sr ?_
 refine pl_val (.bool false) (y_assign rfl) ?_
 refine c_nil ?_
 refine c_seq ?_
 refine c_sr ?_
 refine pl_val (.slice pa0 pn0 pc0) (y_move rfl) ?_
 refine pl_val (.int .i64 (a_.length : Int)) (y_len' Sl43 (rs_len h0) rfl) ?_
 refine pl_val (.slice pa1 pn1 pc1) (y_move rfl) ?_
 refine pl_val (.int .i64 (b.length : Int)) (y_len' Sl43 (rs_len h1) rfl) ?_
 refine pl_val (.bool ((a_.length : Int) != (b.length : Int))) (y_neq rfl rfl) ?_
 refine c_nil ?_
 rcases bif_some hs with ⟨a2, hs⟩ | ⟨a2, hs⟩
 ·refine c_condT (congrArg Value.bool a2) ?_
  refine c_sr ?_
  refine pl_val (.bool false) (y_assign rfl) ?_
  refine c_nil ?_
  refine wp_ret ?_
  cases hs
  exact ⟨_, fr_ovl 26 ⟨rfl, trivial⟩, hC⟩
 refine c_condF (congrArg Value.bool a2) ?_
 refine wp_skip ?_
 refine c_seq ?_
 refine c_sr ?_
 refine pl_val (.int .i64 0) (y_assign rfl) ?_
 refine c_nil ?_
 obtain ⟨o14, a5, hs⟩ := bind_some hs
 refine wp_block ?_
 refine wp_forC (id := 0) (a_.length : Int) (I := fun k12 s10 a a0 => ∃ (σ : Nat → Value), a = fr 26 (ovl σ [(0, (.slice pa0 pn0 pc0)), (1, (.slice pa1 pn1 pc1)), (5, (.int .i64 k12))]) ∧ Chg [] w a0 ∧ Own (Nw w []) M a0 ([]) ∧ (RT.rs (RT.int .i64)).val M a0 (.slice pa0 pn0 pc0) a_ ([]) ∧ (RT.rs (RT.int .i64)).val M a0 (.slice pa1 pn1 pc1) b ([])) (J := fun s10 a a0 => ∃ (σ : Nat → Value), a = fr 26 (ovl σ []) ∧ Chg [] w a0 ∧ Own (Nw w []) M a0 ([]) ∧ (RT.rs (RT.int .i64)).val M a0 (.slice pa0 pn0 pc0) a_ ([]) ∧ (RT.rs (RT.int .i64)).val M a0 (.slice pa1 pn1 pc1) b ([])) (K := (k_laws_eqIntS M w)) ?_ ?_ 0 () o14 _ _ ?_ a5 ?_
 ·rintro k12 s10 a a0 ⟨σ, rfl, hC, hO, h0, h1⟩ hlt
  refine c_seq ?_
  refine c_sr ?_
  refine pl_val (.int .i64 k12) (y_move rfl) ?_
  refine pl_val (.slice pa0 pn0 pc0) (y_move rfl) ?_
  refine pl_val (.int .i64 (a_.length : Int)) (y_len' Sl43 (rs_len h0) rfl) ?_
  refine pl_val (.bool (decide (k12 < (a_.length : Int)))) (y_lss rfl rfl) ?_
  refine c_nil ?_
  refine c_condF (congrArg Value.bool (decide_eq_false hlt)) ?_
  refine wp_exit ?_
  exact ⟨rfl, _, fr_ovl 26 trivial, hC, hO, h0, h1⟩
 ·rintro k12 s10 o14 a a0 ⟨σ, rfl, hC, hO, h0, h1⟩ hlt hw hs
  refine c_seq ?_
  refine c_sr ?_
  refine pl_val (.int .i64 k12) (y_move rfl) ?_
  refine pl_val (.slice pa0 pn0 pc0) (y_move rfl) ?_
  refine pl_val (.int .i64 (a_.length : Int)) (y_len' Sl43 (rs_len h0) rfl) ?_
  refine pl_val (.bool (decide (k12 < (a_.length : Int)))) (y_lss rfl rfl) ?_
  refine c_nil ?_
  refine c_condT (congrArg Value.bool (decide_eq_true hlt)) ?_
  refine wp_skip ?_
  refine c_seq ?_
  refine wp_block ?_
  refine c_seq ?_
  refine x_start [] Mx rfl ?_
  have a1 := Chg.drew a0
  generalize World.drew a0 = a6 at a1 ⊢
  have h0 := h0.ext a1
  have h1 := h1.ext a1
  have hC := hC.ext a1
  have hO := hO.ext a1
  have hS := Chg.refl [] a6
  refine x_p 0 (.slice pa0 pn0 pc0) rfl (by kernel_rfl)  (fun _ => y_move rfl) (fun _ => hS) ?_
  refine x_p 1 (.int .i64 k12) rfl (by kernel_rfl)  (fun _ => y_move rfl) (fun _ => hS) ?_
  obtain ⟨x17, a7, hs⟩ := bind_some hs
  obtain ⟨a8, a9, b0, b1⟩ := rs_idx Sl43 Sz3 h0 a7
  refine x_p 2 (.pointer (some ⟨a8, a9, none⟩)) rfl (by kernel_rfl)  (fun _ => b0 _ _ _ _ _ _ _ _ _ rfl rfl) (fun _ => hS) ?_
  refine x_l 3 (.int .i64 x17) rfl (by kernel_rfl)  (fun w' hw' => y_load rfl ((at_load_int Ag3 Sz3 b1) w' hw')) hS ?_
  refine x_p 4 (.slice pa1 pn1 pc1) rfl (by kernel_rfl)  (fun _ => y_move rfl) (fun _ => hS) ?_
  refine x_p 5 (.int .i64 k12) rfl (by kernel_rfl)  (fun _ => y_move rfl) (fun _ => hS) ?_
  obtain ⟨x19, b2, hs⟩ := bind_some hs
  obtain ⟨b3, b4, b5, b6⟩ := rs_idx Sl43 Sz3 h1 b2
  refine x_p 6 (.pointer (some ⟨b3, b4, none⟩)) rfl (by kernel_rfl)  (fun _ => b5 _ _ _ _ _ _ _ _ _ rfl rfl) (fun _ => hS) ?_
  refine x_l 7 (.int .i64 x19) rfl (by kernel_rfl)  (fun w' hw' => y_load rfl ((at_load_int Ag3 Sz3 b6) w' hw')) hS ?_
  refine x_p 8 (.bool (x17 != x19)) rfl (by kernel_rfl)  (fun _ => y_neq rfl rfl) (fun _ => hS) ?_
  refine x_end (by kernel_rfl) ?_
  clear hS
  rcases bif_some hs with ⟨a3, hs⟩ | ⟨a3, hs⟩
  ·refine c_condT (congrArg Value.bool a3) ?_
   refine c_sr ?_
   refine pl_val (.bool false) (y_assign rfl) ?_
   refine c_nil ?_
   refine wp_ret ?_
   cases hs
   exact ⟨_, fr_ovl 26 ⟨rfl, trivial⟩, hC⟩
  refine c_condF (congrArg Value.bool a3) ?_
  refine wp_skip ?_
  refine c_region ?_
  refine pl_val (.int .i64 k12) (y_move rfl) ?_
  refine pl_val (.int .i64 (w64 (k12 + 1))) (y_add rfl rfl) ?_
  refine pl_val (.int .i64 (w64 (k12 + 1))) (y_assign rfl) ?_
  refine c_nil ?_
  cases hs
  exact ⟨_, fr_ovl 26 ⟨rfl, rfl, congrArg (Value.int .i64) hw, trivial⟩, hC, hO, h0, h1⟩
 ·skip
  exact ⟨_, fr_ovl 26 ⟨rfl, rfl, rfl, trivial⟩, hC, hO, h0, h1⟩
 cases o14 with
 | nx _ => exact True.intro
 | rt r_ =>
  have hs := after_rt hs
  intro b7 a4 hK
  cases hs
  exact hK
 | br s10 =>
  have hs := after_br hs
  rintro b7 a0 ⟨σ, rfl, hC, hO, h0, h1⟩
  refine c_sr ?_
  refine pl_val (.bool true) (y_assign rfl) ?_
  refine c_nil ?_
  refine wp_ret ?_
  cases hs
  exact ⟨_, fr_ovl 26 ⟨rfl, trivial⟩, hC⟩

theorem Bd22 : Bodied Try.prog 22 := bodied Try.func22 (by kernel_rfl) rfl

def k_laws_eqOp (M : Nat → Prop) (w0 : World) (r : Bool) (a : Act) (w : World) : Prop :=
  ∃ (σ : Nat → Value) , a = fr 16 (ovl σ [(4, (.bool r))]) ∧ Chg [] w0 w
def s_laws_eqOp (a_ : Int × (List Int)) (b : Int × (List Int)) : Option (Bool) :=
  (bif (a_.1 != b.1) then some false else (s_laws_eqIntS a_.2 b.2).bind fun r7 =>
  (bif (!r7) then some false else some true))
set_option maxHeartbeats 4000000 in
theorem c_laws_eqOp {M : Nat → Prop} {w : World} {pa0 : Option Addr} {pn0 pc0 : Nat} {pa1 : Option Addr} {pn1 pc1 : Nat} (a_ : Int × (List Int)) (b : Int × (List Int)) (h0 : (RT.rs (RT.int .i64)).val M w (.slice pa0 pn0 pc0) a_.2 ([])) (h1 : (RT.rs (RT.int .i64)).val M w (.slice pa1 pn1 pc1) b.2 ([])) (hM : ∀ g, w.heap.size ≤ g → M g) {r : Bool} (hs : s_laws_eqOp a_ b = some r) :
    Gives Try.prog 79 [(.agg #[(.int .i64 a_.1), (.slice pa0 pn0 pc0)]), (.agg #[(.int .i64 b.1), (.slice pa1 pn1 pc1)])] w (fun v w' => v = (.bool r) ∧ Chg [] w w') := by
 refine calls_fr Try.func79 rfl Try.ntmps79 (Nat.le_of_ble_eq_true rfl) ?_
 have hO := Own.start (N := Nw w []) hM Nw.fut
 have hC := Chg.refl [] w
 unfold s_laws_eqOp at hs
 refine wp_mono (Q := KPost (k_laws_eqOp M w r)) ?_ (fun e a b6 h => ?_)
 rotate_left
 ·cases e
  case ret =>
   obtain ⟨σ, rfl, hrest⟩ := h
   exact ret1x Try.results79 (res_tmp rfl) ⟨rfl, hrest⟩
  all_goals exact (h : False).elim
 refine c_sr ?_
 obtain ⟨a9, a5, b2, b0, a4, a0⟩ := new_block w [(.int .i64 a_.1), (.slice pa0 pn0 pc0)] 89
 refine pl_val (w' := a9) (.pointer (some ⟨a5, 0, none⟩)) (y_box rfl (by rw [b2, b0]; kernel_rfl)) ?_
 have h0 := h0.ext a4
 have h1 := h1.ext a4
 have hC := hC.ext a4
 have hO := hO.new1 a4 b0 a0.lt
 obtain ⟨b3, a6, b4, b1, a2, a3⟩ := new_block a9 [(.int .i64 b.1), (.slice pa1 pn1 pc1)] 89
 refine pl_val (w' := b3) (.pointer (some ⟨a6, 0, none⟩)) (y_box rfl (by rw [b4, b1]; kernel_rfl)) ?_
 have h0 := h0.ext a2
 have h1 := h1.ext a2
 have a0 := a0.cn a2
 have hC := hC.ext a2
 have hO := hO.new1 a2 b1 a3.lt
 refine pl_val (.bool false) (y_assign rfl) ?_
 refine c_nil ?_
 refine c_seq ?_
 refine c_sr ?_
 refine pl_val (.pointer (some ⟨a5, 0, none⟩)) (y_faddr rfl Fa89x0) ?_
 refine pl_val (.int .i64 a_.1) (y_load rfl ((box_load Ag3 Sz3 a0 [] [(.int .i64 a_.1)] [(.slice pa0 pn0 pc0)] rfl rfl (fun _ => rfl)) _ (Chg.refl _ _))) ?_
 refine pl_val (.pointer (some ⟨a6, 0, none⟩)) (y_faddr rfl Fa89x0) ?_
 refine pl_val (.int .i64 b.1) (y_load rfl ((box_load Ag3 Sz3 a3 [] [(.int .i64 b.1)] [(.slice pa1 pn1 pc1)] rfl rfl (fun _ => rfl)) _ (Chg.refl _ _))) ?_
 refine pl_val (.bool (a_.1 != b.1)) (y_neq rfl rfl) ?_
 refine c_nil ?_
 rcases bif_some hs with ⟨a7, hs⟩ | ⟨a7, hs⟩
 ·refine c_condT (congrArg Value.bool a7) ?_
  refine c_sr ?_
  refine pl_val (.bool false) (y_assign rfl) ?_
  refine c_nil ?_
  refine wp_ret ?_
  cases hs
  exact ⟨_, fr_ovl 16 ⟨rfl, trivial⟩, hC⟩
 refine c_condF (congrArg Value.bool a7) ?_
 refine wp_skip ?_
 refine c_seq ?_
 refine c_sr ?_
 refine pl_val (.pointer (some ⟨a5, 1, none⟩)) (y_faddr rfl Fa89x1) ?_
 refine pl_val (.slice pa0 pn0 pc0) (y_load rfl ((box_load Ag43 Sz43 a0 [(.int .i64 a_.1)] [(.slice pa0 pn0 pc0)] [] rfl rfl (fun _ => rfl)) _ (Chg.refl _ _))) ?_
 refine pl_val (.pointer (some ⟨a6, 1, none⟩)) (y_faddr rfl Fa89x1) ?_
 refine pl_val (.slice pa1 pn1 pc1) (y_load rfl ((box_load Ag43 Sz43 a3 [(.int .i64 b.1)] [(.slice pa1 pn1 pc1)] [] rfl rfl (fun _ => rfl)) _ (Chg.refl _ _))) ?_
 obtain ⟨r7, b5, hs⟩ := bind_some hs
 refine pl_call Bd22 rfl (c_laws_eqIntS (M := M) a_.2 b.2 h0 h1 hO.fut b5) ?_
 rintro _ b7 ⟨rfl, a1⟩
 have h0 := h0.ext a1
 have h1 := h1.ext a1
 have a0 := a0.cn a1
 have a3 := a3.cn a1
 have hC := hC.ext a1
 have hO := hO.ext a1
 refine pl_val (.bool (!r7)) (y_not rfl) ?_
 refine c_nil ?_
 have hO := hO.drop
 have hO := hO.drop
 rcases bif_some hs with ⟨a8, hs⟩ | ⟨a8, hs⟩
 ·refine c_condT (congrArg Value.bool a8) ?_
  refine c_sr ?_
  refine pl_val (.bool false) (y_assign rfl) ?_
  refine c_nil ?_
  refine wp_ret ?_
  cases hs
  exact ⟨_, fr_ovl 16 ⟨rfl, trivial⟩, hC⟩
 refine c_condF (congrArg Value.bool a8) ?_
 refine wp_skip ?_
 refine c_sr ?_
 refine pl_val (.bool true) (y_assign rfl) ?_
 refine c_nil ?_
 refine wp_ret ?_
 cases hs
 exact ⟨_, fr_ovl 16 ⟨rfl, trivial⟩, hC⟩

theorem Bd79 : Bodied Try.prog 79 := bodied Try.func79 (by kernel_rfl) rfl

def k_laws_eqOpS (M : Nat → Prop) (w0 : World) (r : Bool) (a : Act) (w : World) : Prop :=
  ∃ (σ : Nat → Value) , a = fr 27 (ovl σ [(4, (.bool r))]) ∧ Chg [] w0 w
def s_laws_eqOpS (a_ : List (Int × (List Int))) (b : List (Int × (List Int))) : Option (Bool) :=
  (bif ((a_.length : Int) != (b.length : Int)) then some false else (forC (S := Unit) (R := Bool) (fun k18 s16 =>
  (idx a_ k18).bind fun x23 =>
  (idx b k18).bind fun x27 =>
  (s_laws_eqOp (x23.1, x23.2) (x27.1, x27.2)).bind fun r32 =>
  (bif (!r32) then some (.rt false) else some (.nx ()))) 0 (a_.length : Int) ()).bind fun o20 => after o20 (fun r_ => some r_) (fun s16 =>
  some true))
set_option maxHeartbeats 4000000 in
theorem c_laws_eqOpS {M : Nat → Prop} {w : World} {pa0 : Option Addr} {pn0 pc0 : Nat} {pa1 : Option Addr} {pn1 pc1 : Nat} (a_ : List (Int × (List Int))) (b : List (Int × (List Int))) (h0 : (RT.rs (RT.pr (RT.int .i64) (RT.rs (RT.int .i64)))).val M w (.slice pa0 pn0 pc0) a_ ([])) (h1 : (RT.rs (RT.pr (RT.int .i64) (RT.rs (RT.int .i64)))).val M w (.slice pa1 pn1 pc1) b ([])) (hM : ∀ g, w.heap.size ≤ g → M g) {r : Bool} (hs : s_laws_eqOpS a_ b = some r) :
    Gives Try.prog 42 [(.slice pa0 pn0 pc0), (.slice pa1 pn1 pc1)] w (fun v w' => v = (.bool r) ∧ Chg [] w w') := by
 refine calls_fr Try.func42 rfl Try.ntmps42 (Nat.le_of_ble_eq_true rfl) ?_
 have hO := Own.start (N := Nw w []) hM Nw.fut
 have hC := Chg.refl [] w
 unfold s_laws_eqOpS at hs
 refine wp_mono (Q := KPost (k_laws_eqOpS M w r)) ?_ (fun e a a9 h => ?_)
 rotate_left
 ·cases e
  case ret =>
   obtain ⟨σ, rfl, hrest⟩ := h
   exact ret1x Try.results42 (res_tmp rfl) ⟨rfl, hrest⟩
  all_goals exact (h : False).elim
 refine c_sr ?_
 refine pl_val (.bool false) (y_assign rfl) ?_
 refine c_nil ?_
 refine c_seq ?_
 refine c_sr ?_
 refine pl_val (.slice pa0 pn0 pc0) (y_move rfl) ?_
 refine pl_val (.int .i64 (a_.length : Int)) (y_len' Sl33 (rs_len h0) rfl) ?_
 refine pl_val (.slice pa1 pn1 pc1) (y_move rfl) ?_
 refine pl_val (.int .i64 (b.length : Int)) (y_len' Sl33 (rs_len h1) rfl) ?_
 refine pl_val (.bool ((a_.length : Int) != (b.length : Int))) (y_neq rfl rfl) ?_
 refine c_nil ?_
 rcases bif_some hs with ⟨a3, hs⟩ | ⟨a3, hs⟩
 ·refine c_condT (congrArg Value.bool a3) ?_
  refine c_sr ?_
  refine pl_val (.bool false) (y_assign rfl) ?_
  refine c_nil ?_
  refine wp_ret ?_
  cases hs
  exact ⟨_, fr_ovl 27 ⟨rfl, trivial⟩, hC⟩
 refine c_condF (congrArg Value.bool a3) ?_
 refine wp_skip ?_
 refine c_seq ?_
 refine c_sr ?_
 refine pl_val (.int .i64 0) (y_assign rfl) ?_
 refine c_nil ?_
 obtain ⟨o20, b0, hs⟩ := bind_some hs
 refine wp_block ?_
 refine wp_forC (id := 0) (a_.length : Int) (I := fun k18 s16 a a0 => ∃ (σ : Nat → Value), a = fr 27 (ovl σ [(0, (.slice pa0 pn0 pc0)), (1, (.slice pa1 pn1 pc1)), (5, (.int .i64 k18))]) ∧ Chg [] w a0 ∧ Own (Nw w []) M a0 ([]) ∧ (RT.rs (RT.pr (RT.int .i64) (RT.rs (RT.int .i64)))).val M a0 (.slice pa0 pn0 pc0) a_ ([]) ∧ (RT.rs (RT.pr (RT.int .i64) (RT.rs (RT.int .i64)))).val M a0 (.slice pa1 pn1 pc1) b ([])) (J := fun s16 a a0 => ∃ (σ : Nat → Value), a = fr 27 (ovl σ []) ∧ Chg [] w a0 ∧ Own (Nw w []) M a0 ([]) ∧ (RT.rs (RT.pr (RT.int .i64) (RT.rs (RT.int .i64)))).val M a0 (.slice pa0 pn0 pc0) a_ ([]) ∧ (RT.rs (RT.pr (RT.int .i64) (RT.rs (RT.int .i64)))).val M a0 (.slice pa1 pn1 pc1) b ([])) (K := (k_laws_eqOpS M w)) ?_ ?_ 0 () o20 _ _ ?_ b0 ?_
 ·rintro k18 s16 a a0 ⟨σ, rfl, hC, hO, h0, h1⟩ hlt
  refine c_seq ?_
  refine c_sr ?_
  refine pl_val (.int .i64 k18) (y_move rfl) ?_
  refine pl_val (.slice pa0 pn0 pc0) (y_move rfl) ?_
  refine pl_val (.int .i64 (a_.length : Int)) (y_len' Sl33 (rs_len h0) rfl) ?_
  refine pl_val (.bool (decide (k18 < (a_.length : Int)))) (y_lss rfl rfl) ?_
  refine c_nil ?_
  refine c_condF (congrArg Value.bool (decide_eq_false hlt)) ?_
  refine wp_exit ?_
  exact ⟨rfl, _, fr_ovl 27 trivial, hC, hO, h0, h1⟩
 ·rintro k18 s16 o20 a a0 ⟨σ, rfl, hC, hO, h0, h1⟩ hlt hw hs
  refine c_seq ?_
  refine c_sr ?_
  refine pl_val (.int .i64 k18) (y_move rfl) ?_
  refine pl_val (.slice pa0 pn0 pc0) (y_move rfl) ?_
  refine pl_val (.int .i64 (a_.length : Int)) (y_len' Sl33 (rs_len h0) rfl) ?_
  refine pl_val (.bool (decide (k18 < (a_.length : Int)))) (y_lss rfl rfl) ?_
  refine c_nil ?_
  refine c_condT (congrArg Value.bool (decide_eq_true hlt)) ?_
  refine wp_skip ?_
  refine c_seq ?_
  refine wp_block ?_
  refine c_seq ?_
  refine x_start [] Mx rfl ?_
  have a2 := Chg.drew a0
  generalize World.drew a0 = b1 at a2 ⊢
  have h0 := h0.ext a2
  have h1 := h1.ext a2
  have hC := hC.ext a2
  have hO := hO.ext a2
  have hS := Chg.refl [] b1
  refine x_p 0 (.slice pa0 pn0 pc0) rfl (by kernel_rfl)  (fun _ => y_move rfl) (fun _ => hS) ?_
  refine x_p 1 (.int .i64 k18) rfl (by kernel_rfl)  (fun _ => y_move rfl) (fun _ => hS) ?_
  obtain ⟨x23, b2, hs⟩ := bind_some hs
  obtain ⟨b3, b4, b5, a4⟩ := rs_idx Sl33 Sz89 h0 b2
  refine x_p 2 (.pointer (some ⟨b3, b4, none⟩)) rfl (by kernel_rfl)  (fun _ => b5 _ _ _ _ _ _ _ _ _ rfl rfl) (fun _ => hS) ?_
  obtain ⟨d8, b6, b7⟩ := at_load Ag89 Sz89 (by intro h; cases h) a4
  obtain ⟨d9, rfl, b8⟩ := b7
  obtain ⟨e0, e1, rfl, b9, c0⟩ := pr_open b8
  obtain rfl := int_rel b9
  obtain ⟨c1, c2, c3, rfl, a5⟩ := rs_rel c0
  refine x_l 3 (.agg #[(.int .i64 x23.1), (.slice c1 c2 c3)]) rfl (by kernel_rfl)  (fun w' hw' => y_load rfl (b6 w' hw')) hS ?_
  refine x_p 4 (.slice pa1 pn1 pc1) rfl (by kernel_rfl)  (fun _ => y_move rfl) (fun _ => hS) ?_
  refine x_p 5 (.int .i64 k18) rfl (by kernel_rfl)  (fun _ => y_move rfl) (fun _ => hS) ?_
  obtain ⟨x27, c4, hs⟩ := bind_some hs
  obtain ⟨c5, c6, c7, a6⟩ := rs_idx Sl33 Sz89 h1 c4
  refine x_p 6 (.pointer (some ⟨c5, c6, none⟩)) rfl (by kernel_rfl)  (fun _ => c7 _ _ _ _ _ _ _ _ _ rfl rfl) (fun _ => hS) ?_
  obtain ⟨e2, c8, c9⟩ := at_load Ag89 Sz89 (by intro h; cases h) a6
  obtain ⟨e3, rfl, d0⟩ := c9
  obtain ⟨e4, e5, rfl, d1, d2⟩ := pr_open d0
  obtain rfl := int_rel d1
  obtain ⟨d3, d4, d5, rfl, a7⟩ := rs_rel d2
  refine x_l 7 (.agg #[(.int .i64 x27.1), (.slice d3 d4 d5)]) rfl (by kernel_rfl)  (fun w' hw' => y_load rfl (c8 w' hw')) hS ?_
  refine x_one (i := 8) (by kernel_rfl) ?_
  obtain ⟨r32, d6, hs⟩ := bind_some hs
  refine xk_call (b := false) rfl  Bd79 rfl (c_laws_eqOp (M := M) (x23.1, x23.2) (x27.1, x27.2) a5 a7 hO.fut d6) rfl (by rintro _ _ _ ⟨rfl, a1⟩; exact hS.ext a1) ?_
  rintro _ e6 ⟨rfl, a1⟩
  have h0 := h0.ext a1
  have h1 := h1.ext a1
  have a5 := a5.ext a1
  have a7 := a7.ext a1
  have a4 := at_ext a4 a1
  have a6 := at_ext a6 a1
  have hC := hC.ext a1
  have hO := hO.ext a1
  have hS := hS.ext a1
  refine x_p 9 (.bool (!r32)) rfl (by kernel_rfl)  (fun _ => y_not rfl) (fun _ => hS) ?_
  refine x_end (by kernel_rfl) ?_
  clear hS
  rcases bif_some hs with ⟨a8, hs⟩ | ⟨a8, hs⟩
  ·refine c_condT (congrArg Value.bool a8) ?_
   refine c_sr ?_
   refine pl_val (.bool false) (y_assign rfl) ?_
   refine c_nil ?_
   refine wp_ret ?_
   cases hs
   exact ⟨_, fr_ovl 27 ⟨rfl, trivial⟩, hC⟩
  refine c_condF (congrArg Value.bool a8) ?_
  refine wp_skip ?_
  refine c_region ?_
  refine pl_val (.int .i64 k18) (y_move rfl) ?_
  refine pl_val (.int .i64 (w64 (k18 + 1))) (y_add rfl rfl) ?_
  refine pl_val (.int .i64 (w64 (k18 + 1))) (y_assign rfl) ?_
  refine c_nil ?_
  cases hs
  exact ⟨_, fr_ovl 27 ⟨rfl, rfl, congrArg (Value.int .i64) hw, trivial⟩, hC, hO, h0, h1⟩
 ·skip
  exact ⟨_, fr_ovl 27 ⟨rfl, rfl, rfl, trivial⟩, hC, hO, h0, h1⟩
 cases o20 with
 | nx _ => exact True.intro
 | rt r_ =>
  have hs := after_rt hs
  intro d7 a9 hK
  cases hs
  exact hK
 | br s16 =>
  have hs := after_br hs
  rintro d7 a0 ⟨σ, rfl, hC, hO, h0, h1⟩
  refine c_sr ?_
  refine pl_val (.bool true) (y_assign rfl) ?_
  refine c_nil ?_
  refine wp_ret ?_
  cases hs
  exact ⟨_, fr_ovl 27 ⟨rfl, trivial⟩, hC⟩

theorem Bd42 : Bodied Try.prog 42 := bodied Try.func42 (by kernel_rfl) rfl

def k_laws_eqAlgebra (M : Nat → Prop) (w0 : World) (r : Bool) (a : Act) (w : World) : Prop :=
  ∃ (σ : Nat → Value) , a = fr 16 (ovl σ [(4, (.bool r))]) ∧ Chg [] w0 w
def s_laws_eqAlgebra (a_ : Int × (List (Int × (List Int)))) (b : Int × (List (Int × (List Int)))) : Option (Bool) :=
  (bif (a_.1 != b.1) then some false else (s_laws_eqOpS a_.2 b.2).bind fun r7 =>
  (bif (!r7) then some false else some true))
set_option maxHeartbeats 4000000 in
theorem c_laws_eqAlgebra {M : Nat → Prop} {w : World} {pa0 : Option Addr} {pn0 pc0 : Nat} {pa1 : Option Addr} {pn1 pc1 : Nat} (a_ : Int × (List (Int × (List Int)))) (b : Int × (List (Int × (List Int)))) (h0 : (RT.rs (RT.pr (RT.int .i64) (RT.rs (RT.int .i64)))).val M w (.slice pa0 pn0 pc0) a_.2 ([])) (h1 : (RT.rs (RT.pr (RT.int .i64) (RT.rs (RT.int .i64)))).val M w (.slice pa1 pn1 pc1) b.2 ([])) (hM : ∀ g, w.heap.size ≤ g → M g) {r : Bool} (hs : s_laws_eqAlgebra a_ b = some r) :
    Gives Try.prog 15 [(.agg #[(.int .i64 a_.1), (.slice pa0 pn0 pc0)]), (.agg #[(.int .i64 b.1), (.slice pa1 pn1 pc1)])] w (fun v w' => v = (.bool r) ∧ Chg [] w w') := by
 refine calls_fr Try.func15 rfl Try.ntmps15 (Nat.le_of_ble_eq_true rfl) ?_
 have hO := Own.start (N := Nw w []) hM Nw.fut
 have hC := Chg.refl [] w
 unfold s_laws_eqAlgebra at hs
 refine wp_mono (Q := KPost (k_laws_eqAlgebra M w r)) ?_ (fun e a b6 h => ?_)
 rotate_left
 ·cases e
  case ret =>
   obtain ⟨σ, rfl, hrest⟩ := h
   exact ret1x Try.results15 (res_tmp rfl) ⟨rfl, hrest⟩
  all_goals exact (h : False).elim
 refine c_sr ?_
 obtain ⟨a9, a5, b2, b0, a4, a0⟩ := new_block w [(.int .i64 a_.1), (.slice pa0 pn0 pc0)] 35
 refine pl_val (w' := a9) (.pointer (some ⟨a5, 0, none⟩)) (y_box rfl (by rw [b2, b0]; kernel_rfl)) ?_
 have h0 := h0.ext a4
 have h1 := h1.ext a4
 have hC := hC.ext a4
 have hO := hO.new1 a4 b0 a0.lt
 obtain ⟨b3, a6, b4, b1, a2, a3⟩ := new_block a9 [(.int .i64 b.1), (.slice pa1 pn1 pc1)] 35
 refine pl_val (w' := b3) (.pointer (some ⟨a6, 0, none⟩)) (y_box rfl (by rw [b4, b1]; kernel_rfl)) ?_
 have h0 := h0.ext a2
 have h1 := h1.ext a2
 have a0 := a0.cn a2
 have hC := hC.ext a2
 have hO := hO.new1 a2 b1 a3.lt
 refine pl_val (.bool false) (y_assign rfl) ?_
 refine c_nil ?_
 refine c_seq ?_
 refine c_sr ?_
 refine pl_val (.pointer (some ⟨a5, 0, none⟩)) (y_faddr rfl Fa35x0) ?_
 refine pl_val (.int .i64 a_.1) (y_load rfl ((box_load Ag3 Sz3 a0 [] [(.int .i64 a_.1)] [(.slice pa0 pn0 pc0)] rfl rfl (fun _ => rfl)) _ (Chg.refl _ _))) ?_
 refine pl_val (.pointer (some ⟨a6, 0, none⟩)) (y_faddr rfl Fa35x0) ?_
 refine pl_val (.int .i64 b.1) (y_load rfl ((box_load Ag3 Sz3 a3 [] [(.int .i64 b.1)] [(.slice pa1 pn1 pc1)] rfl rfl (fun _ => rfl)) _ (Chg.refl _ _))) ?_
 refine pl_val (.bool (a_.1 != b.1)) (y_neq rfl rfl) ?_
 refine c_nil ?_
 rcases bif_some hs with ⟨a7, hs⟩ | ⟨a7, hs⟩
 ·refine c_condT (congrArg Value.bool a7) ?_
  refine c_sr ?_
  refine pl_val (.bool false) (y_assign rfl) ?_
  refine c_nil ?_
  refine wp_ret ?_
  cases hs
  exact ⟨_, fr_ovl 16 ⟨rfl, trivial⟩, hC⟩
 refine c_condF (congrArg Value.bool a7) ?_
 refine wp_skip ?_
 refine c_seq ?_
 refine c_sr ?_
 refine pl_val (.pointer (some ⟨a5, 1, none⟩)) (y_faddr rfl Fa35x1) ?_
 refine pl_val (.slice pa0 pn0 pc0) (y_load rfl ((box_load Ag33 Sz33 a0 [(.int .i64 a_.1)] [(.slice pa0 pn0 pc0)] [] rfl rfl (fun _ => rfl)) _ (Chg.refl _ _))) ?_
 refine pl_val (.pointer (some ⟨a6, 1, none⟩)) (y_faddr rfl Fa35x1) ?_
 refine pl_val (.slice pa1 pn1 pc1) (y_load rfl ((box_load Ag33 Sz33 a3 [(.int .i64 b.1)] [(.slice pa1 pn1 pc1)] [] rfl rfl (fun _ => rfl)) _ (Chg.refl _ _))) ?_
 obtain ⟨r7, b5, hs⟩ := bind_some hs
 refine pl_call Bd42 rfl (c_laws_eqOpS (M := M) a_.2 b.2 h0 h1 hO.fut b5) ?_
 rintro _ b7 ⟨rfl, a1⟩
 have h0 := h0.ext a1
 have h1 := h1.ext a1
 have a0 := a0.cn a1
 have a3 := a3.cn a1
 have hC := hC.ext a1
 have hO := hO.ext a1
 refine pl_val (.bool (!r7)) (y_not rfl) ?_
 refine c_nil ?_
 have hO := hO.drop
 have hO := hO.drop
 rcases bif_some hs with ⟨a8, hs⟩ | ⟨a8, hs⟩
 ·refine c_condT (congrArg Value.bool a8) ?_
  refine c_sr ?_
  refine pl_val (.bool false) (y_assign rfl) ?_
  refine c_nil ?_
  refine wp_ret ?_
  cases hs
  exact ⟨_, fr_ovl 16 ⟨rfl, trivial⟩, hC⟩
 refine c_condF (congrArg Value.bool a8) ?_
 refine wp_skip ?_
 refine c_sr ?_
 refine pl_val (.bool true) (y_assign rfl) ?_
 refine c_nil ?_
 refine wp_ret ?_
 cases hs
 exact ⟨_, fr_ovl 16 ⟨rfl, trivial⟩, hC⟩

theorem Ag24 : AggT Try.prog 24 true := fun _ => by kernel_rfl

theorem Sz24 : SzT Try.prog 24 2 := ⟨_, rfl, rfl⟩

theorem Bd8 : Bodied Try.prog 8 := bodied Try.func8 (by kernel_rfl) rfl

theorem Bd11 : Bodied Try.prog 11 := bodied Try.func11 (by kernel_rfl) rfl

theorem Bd23 : Bodied Try.prog 23 := bodied Try.func23 (by kernel_rfl) rfl

theorem Bd24 : Bodied Try.prog 24 := bodied Try.func24 (by kernel_rfl) rfl

theorem Bd15 : Bodied Try.prog 15 := bodied Try.func15 (by kernel_rfl) rfl

def k_laws_FnExactAreEqualTerms (M : Nat → Prop) (w0 : World) (r : Bool) (a : Act) (w : World) : Prop :=
  ∃ (σ : Nat → Value) , a = fr 76 (ovl σ [(8, (.bool r))]) ∧ Chg [] w0 w
def s_laws_FnExactAreEqualTerms (aA : Int × (List (Int × (List Int)))) (aK : Int) (aS : List Int) (aT : List Int) : Option (Bool) :=
  (bif (decide (1048576 < (aS.length : Int))) then some true else (bif (decide (1048576 < (aT.length : Int))) then some true else (s_laws_szAlgebra (aA.1, aA.2) 1048576).bind fun r8 =>
  (bif (decide (r8 < 0)) then some true else (s_laws_toAlgebra (aA.1, aA.2)).bind fun r11 =>
  (s_laws_toIntS aS).bind fun r14 =>
  (s_laws_toIntS aT).bind fun r17 =>
  (s_spec_AreEqualTerms (r11.1, r11.2) aK r14 r17).bind fun r20 =>
  (s_laws_toAlgebra (aA.1, aA.2)).bind fun r22 =>
  (s_laws_toIntS aS).bind fun r27 =>
  (s_laws_toIntS aT).bind fun r30 =>
  (s_impl_AreEqualTerms (r22.1, r22.2) aK r27 r30).bind fun r33 =>
  (bif ((!(r33.1 == r20.1)) || (!(r33.2 == r20.2))) then some false else (s_laws_toAlgebra (aA.1, aA.2)).bind fun r47 =>
  (s_laws_eqAlgebra (r22.1, r22.2) (r47.1, r47.2)).bind fun r50 =>
  (bif (!r50) then some false else (s_laws_toIntS aS).bind fun r53 =>
  (s_laws_eqIntS r27 r53).bind fun r56 =>
  (bif (!r56) then some false else (s_laws_toIntS aT).bind fun r59 =>
  (s_laws_eqIntS r30 r59).bind fun r62 =>
  (bif (!r62) then some false else some true)))))))
set_option maxHeartbeats 4000000 in
theorem c_laws_FnExactAreEqualTerms {M : Nat → Prop} {w : World} {pa0 : Option Addr} {pn0 pc0 : Nat} {pa1 : Option Addr} {pn1 pc1 : Nat} {pa2 : Option Addr} {pn2 pc2 : Nat} (aA : Int × (List (Int × (List Int)))) (aK : Int) (aS : List Int) (aT : List Int) (h0 : (RT.rs (RT.pr (RT.int .i64) (RT.rs (RT.int .i64)))).val M w (.slice pa0 pn0 pc0) aA.2 ([])) (h1 : (RT.rs (RT.int .i64)).val M w (.slice pa1 pn1 pc1) aS ([])) (h2 : (RT.rs (RT.int .i64)).val M w (.slice pa2 pn2 pc2) aT ([])) (hM : ∀ g, w.heap.size ≤ g → M g) {r : Bool} (hs : s_laws_FnExactAreEqualTerms aA aK aS aT = some r) :
    Gives Try.prog 5 [(.agg #[(.int .i64 aA.1), (.slice pa0 pn0 pc0)]), (.int .i64 aK), (.slice pa1 pn1 pc1), (.slice pa2 pn2 pc2)] w (fun v w' => v = (.bool r) ∧ Chg [] w w') := by
 refine calls_fr Try.func5 rfl Try.ntmps5 (Nat.le_of_ble_eq_true rfl) ?_
 have hO := Own.start (N := Nw w []) hM Nw.fut
 have hC := Chg.refl [] w
 unfold s_laws_FnExactAreEqualTerms at hs
 refine wp_mono (Q := KPost (k_laws_FnExactAreEqualTerms M w r)) ?_ (fun e a k3 h => ?_)
 rotate_left
 ·cases e
  case ret =>
   obtain ⟨σ, rfl, hrest⟩ := h
   exact ret1x Try.results5 (res_tmp rfl) ⟨rfl, hrest⟩
  all_goals exact (h : False).elim
 refine c_sr ?_
 obtain ⟨g6, b1, g7, f7, d3, a0⟩ := new_block w [(.int .i64 aA.1), (.slice pa0 pn0 pc0)] 24
 refine pl_val (w' := g6) (.pointer (some ⟨b1, 0, none⟩)) (y_box rfl (by rw [g7, f7]; kernel_rfl)) ?_
 have h0 := h0.ext d3
 have h1 := h1.ext d3
 have h2 := h2.ext d3
 have hC := hC.ext d3
 have hO := hO.new1 d3 f7 a0.lt
 refine pl_val (.bool false) (y_assign rfl) ?_
 refine c_nil ?_
 refine c_seq ?_
 refine c_sr ?_
 refine pl_val (.slice pa1 pn1 pc1) (y_move rfl) ?_
 refine pl_val (.int .i64 (aS.length : Int)) (y_len' Sl43 (rs_len h1) rfl) ?_
 refine pl_val (.bool (decide (1048576 < (aS.length : Int)))) (y_gtr rfl rfl) ?_
 refine c_nil ?_
 rcases bif_some hs with ⟨e6, hs⟩ | ⟨e6, hs⟩
 ·refine c_condT (congrArg Value.bool e6) ?_
  refine c_sr ?_
  refine pl_val (.bool true) (y_assign rfl) ?_
  refine c_nil ?_
  refine wp_ret ?_
  cases hs
  exact ⟨_, fr_ovl 76 ⟨rfl, trivial⟩, hC⟩
 refine c_condF (congrArg Value.bool e6) ?_
 refine wp_skip ?_
 refine c_seq ?_
 refine c_sr ?_
 refine pl_val (.slice pa2 pn2 pc2) (y_move rfl) ?_
 refine pl_val (.int .i64 (aT.length : Int)) (y_len' Sl43 (rs_len h2) rfl) ?_
 refine pl_val (.bool (decide (1048576 < (aT.length : Int)))) (y_gtr rfl rfl) ?_
 refine c_nil ?_
 rcases bif_some hs with ⟨e7, hs⟩ | ⟨e7, hs⟩
 ·refine c_condT (congrArg Value.bool e7) ?_
  refine c_sr ?_
  refine pl_val (.bool true) (y_assign rfl) ?_
  refine c_nil ?_
  refine wp_ret ?_
  cases hs
  exact ⟨_, fr_ovl 76 ⟨rfl, trivial⟩, hC⟩
 refine c_condF (congrArg Value.bool e7) ?_
 refine wp_skip ?_
 refine c_sr ?_
 refine pl_val (.int .i64 1048576) (y_assign rfl) ?_
 refine c_nil ?_
 refine c_sr ?_
 refine pl_val (.agg #[(.int .i64 aA.1), (.slice pa0 pn0 pc0)]) (y_load rfl ((box_load Ag24 Sz24 a0 [] [(.int .i64 aA.1), (.slice pa0 pn0 pc0)] [] rfl rfl (fun h => nomatch h)) _ (Chg.refl _ _))) ?_
 refine pl_val (.int .i64 1048576) (y_move rfl) ?_
 obtain ⟨r8, g8, hs⟩ := bind_some hs
 refine pl_call Bd8 rfl (c_laws_szAlgebra (M := M) (aA.1, aA.2) 1048576 h0 hO.fut g8) ?_
 rintro _ k4 ⟨rfl, c5⟩
 have h0 := h0.ext c5
 have h1 := h1.ext c5
 have h2 := h2.ext c5
 have a0 := a0.cn c5
 have hC := hC.ext c5
 have hO := hO.ext c5
 refine pl_val (.int .i64 r8) (y_assign rfl) ?_
 refine c_nil ?_
 refine c_seq ?_
 refine c_sr ?_
 refine pl_val (.int .i64 r8) (y_move rfl) ?_
 refine pl_val (.bool (decide (r8 < 0))) (y_lss rfl rfl) ?_
 refine c_nil ?_
 rcases bif_some hs with ⟨e8, hs⟩ | ⟨e8, hs⟩
 ·refine c_condT (congrArg Value.bool e8) ?_
  refine c_sr ?_
  refine pl_val (.bool true) (y_assign rfl) ?_
  refine c_nil ?_
  refine wp_ret ?_
  cases hs
  exact ⟨_, fr_ovl 76 ⟨rfl, trivial⟩, hC⟩
 refine c_condF (congrArg Value.bool e8) ?_
 refine wp_skip ?_
 refine c_sr ?_
 refine pl_val (.agg #[(.int .i64 aA.1), (.slice pa0 pn0 pc0)]) (y_load rfl ((box_load Ag24 Sz24 a0 [] [(.int .i64 aA.1), (.slice pa0 pn0 pc0)] [] rfl rfl (fun h => nomatch h)) _ (Chg.refl _ _))) ?_
 obtain ⟨r11, g9, hs⟩ := bind_some hs
 refine pl_call Bd11 rfl (c_laws_toAlgebra (M := M) (aA.1, aA.2) h0 hO.fut g9) ?_
 rintro _ k5 ⟨k6, k7, k8, d6, rfl, c6, b9, h3⟩
 have h0 := h0.ext c6
 have h1 := h1.ext c6
 have h2 := h2.ext c6
 have a0 := a0.cn c6
 have hC := hC.ext c6
 have hO := Own.join0 hO c6 h3
 have hO := hO.perm (R := d6 ++ (([b1]) ++ ([]))) (by simp)
 refine pl_val (.int .i64 aK) (y_move rfl) ?_
 refine pl_val (.slice pa1 pn1 pc1) (y_move rfl) ?_
 obtain ⟨r14, h4, hs⟩ := bind_some hs
 refine pl_call Bd20 rfl (c_laws_toIntS (M := M) aS h1 hO.fut h4) ?_
 rintro _ k9 ⟨l0, l1, l2, e9, rfl, c0, d4, h5⟩
 have h0 := h0.ext c0
 have h1 := h1.ext c0
 have h2 := h2.ext c0
 have a0 := a0.cn c0
 have b9 := b9.ext c0
 have hC := hC.ext c0
 have hO := Own.join0 hO c0 h5
 have hO := hO.perm (R := e9 ++ (d6 ++ (([b1]) ++ ([])))) (by simp)
 refine pl_val (.slice pa2 pn2 pc2) (y_move rfl) ?_
 obtain ⟨r17, h6, hs⟩ := bind_some hs
 refine pl_call Bd20 rfl (c_laws_toIntS (M := M) aT h2 hO.fut h6) ?_
 rintro _ l3 ⟨l4, l5, l6, f8, rfl, b6, f0, h7⟩
 have h0 := h0.ext b6
 have h1 := h1.ext b6
 have h2 := h2.ext b6
 have a0 := a0.cn b6
 have b9 := b9.ext b6
 have d4 := d4.ext b6
 have hC := hC.ext b6
 have hO := Own.join0 hO b6 h7
 have hO := hO.perm (R := f8 ++ (e9 ++ (d6 ++ (([b1]) ++ ([]))))) (by simp)
 have hO := hO.fr1
 have hO := hO.fr2
 obtain ⟨r20, h8, hs⟩ := bind_some hs
 refine pl_call Bd23 rfl (c_spec_AreEqualTerms (M := (Less (Less (Less M d6) e9) f8)) (r11.1, r11.2) aK r14 r17 (((((Frz.os (Frz.pr Frz.int (Frz.os Frz.int)))).val b9 Less.sub Less.not).sub Less.sub).sub Less.sub) ((((Frz.os Frz.int)).val (d4.sub Less.sub) Less.sub Less.not).sub Less.sub) (((Frz.os Frz.int)).val ((f0.sub Less.sub).sub Less.sub) Less.sub Less.not) ((hO.less).less).less.fut h8) ?_
 rintro _ l7 ⟨rfl, b4⟩
 have h0 := h0.ext b4
 have h1 := h1.ext b4
 have h2 := h2.ext b4
 have a0 := a0.cn b4
 have b9 := b9.ext b4
 have d4 := d4.ext b4
 have f0 := f0.ext b4
 have hC := hC.ext b4
 have hO := hO.ext b4
 refine pl_val (.tuple #[(.bool r20.1), (.bool r20.2)]) (y_move rfl) ?_
 refine pl_val (.bool r20.1) (y_extract rfl (by kernel_rfl)) ?_
 refine pl_val (.bool r20.2) (y_extract rfl (by kernel_rfl)) ?_
 refine pl_val (.bool r20.1) (y_assign rfl) ?_
 refine pl_val (.bool r20.2) (y_assign rfl) ?_
 refine c_nil ?_
 have hO := hO.drop
 have hO := hO.drop
 have hO := hO.drop
 refine c_sr ?_
 refine pl_val (.agg #[(.int .i64 aA.1), (.slice pa0 pn0 pc0)]) (y_load rfl ((box_load Ag24 Sz24 a0 [] [(.int .i64 aA.1), (.slice pa0 pn0 pc0)] [] rfl rfl (fun h => nomatch h)) _ (Chg.refl _ _))) ?_
 obtain ⟨r22, h9, hs⟩ := bind_some hs
 refine pl_call Bd11 rfl (c_laws_toAlgebra (M := M) (aA.1, aA.2) h0 hO.fut h9) ?_
 rintro _ i0 ⟨c7, c8, c9, c1, rfl, d0, a1, i1⟩
 have h0 := h0.ext d0
 have h1 := h1.ext d0
 have h2 := h2.ext d0
 have a0 := a0.cn d0
 have hC := hC.ext d0
 have hO := Own.join0 hO d0 i1
 have hO := hO.perm (R := c1 ++ (([b1]) ++ ([]))) (by simp)
 obtain ⟨i2, c2, i3, f9, c3, g0⟩ := new_block i0 [(.int .i64 0), (.slice none 0 0)] 35
 refine pl_val (w' := i2) (.pointer (some ⟨c2, 0, none⟩)) (y_alloc (by rw [i3, f9]; kernel_rfl)) ?_
 have h0 := h0.ext c3
 have h1 := h1.ext c3
 have h2 := h2.ext c3
 have a0 := a0.cn c3
 have a1 := a1.ext c3
 have hC := hC.ext c3
 have hO := hO.new1 c3 f9 g0.lt
 obtain ⟨g1, i4, c4, a2⟩ := box_store (P := Try.prog) g0 [] [(.int .i64 0), (.slice none 0 0)] [] [(.int .i64 r22.1), (.slice c7 c8 c9)] rfl rfl (by intro u hu; simp only [List.mem_cons, List.not_mem_nil, or_false] at hu; rcases hu with rfl | rfl <;> rfl)
 refine pl_skip (w' := g1) (ys_store rfl rfl (i4 _ _ rfl Sz35)) ?_
 have h0 := h0.mt c4 hO same_
 have h1 := h1.mt c4 hO same_
 have h2 := h2.mt c4 hO same_
 have a0 := a0.ap c4 hO same_ (mem_r (mem_l (List.mem_singleton.2 rfl)))
 have a1 := a1.ma c4 hO same_ (fun _ e => (mem_l (e)))
 have hC := hC.st c4 hO same_
 have hO := hO.ext c4
 have a2 : BoxV g1 c2 35 [(.int .i64 r22.1), (.slice c7 c8 c9)] := a2
 refine c_nil ?_
 refine c_sr ?_
 refine pl_val (.slice pa1 pn1 pc1) (y_move rfl) ?_
 obtain ⟨r27, i5, hs⟩ := bind_some hs
 refine pl_call Bd20 rfl (c_laws_toIntS (M := M) aS h1 hO.fut i5) ?_
 rintro _ l8 ⟨d7, d8, d9, d1, rfl, b7, a4, i6⟩
 have h0 := h0.ext b7
 have h1 := h1.ext b7
 have h2 := h2.ext b7
 have a0 := a0.cn b7
 have a1 := a1.ext b7
 have a2 := a2.cn b7
 have hC := hC.ext b7
 have hO := Own.join0 hO b7 i6
 have hO := hO.perm (R := d1 ++ (([c2]) ++ (c1 ++ (([b1]) ++ ([]))))) (by simp)
 refine pl_val (.slice d7 d8 d9) (y_assign rfl) ?_
 refine c_nil ?_
 refine c_sr ?_
 refine pl_val (.slice pa2 pn2 pc2) (y_move rfl) ?_
 obtain ⟨r30, i7, hs⟩ := bind_some hs
 refine pl_call Bd20 rfl (c_laws_toIntS (M := M) aT h2 hO.fut i7) ?_
 rintro _ l9 ⟨e0, e1, e2, d2, rfl, b5, a3, i9⟩
 have h0 := h0.ext b5
 have h1 := h1.ext b5
 have h2 := h2.ext b5
 have a0 := a0.cn b5
 have a1 := a1.ext b5
 have a2 := a2.cn b5
 have a4 := a4.ext b5
 have hC := hC.ext b5
 have hO := Own.join0 hO b5 i9
 have hO := hO.perm (R := d2 ++ (d1 ++ (([c2]) ++ (c1 ++ (([b1]) ++ ([])))))) (by simp)
 refine pl_val (.slice e0 e1 e2) (y_assign rfl) ?_
 refine c_nil ?_
 refine c_sr ?_
 refine pl_val (.agg #[(.int .i64 r22.1), (.slice c7 c8 c9)]) (y_load rfl ((box_load Ag35 Sz35 a2 [] [(.int .i64 r22.1), (.slice c7 c8 c9)] [] rfl rfl (fun h => nomatch h)) _ (Chg.refl _ _))) ?_
 refine pl_val (.int .i64 aK) (y_move rfl) ?_
 refine pl_val (.slice d7 d8 d9) (y_move rfl) ?_
 refine pl_val (.slice e0 e1 e2) (y_move rfl) ?_
 have hO := hO.fr1
 have hO := hO.fr3
 obtain ⟨r33, j0, hs⟩ := bind_some hs
 refine pl_call Bd24 rfl (c_impl_AreEqualTerms (M := (Less (Less (Less M c1) d1) d2)) (r22.1, r22.2) aK r27 r30 (((((Frz.os (Frz.pr Frz.int (Frz.os Frz.int)))).val a1 Less.sub Less.not).sub Less.sub).sub Less.sub) ((((Frz.os Frz.int)).val (a4.sub Less.sub) Less.sub Less.not).sub Less.sub) (((Frz.os Frz.int)).val ((a3.sub Less.sub).sub Less.sub) Less.sub Less.not) ((hO.less).less).less.fut j0) ?_
 rintro _ g2 ⟨rfl, b2⟩
 have h0 := h0.ext b2
 have h1 := h1.ext b2
 have h2 := h2.ext b2
 have a0 := a0.cn b2
 have a1 := a1.ext b2
 have a2 := a2.cn b2
 have a4 := a4.ext b2
 have a3 := a3.ext b2
 have hC := hC.ext b2
 have hO := hO.ext b2
 refine pl_val (.tuple #[(.bool r33.1), (.bool r33.2)]) (y_move rfl) ?_
 refine pl_val (.bool r33.1) (y_extract rfl (by kernel_rfl)) ?_
 refine pl_val (.bool r33.2) (y_extract rfl (by kernel_rfl)) ?_
 refine pl_val (.bool r33.1) (y_assign rfl) ?_
 refine pl_val (.bool r33.2) (y_assign rfl) ?_
 refine c_nil ?_
 refine c_seq ?_
 refine c_seq ?_
 refine c_mid (I := fun a e3 => ∃ (σ : Nat → Value), a = fr 76 (ovl σ [(2, (.slice pa1 pn1 pc1)), (3, (.slice pa2 pn2 pc2)), (4, (.pointer (some ⟨b1, 0, none⟩))), (8, (.bool false)), (12, (.pointer (some ⟨c2, 0, none⟩))), (13, (.slice d7 d8 d9)), (14, (.slice e0 e1 e2)), (60, (.bool ((!(r33.1 == r20.1)) || (!(r33.2 == r20.2)))))]) ∧ Chg [] g2 e3) ?_ ?_
 ·have hMid := Chg.refl [] g2
  refine c_region ?_
  refine pl_val (.bool r33.1) (y_move rfl) ?_
  refine pl_val (.bool r20.1) (y_move rfl) ?_
  refine pl_val (.bool (!(r33.1 == r20.1))) (y_bneq Try.underlying4 rfl rfl) ?_
  refine pl_val (.bool (!(r33.1 == r20.1))) (y_move rfl) ?_
  rcases Bool.eq_false_or_eq_true ((!(r33.1 == r20.1))) with a8 | a8
  ·skip
   refine pl_not (tg := 56) (by kernel_rfl) (congrArg Value.bool a8) ?_
   refine pl_not (tg := 56) (by kernel_rfl) (congrArg Value.bool a8) ?_
   refine pl_not (tg := 56) (by kernel_rfl) (congrArg Value.bool a8) ?_
   refine pl_val (.bool ((!(r33.1 == r20.1)) || (!(r33.2 == r20.2)))) (y_pick_t (congrArg Value.bool a8) (congrArg Value.bool (by rw [a8]; rfl))) ?_
   refine c_nil ?_
   exact ⟨_, fr_ovl 76 ⟨rfl, rfl, rfl, rfl, rfl, rfl, rfl, rfl, trivial⟩, hMid⟩
  refine pl_yes (.bool r33.2) (tg := 56) (by kernel_rfl) (congrArg Value.bool a8) (y_move rfl) ?_
  refine pl_yes (.bool r20.2) (tg := 56) (by kernel_rfl) (congrArg Value.bool a8) (y_move rfl) ?_
  refine pl_yes (.bool (!(r33.2 == r20.2))) (tg := 56) (by kernel_rfl) (congrArg Value.bool a8) (y_bneq Try.underlying4 rfl rfl) ?_
  refine pl_val (.bool ((!(r33.1 == r20.1)) || (!(r33.2 == r20.2)))) (y_pick_f (congrArg Value.bool a8) (congrArg Value.bool (by rw [a8]; rfl))) ?_
  refine c_nil ?_
  exact ⟨_, fr_ovl 76 ⟨rfl, rfl, rfl, rfl, rfl, rfl, rfl, rfl, trivial⟩, hMid⟩
 rintro m0 e3 ⟨σ, rfl, b3⟩
 have h0 := h0.ext b3
 have h1 := h1.ext b3
 have h2 := h2.ext b3
 have a0 := a0.cn b3
 have a1 := a1.ext b3
 have a2 := a2.cn b3
 have a4 := a4.ext b3
 have a3 := a3.ext b3
 have hC := hC.ext b3
 have hO := hO.ext b3
 rcases bif_some hs with ⟨f1, hs⟩ | ⟨f1, hs⟩
 ·refine c_condT (congrArg Value.bool f1) ?_
  refine c_sr ?_
  refine pl_val (.bool false) (y_assign rfl) ?_
  refine c_nil ?_
  refine wp_ret ?_
  cases hs
  exact ⟨_, fr_ovl 76 ⟨rfl, trivial⟩, hC⟩
 refine c_condF (congrArg Value.bool f1) ?_
 refine wp_skip ?_
 refine c_seq ?_
 refine c_seq ?_
 refine x_start [] Mx rfl ?_
 have a9 := Chg.drew e3
 generalize World.drew e3 = j1 at a9 ⊢
 have h0 := h0.ext a9
 have h1 := h1.ext a9
 have h2 := h2.ext a9
 have a0 := a0.cn a9
 have a1 := a1.ext a9
 have a2 := a2.cn a9
 have a4 := a4.ext a9
 have a3 := a3.ext a9
 have hC := hC.ext a9
 have hO := hO.ext a9
 have hS := Chg.refl [] j1
 refine x_l 0 (.agg #[(.int .i64 r22.1), (.slice c7 c8 c9)]) rfl (by kernel_rfl)  (fun w' hw' => y_load rfl ((box_load Ag35 Sz35 a2 [] [(.int .i64 r22.1), (.slice c7 c8 c9)] [] rfl rfl (fun h => nomatch h)) w' hw')) hS ?_
 refine x_l 1 (.agg #[(.int .i64 aA.1), (.slice pa0 pn0 pc0)]) rfl (by kernel_rfl)  (fun w' hw' => y_load rfl ((box_load Ag24 Sz24 a0 [] [(.int .i64 aA.1), (.slice pa0 pn0 pc0)] [] rfl rfl (fun h => nomatch h)) w' hw')) hS ?_
 refine x_one (i := 2) (by kernel_rfl) ?_
 obtain ⟨r47, j2, hs⟩ := bind_some hs
 refine xk_call (b := false) rfl  Bd11 rfl (c_laws_toAlgebra (M := M) (aA.1, aA.2) h0 hO.fut j2) rfl (by rintro _ _ _ ⟨j3, j4, j5, e4, rfl, a6, b8, g3⟩; exact hS.ext a6) ?_
 rintro _ m1 ⟨j3, j4, j5, e4, rfl, a6, b8, g3⟩
 have h0 := h0.ext a6
 have h1 := h1.ext a6
 have h2 := h2.ext a6
 have a0 := a0.cn a6
 have a1 := a1.ext a6
 have a2 := a2.cn a6
 have a4 := a4.ext a6
 have a3 := a3.ext a6
 have hC := hC.ext a6
 have hO := Own.join0 hO a6 g3
 have hO := hO.perm (R := e4 ++ (c1 ++ (d1 ++ (d2 ++ (([c2]) ++ (([b1]) ++ ([]))))))) (by simp)
 have hS := hS.ext a6
 refine x_one (i := 3) (by kernel_rfl) ?_
 have hO := hO.fr1
 obtain ⟨r50, j6, hs⟩ := bind_some hs
 refine xk_call (b := false) rfl  Bd15 rfl (c_laws_eqAlgebra (M := (Less (Less M c1) e4)) (r22.1, r22.2) (r47.1, r47.2) ((((Frz.os (Frz.pr Frz.int (Frz.os Frz.int)))).val a1 Less.sub Less.not).sub Less.sub) (((Frz.os (Frz.pr Frz.int (Frz.os Frz.int)))).val (b8.sub Less.sub) Less.sub Less.not) (hO.less).less.fut j6) rfl (by rintro _ _ _ ⟨rfl, a5⟩; exact hS.ext a5) ?_
 rintro _ m2 ⟨rfl, a5⟩
 have h0 := h0.ext a5
 have h1 := h1.ext a5
 have h2 := h2.ext a5
 have a0 := a0.cn a5
 have a1 := a1.ext a5
 have a2 := a2.cn a5
 have a4 := a4.ext a5
 have a3 := a3.ext a5
 have b8 := b8.ext a5
 have hC := hC.ext a5
 have hO := hO.ext a5
 have hS := hS.ext a5
 refine x_p 4 (.bool (!r50)) rfl (by kernel_rfl)  (fun _ => y_not rfl) (fun _ => hS) ?_
 refine x_end (by kernel_rfl) ?_
 clear hS
 rcases bif_some hs with ⟨f2, hs⟩ | ⟨f2, hs⟩
 ·refine c_condT (congrArg Value.bool f2) ?_
  refine c_sr ?_
  refine pl_val (.bool false) (y_assign rfl) ?_
  refine c_nil ?_
  have hO := hO.drop
  have hO := hO.drop
  have hO := hO.fr2
  have hO := hO.drop
  have hO := hO.fr2
  have hO := hO.drop
  refine wp_ret ?_
  cases hs
  exact ⟨_, fr_ovl 76 ⟨rfl, trivial⟩, hC⟩
 refine c_condF (congrArg Value.bool f2) ?_
 refine wp_skip ?_
 refine c_seq ?_
 refine c_sr ?_
 refine pl_val (.slice d7 d8 d9) (y_move rfl) ?_
 refine pl_val (.slice pa1 pn1 pc1) (y_move rfl) ?_
 obtain ⟨r53, j7, hs⟩ := bind_some hs
 refine pl_call Bd20 rfl (c_laws_toIntS (M := M) aS h1 hO.fut j7) ?_
 rintro _ m3 ⟨m4, m5, m6, g4, rfl, b0, f3, j8⟩
 have h0 := h0.ext b0
 have h1 := h1.ext b0
 have h2 := h2.ext b0
 have a0 := a0.cn b0
 have a1 := a1.ext b0
 have a2 := a2.cn b0
 have a4 := a4.ext b0
 have a3 := a3.ext b0
 have b8 := b8.ext b0
 have hC := hC.ext b0
 have hO := Own.join0 hO b0 j8
 have hO := hO.perm (R := g4 ++ (c1 ++ (e4 ++ (d1 ++ (d2 ++ (([c2]) ++ (([b1]) ++ ([])))))))) (by simp)
 have hO := hO.fr3
 obtain ⟨r56, j9, hs⟩ := bind_some hs
 refine pl_call Bd22 rfl (c_laws_eqIntS (M := (Less (Less M d1) g4)) r27 r53 ((((Frz.os Frz.int)).val a4 Less.sub Less.not).sub Less.sub) (((Frz.os Frz.int)).val (f3.sub Less.sub) Less.sub Less.not) (hO.less).less.fut j9) ?_
 rintro _ m7 ⟨rfl, a7⟩
 have h0 := h0.ext a7
 have h1 := h1.ext a7
 have h2 := h2.ext a7
 have a0 := a0.cn a7
 have a1 := a1.ext a7
 have a2 := a2.cn a7
 have a4 := a4.ext a7
 have a3 := a3.ext a7
 have b8 := b8.ext a7
 have f3 := f3.ext a7
 have hC := hC.ext a7
 have hO := hO.ext a7
 refine pl_val (.bool (!r56)) (y_not rfl) ?_
 refine c_nil ?_
 have hO := hO.drop
 have hO := hO.drop
 have hO := hO.drop
 have hO := hO.drop
 have hO := hO.fr1
 have hO := hO.drop
 have hO := hO.fr1
 have hO := hO.drop
 rcases bif_some hs with ⟨f4, hs⟩ | ⟨f4, hs⟩
 ·refine c_condT (congrArg Value.bool f4) ?_
  refine c_sr ?_
  refine pl_val (.bool false) (y_assign rfl) ?_
  refine c_nil ?_
  refine wp_ret ?_
  cases hs
  exact ⟨_, fr_ovl 76 ⟨rfl, trivial⟩, hC⟩
 refine c_condF (congrArg Value.bool f4) ?_
 refine wp_skip ?_
 refine c_seq ?_
 refine c_sr ?_
 refine pl_val (.slice e0 e1 e2) (y_move rfl) ?_
 refine pl_val (.slice pa2 pn2 pc2) (y_move rfl) ?_
 obtain ⟨r59, k0, hs⟩ := bind_some hs
 refine pl_call Bd20 rfl (c_laws_toIntS (M := M) aT h2 hO.fut k0) ?_
 rintro _ m8 ⟨m9, n0, n1, g5, rfl, e5, f5, k1⟩
 have h2 := h2.ext e5
 have a3 := a3.ext e5
 have hC := hC.ext e5
 have hO := Own.join0 hO e5 k1
 have hO := hO.perm (R := g5 ++ (d2 ++ ([]))) (by simp)
 have hO := hO.fr1
 obtain ⟨r62, k2, hs⟩ := bind_some hs
 refine pl_call Bd22 rfl (c_laws_eqIntS (M := (Less (Less M d2) g5)) r30 r59 ((((Frz.os Frz.int)).val a3 Less.sub Less.not).sub Less.sub) (((Frz.os Frz.int)).val (f5.sub Less.sub) Less.sub Less.not) (hO.less).less.fut k2) ?_
 rintro _ n2 ⟨rfl, d5⟩
 have h2 := h2.ext d5
 have a3 := a3.ext d5
 have f5 := f5.ext d5
 have hC := hC.ext d5
 have hO := hO.ext d5
 refine pl_val (.bool (!r62)) (y_not rfl) ?_
 refine c_nil ?_
 have hO := hO.drop
 have hO := hO.drop
 rcases bif_some hs with ⟨f6, hs⟩ | ⟨f6, hs⟩
 ·refine c_condT (congrArg Value.bool f6) ?_
  refine c_sr ?_
  refine pl_val (.bool false) (y_assign rfl) ?_
  refine c_nil ?_
  refine wp_ret ?_
  cases hs
  exact ⟨_, fr_ovl 76 ⟨rfl, trivial⟩, hC⟩
 refine c_condF (congrArg Value.bool f6) ?_
 refine wp_skip ?_
 refine c_sr ?_
 refine pl_val (.bool true) (y_assign rfl) ?_
 refine c_nil ?_
 refine wp_ret ?_
 cases hs
 exact ⟨_, fr_ovl 76 ⟨rfl, trivial⟩, hC⟩

end Go.Proofs
