/- What functions of the program compute, as plain functions, and that a call gives just that. Conditions: those named in each theorem. -/
import Derived.Test.YtkbacbikbndakaaF3
set_option linter.unusedVariables false
namespace Go.Proofs
open Go.G Go.RowKit
set_option maxRecDepth 100000

def k_impl_termTable (M : Nat → Prop) (w0 : World) (r : (List Int)) (a : Act) (w : World) : Prop :=
  ∃ (σ : Nat → Value) (ra0 : Option Addr) (rn0 rc0 : Nat) (rf0 : List Nat), a = fr 30 (ovl σ [(6, (.slice ra0 rn0 rc0))]) ∧ Chg [] w0 w ∧ (RT.os 3 (RT.int .i64)).val M w (.slice ra0 rn0 rc0) r rf0 ∧ Own (Nw w0 []) (fun _ => True) w (rf0 ++ ([]))
def s_impl_termTable (a_ : Int × (List (Int × (List Int)))) (t : List Int) (k : Int) : Option ((List Int)) :=
  (iter (S := (List Int) × Int) (R := (List Int)) (fun s22 =>
  (s_impl_power a_.1 k).bind fun r33 =>
  (bif (decide (s22.2 < r33)) then (s_impl_argsAt s22.2 k a_.1).bind fun r37 =>
  (s_impl_eval (a_.1, a_.2) t r37).bind fun r40 =>
  (app s22.1 ([r40])).bind fun y44 =>
  some (.nx (y44, w64 (s22.2 + 1))) else some (.br (s22.1, s22.2)))) FU ([], 0)).bind fun o26 => after o26 (fun r_ => some r_) (fun s22 =>
  some s22.1)
set_option maxHeartbeats 4000000 in
theorem c_impl_termTable {M : Nat → Prop} {w : World} {pa0 : Option Addr} {pn0 pc0 : Nat} {pa1 : Option Addr} {pn1 pc1 : Nat} (a_ : Int × (List (Int × (List Int)))) (t : List Int) (k : Int) (h0 : (RT.rs (RT.pr (RT.int .i64) (RT.rs (RT.int .i64)))).val M w (.slice pa0 pn0 pc0) a_.2 ([])) (h1 : (RT.rs (RT.int .i64)).val M w (.slice pa1 pn1 pc1) t ([])) (hM : ∀ g, w.heap.size ≤ g → M g) {r : (List Int)} (hs : s_impl_termTable a_ t k = some r) :
    Gives Try.prog 92 [(.agg #[(.int .i64 a_.1), (.slice pa0 pn0 pc0)]), (.slice pa1 pn1 pc1), (.int .i64 k)] w (fun v w' => ∃ (ra0 : Option Addr) (rn0 rc0 : Nat) (rf0 : List Nat), v = (.slice ra0 rn0 rc0) ∧ Chg [] w w' ∧ (RT.os 3 (RT.int .i64)).val M w' (.slice ra0 rn0 rc0) r rf0 ∧ Own (Nw w []) (fun _ => True) w' (rf0 ++ ([]))) := by
 refine calls_fr Try.func92 rfl Try.ntmps92 (Nat.le_of_ble_eq_true rfl) ?_
 have hO := Own.start (N := Nw w []) hM Nw.fut
 have hC := Chg.refl [] w
 unfold s_impl_termTable at hs
 refine wp_mono (Q := KPost (k_impl_termTable M w r)) ?_ (fun e a e2 h => ?_)
 rotate_left
 ·cases e
  case ret =>
   obtain ⟨σ, ra0, rn0, rc0, rf0, rfl, hrest⟩ := h
   exact ret1x Try.results92 (res_tmp rfl) ⟨ra0, rn0, rc0, rf0, rfl, hrest⟩
  all_goals exact (h : False).elim
 refine c_sr ?_
 obtain ⟨d2, a4, e3, d3, c1, a0⟩ := new_block w [(.int .i64 a_.1), (.slice pa0 pn0 pc0)] 35
 refine pl_val (w' := d2) (.pointer (some ⟨a4, 0, none⟩)) (y_box rfl (by rw [e3, d3]; kernel_rfl)) ?_
 have h0 := h0.ext c1
 have h1 := h1.ext c1
 have hC := hC.ext c1
 have hO := hO.new1 c1 d3 a0.lt
 refine pl_val (.slice none 0 0) (y_assign rfl) ?_
 refine c_nil ?_
 refine c_sr ?_
 obtain ⟨d4, a9, e4, d5, b5, d6⟩ := new_block d2 [] 3
 refine pl_val (w' := d4) (.slice (some ⟨a9, 0, none⟩) 0 0) (y_bslice rfl (by rw [e4, d5]; kernel_rfl)) ?_
 have h0 := h0.ext b5
 have h1 := h1.ext b5
 have a0 := a0.cn b5
 have hC := hC.ext b5
 have hO := hO.new1 b5 d5 d6.lt
 have c3 := os_of_box (r := (RT.int .i64)) (M := M) (css := []) (fps := []) (xs := ([] : List Int)) d6 trivial (Nat.zero_le _) (List.nodup_cons.2 ⟨(fun h => nomatch h), List.nodup_nil⟩)
 have c3 : (RT.os 3 (RT.int .i64)).val M d4 (.slice (some ⟨a9, 0, none⟩) 0 0) [] [a9] := c3
 refine pl_val (.slice (some ⟨a9, 0, none⟩) 0 0) (y_assign rfl) ?_
 refine c_nil ?_
 refine c_seq ?_
 refine c_sr ?_
 refine pl_val (.int .i64 0) (y_assign rfl) ?_
 refine c_nil ?_
 obtain ⟨o26, e5, hs⟩ := bind_some hs
 refine wp_block ?_
 refine wp_iter (id := 0) (I := fun s22 a a1 => ∃ (σ : Nat → Value) (b6 : Option Addr) (b7 : Nat) (b8 : Nat) (b9 : List Nat), a = fr 30 (ovl σ [(1, (.slice pa1 pn1 pc1)), (2, (.int .i64 k)), (3, (.pointer (some ⟨a4, 0, none⟩))), (7, (.slice b6 b7 b8)), (8, (.int .i64 s22.2))]) ∧ Chg [] w a1 ∧ Own (Nw w []) M a1 (b9 ++ (([a4]) ++ [])) ∧ (RT.rs (RT.pr (RT.int .i64) (RT.rs (RT.int .i64)))).val M a1 (.slice pa0 pn0 pc0) a_.2 ([]) ∧ (RT.rs (RT.int .i64)).val M a1 (.slice pa1 pn1 pc1) t ([]) ∧ BoxV a1 a4 35 [(.int .i64 a_.1), (.slice pa0 pn0 pc0)] ∧ (RT.os 3 (RT.int .i64)).val M a1 (.slice b6 b7 b8) s22.1 b9) (J := fun s22 a a1 => ∃ (σ : Nat → Value) (b0 : Option Addr) (b1 : Nat) (b2 : Nat) (c2 : List Nat), a = fr 30 (ovl σ [(7, (.slice b0 b1 b2))]) ∧ Chg [] w a1 ∧ Own (Nw w []) M a1 (c2 ++ (([a4]) ++ [])) ∧ (RT.rs (RT.pr (RT.int .i64) (RT.rs (RT.int .i64)))).val M a1 (.slice pa0 pn0 pc0) a_.2 ([]) ∧ (RT.rs (RT.int .i64)).val M a1 (.slice pa1 pn1 pc1) t ([]) ∧ BoxV a1 a4 35 [(.int .i64 a_.1), (.slice pa0 pn0 pc0)] ∧ (RT.os 3 (RT.int .i64)).val M a1 (.slice b0 b1 b2) s22.1 c2) (K := (k_impl_termTable M w)) ?_ FU ([], 0) o26 _ _ ?_ e5 ?_
 ·rintro s22 o26 a a1 ⟨σ, b6, b7, b8, b9, rfl, hC, hO, h0, h1, a0, a2⟩ hs
  refine c_seq ?_
  refine c_sr ?_
  refine pl_val (.int .i64 s22.2) (y_move rfl) ?_
  refine pl_val (.pointer (some ⟨a4, 0, none⟩)) (y_faddr rfl Fa35x0) ?_
  refine pl_val (.int .i64 a_.1) (y_load rfl ((box_load Ag3 Sz3 a0 [] [(.int .i64 a_.1)] [(.slice pa0 pn0 pc0)] rfl rfl (fun _ => rfl)) _ (Chg.refl _ _))) ?_
  refine pl_val (.int .i64 k) (y_move rfl) ?_
  obtain ⟨r33, e6, hs⟩ := bind_some hs
  refine pl_call Bd88 rfl (c_impl_power (M := M) a_.1 k  hO.fut e6) ?_
  rintro _ d7 ⟨rfl, b3⟩
  have h0 := h0.ext b3
  have h1 := h1.ext b3
  have a0 := a0.cn b3
  have a2 := a2.ext b3
  have hC := hC.ext b3
  have hO := hO.ext b3
  refine pl_val (.bool (decide (s22.2 < r33))) (y_lss rfl rfl) ?_
  refine c_nil ?_
  rcases bif_some hs with ⟨c4, hs⟩ | ⟨c4, hs⟩
  ·refine c_condT (congrArg Value.bool c4) ?_
   refine wp_skip ?_
   refine c_seq ?_
   refine wp_block ?_
   refine x_start [10] Mx rfl ?_
   have a8 := Chg.drew d7
   generalize World.drew d7 = e7 at a8 ⊢
   have h0 := h0.ext a8
   have h1 := h1.ext a8
   have a0 := a0.cn a8
   have a2 := a2.ext a8
   have hC := hC.ext a8
   have hO := hO.ext a8
   have hS := Chg.refl [] e7
   refine x_p 0 (.slice b6 b7 b8) rfl (by kernel_rfl)  (fun _ => y_move rfl) (fun _ => hS) ?_
   refine x_l 1 (.agg #[(.int .i64 a_.1), (.slice pa0 pn0 pc0)]) rfl (by kernel_rfl)  (fun w' hw' => y_load rfl ((box_load Ag35 Sz35 a0 [] [(.int .i64 a_.1), (.slice pa0 pn0 pc0)] [] rfl rfl (fun h => nomatch h)) w' hw')) hS ?_
   refine x_p 2 (.slice pa1 pn1 pc1) rfl (by kernel_rfl)  (fun _ => y_move rfl) (fun _ => hS) ?_
   refine x_p 3 (.int .i64 s22.2) rfl (by kernel_rfl)  (fun _ => y_move rfl) (fun _ => hS) ?_
   refine x_p 4 (.int .i64 k) rfl (by kernel_rfl)  (fun _ => y_move rfl) (fun _ => hS) ?_
   refine x_p 5 (.pointer (some ⟨a4, 0, none⟩)) rfl (by kernel_rfl)  (fun _ => y_faddr rfl Fa35x0) (fun _ => hS) ?_
   refine x_l 6 (.int .i64 a_.1) rfl (by kernel_rfl)  (fun w' hw' => y_load rfl ((box_load Ag3 Sz3 a0 [] [(.int .i64 a_.1)] [(.slice pa0 pn0 pc0)] rfl rfl (fun _ => rfl)) w' hw')) hS ?_
   refine x_one (i := 7) (by kernel_rfl) ?_
   obtain ⟨r37, e8, hs⟩ := bind_some hs
   refine xk_call (b := false) rfl  Bd89 rfl (c_impl_argsAt (M := M) s22.2 k a_.1  hO.fut e8) rfl (by rintro _ _ _ ⟨e9, f0, f1, c5, rfl, a5, a7, d8⟩; exact hS.ext a5) ?_
   rintro _ g2 ⟨e9, f0, f1, c5, rfl, a5, a7, d8⟩
   have h0 := h0.ext a5
   have h1 := h1.ext a5
   have a0 := a0.cn a5
   have a2 := a2.ext a5
   have hC := hC.ext a5
   have hO := Own.join0 hO a5 d8
   have hO := hO.perm (R := c5 ++ (b9 ++ (([a4]) ++ ([])))) (by simp)
   have hS := hS.ext a5
   refine x_one (i := 8) (by kernel_rfl) ?_
   obtain ⟨r40, f2, hs⟩ := bind_some hs
   refine xk_call (b := false) rfl  Bd111 rfl (c_impl_eval (M := (Less M c5)) (a_.1, a_.2) t r37 (h0.sub Less.sub) (h1.sub Less.sub) (((Frz.os Frz.int)).val a7 Less.sub Less.not) hO.less.fut f2) rfl (by rintro _ _ _ ⟨rfl, a3⟩; exact hS.ext a3) ?_
   rintro _ f3 ⟨rfl, a3⟩
   have h0 := h0.ext a3
   have h1 := h1.ext a3
   have a0 := a0.cn a3
   have a2 := a2.ext a3
   have a7 := a7.ext a3
   have hC := hC.ext a3
   have hO := hO.ext a3
   have hS := hS.ext a3
   refine x_one (i := 9) (by kernel_rfl) ?_
   obtain ⟨d9, c6, f4, e0, a6, e1⟩ := new_block f3 [(.int .i64 r40)] 3
   refine xk_val (w' := d9) (b := false) (.slice (some ⟨c6, 0, none⟩) 1 1) rfl  (y_bslice rfl (by rw [f4, e0]; kernel_rfl)) rfl (fun _ => hS.ext a6) ?_
   have h0 := h0.ext a6
   have h1 := h1.ext a6
   have a0 := a0.cn a6
   have a2 := a2.ext a6
   have a7 := a7.ext a6
   have hC := hC.ext a6
   have hO := hO.new1 a6 e0 e1.lt
   have c7 := os_of_box (r := (RT.int .i64)) (M := M) (css := [[(.int .i64 r40)]]) (fps := [([] : List Nat)]) (xs := ([r40] : List Int)) e1 ⟨⟨rfl, rfl⟩, trivial⟩ (Nat.le_of_ble_eq_true rfl) (List.nodup_cons.2 ⟨(fun h => nomatch h), List.nodup_nil⟩)
   have c7 : (RT.os 3 (RT.int .i64)).val M d9 (.slice (some ⟨c6, 0, none⟩) 1 1) [r40] [c6] := c7
   have hS := hS.ext a6
   refine x_one (i := 10) (by kernel_rfl) ?_
   obtain ⟨y44, f5, hs⟩ := bind_some hs
   have hO := hO.fr2
   obtain ⟨c8, c9, d0, f6, f7, f8, b4, f9, d1⟩ := app_os Rw43 f5 a2 c7 hO.inM (fun g hg hq => hO.apart g hq (mem_l hg))
   have c0 := os_block a2
   refine xk_val (w' := f6) (b := true) (.slice c8 c9 d0) rfl  (y_append rfl rfl (f8 _)) rfl (fun h => nomatch h) ?_
   have hO := hO.fr1
   have hO := hO.fr1
   have h0 := h0.mt b4 hO c0
   have h1 := h1.mt b4 hO c0
   have a0 := a0.ap b4 hO c0 (mem_r (mem_r (mem_l (List.mem_singleton.2 rfl))))
   have a7 := a7.ma b4 hO c0 (fun _ e => (mem_r (mem_l (e))))
   have hC := hC.st b4 hO c0
   have hO := hO.eat b4 f9 (os_nodup d1) d1.fpl
   refine x_p 11 (.slice c8 c9 d0) rfl (by kernel_rfl)  (fun _ => y_assign rfl) (fun h => nomatch h) ?_
   refine x_end (by kernel_rfl) ?_
   clear hS
   refine c_region ?_
   refine pl_val (.int .i64 s22.2) (y_move rfl) ?_
   refine pl_val (.int .i64 (w64 (s22.2 + 1))) (y_add rfl rfl) ?_
   refine pl_val (.int .i64 (w64 (s22.2 + 1))) (y_assign rfl) ?_
   refine c_nil ?_
   cases hs
   have hO := hO.fr1
   have hO := hO.drop
   have hO := hO.fr1
   have hO := hO.fr1
   exact ⟨_, c8, c9, d0, f7, fr_ovl 30 ⟨rfl, rfl, rfl, rfl, rfl, trivial⟩, hC, hO, h0, h1, a0, d1⟩
  refine c_condF (congrArg Value.bool c4) ?_
  refine wp_exit ?_
  cases hs
  have hO := hO.fr1
  have hO := hO.fr1
  exact ⟨rfl, _, b6, b7, b8, b9, fr_ovl 30 ⟨rfl, trivial⟩, hC, hO, h0, h1, a0, a2⟩
 ·skip
  have hO := hO.fr1
  have hO := hO.fr1
  exact ⟨_, (some ⟨a9, 0, none⟩), 0, 0, ([a9]), fr_ovl 30 ⟨rfl, rfl, rfl, rfl, rfl, trivial⟩, hC, hO, h0, h1, a0, c3⟩
 cases o26 with
 | nx _ => exact True.intro
 | rt r_ =>
  have hs := after_rt hs
  intro g0 e2 hK
  cases hs
  exact hK
 | br s22 =>
  have hs := after_br hs
  rintro g0 a1 ⟨σ, b0, b1, b2, c2, rfl, hC, hO, h0, h1, a0, g1⟩
  refine c_sr ?_
  refine pl_val (.slice b0 b1 b2) (y_move rfl) ?_
  refine pl_val (.slice b0 b1 b2) (y_assign rfl) ?_
  refine c_nil ?_
  refine wp_ret ?_
  cases hs
  have hO := hO.fr1
  have hO := hO.drop
  exact ⟨_, b0, b1, b2, c2, fr_ovl 30 ⟨rfl, trivial⟩, hC, g1, hO.top⟩

theorem Ag76 : AggT Try.prog 76 false := fun _ => by kernel_rfl

theorem Bd90 : Bodied Try.prog 90 := bodied Try.func90 (by kernel_rfl) rfl

theorem Fa108x1 : ∀ (a : Addr) (w : World), (Instr.fieldAt 108 (.pointer (some a)) 1).run Try.prog w = .ok (.pointer (some (a.add 1))) w := fun _ _ => by kernel_rfl

theorem Bd91 : Bodied Try.prog 91 := bodied Try.func91 (by kernel_rfl) rfl

theorem Bd92 : Bodied Try.prog 92 := bodied Try.func92 (by kernel_rfl) rfl

def k_impl_free__element (M : Nat → Prop) (w0 : World) (r : Int × Bool) (a : Act) (w : World) : Prop :=
  ∃ (σ : Nat → Value) , a = fr 47 (ovl σ [(4, (.int .i64 r.1)), (5, (.bool r.2))]) ∧ Chg [] w0 w
def s_impl_free__element (t : List Int) (b0 : Int × (List (List Int))) (b1 : Int × (List (Int × (List Int))) × Int × (List (List Int)) × (List (ByteArray × Int))) : Option (Int × Bool) :=
  ((s_impl_isTerm (b1.1, b1.2.1) t).bind fun r12 =>
  (bif (!r12) then some true else (s_impl_hasValues t b0.1).bind fun r15 =>
  some (!r15))).bind fun s8 =>
  (bif s8 then some (0, false) else (s_impl_termTable (b1.1, b1.2.1) t b0.1).bind fun r19 =>
  (s_impl_keyOf r19).bind fun r22 =>
  some (((mget b1.2.2.2.2 r22).getD 0), true))
set_option maxHeartbeats 4000000 in
theorem c_impl_free__element {M : Nat → Prop} {w : World} {vg0 : Nat} {vg1 : Nat} {pa0 : Option Addr} {pn0 pc0 : Nat} {va0x2 : Option Addr} {vn0x2 vc0x2 : Nat} {va1x1 : Option Addr} {vn1x1 vc1x1 : Nat} {va1x3 : Option Addr} {vn1x3 vc1x3 : Nat} {vn1x4 : Nat} (t : List Int) (b0 : Int × (List (List Int))) (b1 : Int × (List (Int × (List Int))) × Int × (List (List Int)) × (List (ByteArray × Int))) (h0 : (RT.rs (RT.int .i64)).val M w (.slice pa0 pn0 pc0) t ([])) (hb0 : RBox M w vg0 108 [(.pointer (some ⟨vg1, 0, none⟩)), (.int .i64 b0.1), (.slice va0x2 vn0x2 vc0x2)]) (hl0x2 : (RT.rs (RT.rs (RT.int .i64))).val M w (.slice va0x2 vn0x2 vc0x2) b0.2 ([])) (hb1 : RBox M w vg1 81 [(.int .i64 b1.1), (.slice va1x1 vn1x1 vc1x1), (.int .i64 b1.2.2.1), (.slice va1x3 vn1x3 vc1x3), (.map (some vn1x4))]) (hl1x1 : (RT.rs (RT.pr (RT.int .i64) (RT.rs (RT.int .i64)))).val M w (.slice va1x1 vn1x1 vc1x1) b1.2.1 ([])) (hl1x3 : (RT.rs (RT.rs (RT.int .i64))).val M w (.slice va1x3 vn1x3 vc1x3) b1.2.2.2.1 ([])) (hl1x4 : (RT.mr (Value.int .i64)).val M w (.map (some vn1x4)) b1.2.2.2.2 ([])) (hM : ∀ g, w.heap.size ≤ g → M g) {r : Int × Bool} (hs : s_impl_free__element t b0 b1 = some r) :
    Gives Try.prog 49 [(.pointer (some ⟨vg0, 0, none⟩)), (.slice pa0 pn0 pc0)] w (fun v w' => v = (.tuple #[(.int .i64 r.1), (.bool r.2)]) ∧ Chg [] w w') := by
 refine calls_fr Try.func49 rfl Try.ntmps49 (Nat.le_of_ble_eq_true rfl) ?_
 have hO := Own.start (N := Nw w []) hM Nw.fut
 have hC := Chg.refl [] w
 unfold s_impl_free__element at hs
 refine wp_mono (Q := KPost (k_impl_free__element M w r)) ?_ (fun e a c3 h => ?_)
 rotate_left
 ·cases e
  case ret =>
   obtain ⟨σ, rfl, hrest⟩ := h
   exact ret2x Try.results49 (res_tmp rfl) (res_tmp rfl) ⟨rfl, hrest⟩
  all_goals exact (h : False).elim
 refine c_sr ?_
 refine pl_val (.int .i64 0) (y_assign rfl) ?_
 refine pl_val (.bool false) (y_assign rfl) ?_
 refine c_nil ?_
 refine c_seq ?_
 refine c_seq ?_
 obtain ⟨s8, b4, hs⟩ := bind_some hs
 refine c_mid (I := fun a a7 => ∃ (σ : Nat → Value), a = fr 47 (ovl σ [(0, (.pointer (some ⟨vg0, 0, none⟩))), (1, (.slice pa0 pn0 pc0)), (4, (.int .i64 0)), (5, (.bool false)), (24, (.bool s8))]) ∧ Chg [] w a7) ?_ ?_
 ·replace hs := b4
  have hMid := Chg.refl [] w
  refine c_region ?_
  refine pl_val (.pointer (some ⟨vg0, 0, none⟩)) (y_move rfl) ?_
  refine pl_val (.pointer (some ⟨vg0, 0, none⟩)) (y_nilc rfl) ?_
  refine pl_val (.pointer (some ⟨vg0, 0, none⟩)) (y_faddr rfl Fa108x0) ?_
  refine pl_val (.pointer (some ⟨vg1, 0, none⟩)) (y_load rfl ((box_load Ag76 Sz76 hb0.1 [] [(.pointer (some ⟨vg1, 0, none⟩))] [(.int .i64 b0.1), (.slice va0x2 vn0x2 vc0x2)] rfl rfl (fun _ => rfl)) _ (Chg.refl _ _))) ?_
  refine pl_val (.pointer (some ⟨vg1, 0, none⟩)) (y_nilc rfl) ?_
  refine pl_val (.pointer (some ⟨vg1, 0, none⟩)) (y_faddr rfl Fa81x0) ?_
  refine pl_val (.agg #[(.int .i64 b1.1), (.slice va1x1 vn1x1 vc1x1)]) (y_load rfl ((box_load Ag35 Sz35 hb1.1 [] [(.int .i64 b1.1), (.slice va1x1 vn1x1 vc1x1)] [(.int .i64 b1.2.2.1), (.slice va1x3 vn1x3 vc1x3), (.map (some vn1x4))] rfl rfl (fun h => nomatch h)) _ (Chg.refl _ _))) ?_
  refine pl_val (.slice pa0 pn0 pc0) (y_move rfl) ?_
  obtain ⟨r12, b5, hs⟩ := bind_some hs
  refine pl_call Bd90 rfl (c_impl_isTerm (M := M) (b1.1, b1.2.1) t hl1x1 h0 hO.fut b5) ?_
  rintro _ c4 ⟨rfl, a3⟩
  have h0 := h0.ext a3
  have hl0x2 := hl0x2.ext a3
  have hb0 := hb0.ext a3
  have hl1x1 := hl1x1.ext a3
  have hl1x3 := hl1x3.ext a3
  have hl1x4 := hl1x4.ext a3
  have hb1 := hb1.ext a3
  have hMid := hMid.ext a3
  have hC := hC.ext a3
  have hO := hO.ext a3
  refine pl_val (.bool (!r12)) (y_not rfl) ?_
  refine pl_val (.bool (!r12)) (y_move rfl) ?_
  rcases bif_some hs with ⟨a0, hs⟩ | ⟨a0, hs⟩
  ·skip
   refine pl_not (tg := 16) (by kernel_rfl) (congrArg Value.bool a0) ?_
   refine pl_not (tg := 16) (by kernel_rfl) (congrArg Value.bool a0) ?_
   refine pl_not (tg := 16) (by kernel_rfl) (congrArg Value.bool a0) ?_
   refine pl_not (tg := 16) (by kernel_rfl) (congrArg Value.bool a0) ?_
   refine pl_not (tg := 16) (by kernel_rfl) (congrArg Value.bool a0) ?_
   refine pl_not (tg := 16) (by kernel_rfl) (congrArg Value.bool a0) ?_
   refine pl_not (tg := 16) (by kernel_rfl) (congrArg Value.bool a0) ?_
   refine pl_val (.bool true) (y_pick_t (congrArg Value.bool a0) rfl) ?_
   refine c_nil ?_
   cases hs
   exact ⟨_, fr_ovl 47 ⟨rfl, rfl, rfl, rfl, rfl, trivial⟩, hMid⟩
  refine pl_yes (.slice pa0 pn0 pc0) (tg := 16) (by kernel_rfl) (congrArg Value.bool a0) (y_move rfl) ?_
  refine pl_yes (.pointer (some ⟨vg0, 0, none⟩)) (tg := 16) (by kernel_rfl) (congrArg Value.bool a0) (y_move rfl) ?_
  refine pl_yes (.pointer (some ⟨vg0, 0, none⟩)) (tg := 16) (by kernel_rfl) (congrArg Value.bool a0) (y_nilc rfl) ?_
  refine pl_yes (.pointer (some ⟨vg0, 1, none⟩)) (tg := 16) (by kernel_rfl) (congrArg Value.bool a0) (y_faddr rfl Fa108x1) ?_
  refine pl_yes (.int .i64 b0.1) (tg := 16) (by kernel_rfl) (congrArg Value.bool a0) (y_load rfl ((box_load Ag3 Sz3 hb0.1 [(.pointer (some ⟨vg1, 0, none⟩))] [(.int .i64 b0.1)] [(.slice va0x2 vn0x2 vc0x2)] rfl rfl (fun _ => rfl)) _ (Chg.refl _ _))) ?_
  obtain ⟨r15, b6, hs⟩ := bind_some hs
  refine pl_cally (tg := 16) (by kernel_rfl) (congrArg Value.bool a0) Bd91 rfl (c_impl_hasValues (M := M) t b0.1 h0 hO.fut b6) ?_
  rintro _ c5 ⟨rfl, a4⟩
  have h0 := h0.ext a4
  have hl0x2 := hl0x2.ext a4
  have hb0 := hb0.ext a4
  have hl1x1 := hl1x1.ext a4
  have hl1x3 := hl1x3.ext a4
  have hl1x4 := hl1x4.ext a4
  have hb1 := hb1.ext a4
  have hMid := hMid.ext a4
  have hC := hC.ext a4
  have hO := hO.ext a4
  refine pl_yes (.bool (!r15)) (tg := 16) (by kernel_rfl) (congrArg Value.bool a0) (y_not rfl) ?_
  refine pl_val (.bool (!r15)) (y_pick_f (congrArg Value.bool a0) rfl) ?_
  refine c_nil ?_
  cases hs
  exact ⟨_, fr_ovl 47 ⟨rfl, rfl, rfl, rfl, rfl, trivial⟩, hMid⟩
 rintro c6 a7 ⟨σ, rfl, a6⟩
 have h0 := h0.ext a6
 have hl0x2 := hl0x2.ext a6
 have hb0 := hb0.ext a6
 have hl1x1 := hl1x1.ext a6
 have hl1x3 := hl1x3.ext a6
 have hl1x4 := hl1x4.ext a6
 have hb1 := hb1.ext a6
 have hC := hC.ext a6
 have hO := hO.ext a6
 rcases bif_some hs with ⟨a9, hs⟩ | ⟨a9, hs⟩
 ·refine c_condT (congrArg Value.bool a9) ?_
  refine c_sr ?_
  refine pl_val (.int .i64 0) (y_assign rfl) ?_
  refine pl_val (.bool false) (y_assign rfl) ?_
  refine c_nil ?_
  refine wp_ret ?_
  cases hs
  exact ⟨_, fr_ovl 47 ⟨rfl, rfl, trivial⟩, hC⟩
 refine c_condF (congrArg Value.bool a9) ?_
 refine wp_skip ?_
 refine c_seq ?_
 refine x_start [] Mx rfl ?_
 have a5 := Chg.drew a7
 generalize World.drew a7 = b7 at a5 ⊢
 have h0 := h0.ext a5
 have hl0x2 := hl0x2.ext a5
 have hb0 := hb0.ext a5
 have hl1x1 := hl1x1.ext a5
 have hl1x3 := hl1x3.ext a5
 have hl1x4 := hl1x4.ext a5
 have hb1 := hb1.ext a5
 have hC := hC.ext a5
 have hO := hO.ext a5
 have hS := Chg.refl [] b7
 refine x_p 0 (.pointer (some ⟨vg0, 0, none⟩)) rfl (by kernel_rfl)  (fun _ => y_move rfl) (fun _ => hS) ?_
 refine x_p 1 (.pointer (some ⟨vg0, 0, none⟩)) rfl (by kernel_rfl)  (fun _ => y_nilc rfl) (fun _ => hS) ?_
 refine x_p 2 (.pointer (some ⟨vg0, 0, none⟩)) rfl (by kernel_rfl)  (fun _ => y_faddr rfl Fa108x0) (fun _ => hS) ?_
 refine x_l 3 (.pointer (some ⟨vg1, 0, none⟩)) rfl (by kernel_rfl)  (fun w' hw' => y_load rfl ((box_load Ag76 Sz76 hb0.1 [] [(.pointer (some ⟨vg1, 0, none⟩))] [(.int .i64 b0.1), (.slice va0x2 vn0x2 vc0x2)] rfl rfl (fun _ => rfl)) w' hw')) hS ?_
 refine x_p 4 (.pointer (some ⟨vg1, 0, none⟩)) rfl (by kernel_rfl)  (fun _ => y_nilc rfl) (fun _ => hS) ?_
 refine x_p 5 (.pointer (some ⟨vg1, 4, none⟩)) rfl (by kernel_rfl)  (fun _ => y_faddr rfl Fa81x3) (fun _ => hS) ?_
 refine x_l 6 (.map (some vn1x4)) rfl (by kernel_rfl)  (fun w' hw' => y_load rfl ((box_load Ag79 Sz79 hb1.1 [(.int .i64 b1.1), (.slice va1x1 vn1x1 vc1x1), (.int .i64 b1.2.2.1), (.slice va1x3 vn1x3 vc1x3)] [(.map (some vn1x4))] [] rfl rfl (fun _ => rfl)) w' hw')) hS ?_
 refine x_p 7 (.pointer (some ⟨vg0, 0, none⟩)) rfl (by kernel_rfl)  (fun _ => y_move rfl) (fun _ => hS) ?_
 refine x_p 8 (.pointer (some ⟨vg0, 0, none⟩)) rfl (by kernel_rfl)  (fun _ => y_nilc rfl) (fun _ => hS) ?_
 refine x_p 9 (.pointer (some ⟨vg0, 0, none⟩)) rfl (by kernel_rfl)  (fun _ => y_faddr rfl Fa108x0) (fun _ => hS) ?_
 refine x_l 10 (.pointer (some ⟨vg1, 0, none⟩)) rfl (by kernel_rfl)  (fun w' hw' => y_load rfl ((box_load Ag76 Sz76 hb0.1 [] [(.pointer (some ⟨vg1, 0, none⟩))] [(.int .i64 b0.1), (.slice va0x2 vn0x2 vc0x2)] rfl rfl (fun _ => rfl)) w' hw')) hS ?_
 refine x_p 11 (.pointer (some ⟨vg1, 0, none⟩)) rfl (by kernel_rfl)  (fun _ => y_nilc rfl) (fun _ => hS) ?_
 refine x_p 12 (.pointer (some ⟨vg1, 0, none⟩)) rfl (by kernel_rfl)  (fun _ => y_faddr rfl Fa81x0) (fun _ => hS) ?_
 refine x_l 13 (.agg #[(.int .i64 b1.1), (.slice va1x1 vn1x1 vc1x1)]) rfl (by kernel_rfl)  (fun w' hw' => y_load rfl ((box_load Ag35 Sz35 hb1.1 [] [(.int .i64 b1.1), (.slice va1x1 vn1x1 vc1x1)] [(.int .i64 b1.2.2.1), (.slice va1x3 vn1x3 vc1x3), (.map (some vn1x4))] rfl rfl (fun h => nomatch h)) w' hw')) hS ?_
 refine x_p 14 (.slice pa0 pn0 pc0) rfl (by kernel_rfl)  (fun _ => y_move rfl) (fun _ => hS) ?_
 refine x_p 15 (.pointer (some ⟨vg0, 0, none⟩)) rfl (by kernel_rfl)  (fun _ => y_move rfl) (fun _ => hS) ?_
 refine x_p 16 (.pointer (some ⟨vg0, 0, none⟩)) rfl (by kernel_rfl)  (fun _ => y_nilc rfl) (fun _ => hS) ?_
 refine x_p 17 (.pointer (some ⟨vg0, 1, none⟩)) rfl (by kernel_rfl)  (fun _ => y_faddr rfl Fa108x1) (fun _ => hS) ?_
 refine x_l 18 (.int .i64 b0.1) rfl (by kernel_rfl)  (fun w' hw' => y_load rfl ((box_load Ag3 Sz3 hb0.1 [(.pointer (some ⟨vg1, 0, none⟩))] [(.int .i64 b0.1)] [(.slice va0x2 vn0x2 vc0x2)] rfl rfl (fun _ => rfl)) w' hw')) hS ?_
 refine x_one (i := 19) (by kernel_rfl) ?_
 obtain ⟨r19, b8, hs⟩ := bind_some hs
 refine xk_call (b := false) rfl  Bd92 rfl (c_impl_termTable (M := M) (b1.1, b1.2.1) t b0.1 hl1x1 h0 hO.fut b8) rfl (by rintro _ _ _ ⟨b9, c0, c1, b2, rfl, a2, a8, b3⟩; exact hS.ext a2) ?_
 rintro _ c7 ⟨b9, c0, c1, b2, rfl, a2, a8, b3⟩
 have h0 := h0.ext a2
 have hl0x2 := hl0x2.ext a2
 have hb0 := hb0.ext a2
 have hl1x1 := hl1x1.ext a2
 have hl1x3 := hl1x3.ext a2
 have hl1x4 := hl1x4.ext a2
 have hb1 := hb1.ext a2
 have hC := hC.ext a2
 have hO := Own.join0 hO a2 b3
 have hO := hO.perm (R := b2 ++ ([])) (by simp)
 have hS := hS.ext a2
 refine x_one (i := 20) (by kernel_rfl) ?_
 obtain ⟨r22, c2, hs⟩ := bind_some hs
 refine xk_call (b := false) rfl  Bd59 rfl (c_impl_keyOf (M := (Less M b2)) r19 (((Frz.os Frz.int)).val a8 Less.sub Less.not) hO.less.fut c2) rfl (by rintro _ _ _ ⟨rfl, a1⟩; exact hS.ext a1) ?_
 rintro _ c8 ⟨rfl, a1⟩
 have h0 := h0.ext a1
 have hl0x2 := hl0x2.ext a1
 have hb0 := hb0.ext a1
 have hl1x1 := hl1x1.ext a1
 have hl1x3 := hl1x3.ext a1
 have hl1x4 := hl1x4.ext a1
 have hb1 := hb1.ext a1
 have a8 := a8.ext a1
 have hC := hC.ext a1
 have hO := hO.ext a1
 have hS := hS.ext a1
 refine x_one (i := 21) (by kernel_rfl) ?_
 refine xk_val (b := false) (.int .i64 ((mget b1.2.2.2.2 r22).getD 0)) rfl  (y_look (enc := (Value.int .i64)) Try.underlying79 Try.underlying9 Zv3 (mr_at hl1x4) rfl rfl) rfl (fun _ => hS) ?_
 refine x_p 22 (.int .i64 ((mget b1.2.2.2.2 r22).getD 0)) rfl (by kernel_rfl)  (fun _ => y_assign rfl) (fun _ => hS) ?_
 refine x_p 23 (.bool true) rfl (by kernel_rfl)  (fun _ => y_assign rfl) (fun _ => hS) ?_
 refine x_end (by kernel_rfl) ?_
 clear hS
 refine wp_ret ?_
 cases hs
 exact ⟨_, fr_ovl 47 ⟨rfl, rfl, trivial⟩, hC⟩

theorem Bd48 : Bodied Try.prog 48 := bodied Try.func48 (by kernel_rfl) rfl

theorem Bd49 : Bodied Try.prog 49 := bodied Try.func49 (by kernel_rfl) rfl

def k_impl_FreeElementOf (M : Nat → Prop) (w0 : World) (r : Int × Bool) (a : Act) (w : World) : Prop :=
  ∃ (σ : Nat → Value) , a = fr 23 (ovl σ [(6, (.int .i64 r.1)), (7, (.bool r.2))]) ∧ Chg [] w0 w
def s_impl_FreeElementOf (a_ : Int × (List (Int × (List Int)))) (k : Int) (t : List Int) : Option (Int × Bool) :=
  (s_impl_freeOf (a_.1, a_.2) k).bind fun r5 =>
  (bif (!r5.2) then some (0, false) else (r5.1).bind fun p9 =>
  (s_impl_free__element t (p9.2.1, p9.2.2) (p9.1.1.1, p9.1.1.2, p9.1.2.1, p9.1.2.2.1, p9.1.2.2.2)).bind fun r17 =>
  some (r17.1, r17.2))
set_option maxHeartbeats 4000000 in
theorem c_impl_FreeElementOf {M : Nat → Prop} {w : World} {pa0 : Option Addr} {pn0 pc0 : Nat} {pa1 : Option Addr} {pn1 pc1 : Nat} (a_ : Int × (List (Int × (List Int)))) (k : Int) (t : List Int) (h0 : (RT.rs (RT.pr (RT.int .i64) (RT.rs (RT.int .i64)))).val M w (.slice pa0 pn0 pc0) a_.2 ([])) (h1 : (RT.rs (RT.int .i64)).val M w (.slice pa1 pn1 pc1) t ([])) (hM : ∀ g, w.heap.size ≤ g → M g) {r : Int × Bool} (hs : s_impl_FreeElementOf a_ k t = some r) :
    Gives Try.prog 21 [(.agg #[(.int .i64 a_.1), (.slice pa0 pn0 pc0)]), (.int .i64 k), (.slice pa1 pn1 pc1)] w (fun v w' => v = (.tuple #[(.int .i64 r.1), (.bool r.2)]) ∧ Chg [] w w') := by
 refine calls_fr Try.func21 rfl Try.ntmps21 (Nat.le_of_ble_eq_true rfl) ?_
 have hO := Own.start (N := Nw w []) hM Nw.fut
 have hC := Chg.refl [] w
 unfold s_impl_FreeElementOf at hs
 refine wp_mono (Q := KPost (k_impl_FreeElementOf M w r)) ?_ (fun e a f5 h => ?_)
 rotate_left
 ·cases e
  case ret =>
   obtain ⟨σ, rfl, hrest⟩ := h
   exact ret2x Try.results21 (res_tmp rfl) (res_tmp rfl) ⟨rfl, hrest⟩
  all_goals exact (h : False).elim
 refine c_sr ?_
 obtain ⟨a4, a6, d1, c0, b3, a7⟩ := new_block w [(.int .i64 a_.1), (.slice pa0 pn0 pc0)] 35
 refine pl_val (w' := a4) (.pointer (some ⟨a6, 0, none⟩)) (y_box rfl (by rw [d1, c0]; kernel_rfl)) ?_
 have h0 := h0.ext b3
 have h1 := h1.ext b3
 have hC := hC.ext b3
 have hO := hO.new1 b3 c0 a7.lt
 refine pl_val (.int .i64 0) (y_assign rfl) ?_
 refine pl_val (.bool false) (y_assign rfl) ?_
 refine c_nil ?_
 refine c_sr ?_
 refine pl_val (.agg #[(.int .i64 a_.1), (.slice pa0 pn0 pc0)]) (y_load rfl ((box_load Ag35 Sz35 a7 [] [(.int .i64 a_.1), (.slice pa0 pn0 pc0)] [] rfl rfl (fun h => nomatch h)) _ (Chg.refl _ _))) ?_
 refine pl_val (.int .i64 k) (y_move rfl) ?_
 obtain ⟨r5, d2, hs⟩ := bind_some hs
 refine pl_call Bd48 rfl (c_impl_freeOf (M := M) (a_.1, a_.2) k h0 hO.fut d2) ?_
 rintro _ a2 ⟨b4, a5, rfl, b0, d3, d4⟩
 have hO := hO.perm (R := [] ++ (([a6]) ++ ([]))) (by simp)
 have d5 := Own.pastL hO b0 d4
 have hK := (show Keeps w M (PastL M [] a4 a2 (a5 ++ ([]))) from Keeps.pastL hC.size (fun g hg => (hO.inN g hg).resolve_left (fun h => nomatch h)))
 have h0 := h0.ext b0
 have h1 := h1.ext b0
 have a7 := a7.cn b0
 have hC := hC.ext b0
 have hO := d5
 have h0 := h0.sub (M' := (PastL M [] a4 a2 (a5 ++ ([])))) (fun g hg => .inl hg.1)
 have h1 := h1.sub (M' := (PastL M [] a4 a2 (a5 ++ ([])))) (fun g hg => .inl hg.1)
 have hO := hO.perm (R := a5 ++ (([a6]) ++ ([]))) (by simp)
 refine pl_val (.tuple #[b4, (.bool r5.2)]) (y_move rfl) ?_
 refine pl_val b4 (y_extract rfl (by kernel_rfl)) ?_
 refine pl_val (.bool r5.2) (y_extract rfl (by kernel_rfl)) ?_
 refine pl_val b4 (y_assign rfl) ?_
 refine pl_val (.bool r5.2) (y_assign rfl) ?_
 refine c_nil ?_
 refine c_seq ?_
 refine c_sr ?_
 refine pl_val (.bool r5.2) (y_move rfl) ?_
 refine pl_val (.bool (!r5.2)) (y_not rfl) ?_
 refine c_nil ?_
 rcases bif_some hs with ⟨b5, hs⟩ | ⟨b5, hs⟩
 ·refine c_condT (congrArg Value.bool b5) ?_
  refine c_sr ?_
  refine pl_val (.int .i64 0) (y_assign rfl) ?_
  refine pl_val (.bool false) (y_assign rfl) ?_
  refine c_nil ?_
  refine wp_ret ?_
  cases hs
  exact ⟨_, fr_ovl 23 ⟨rfl, rfl, trivial⟩, hC⟩
 refine c_condF (congrArg Value.bool b5) ?_
 refine wp_skip ?_
 refine c_sr ?_
 refine pl_val b4 (y_move rfl) ?_
 refine pl_val (.slice pa1 pn1 pc1) (y_move rfl) ?_
 obtain ⟨p9, d6, hs⟩ := bind_some hs
 obtain ⟨a3, rfl, d7⟩ := op_get d3 d6
 obtain ⟨f6, f7, d8, b1, d9⟩ := po_open d7
 obtain ⟨f8, f9, g0, g1, rfl, rfl, e0, e1⟩ := d9
 obtain ⟨a0, rfl, e2⟩ := po_rel e0
 obtain ⟨g2, g3, rfl, b2, e3⟩ := po_open e2
 obtain ⟨g4, g5, g6, g7, rfl, rfl, e4, e5⟩ := e3
 obtain ⟨g8, g9, h2, h3, rfl, rfl, e6, e7⟩ := e4
 obtain ⟨rfl, rfl⟩ := e6
 obtain ⟨c1, c2, c3, rfl, rfl, b6⟩ := rs_rel' e7
 obtain ⟨h4, h5, h6, h7, rfl, rfl, e8, e9⟩ := e5
 obtain ⟨rfl, rfl⟩ := e8
 obtain ⟨h8, h9, a8, a9, rfl, rfl, f0, f1⟩ := e9
 obtain ⟨c4, c5, c6, rfl, b7⟩ := os_rel' f0
 obtain ⟨c7, rfl, b8⟩ := mo_rel' f1
 have b2 : BoxV a2 a0 81 [(.int .i64 p9.1.1.1), (.slice c1 c2 c3), (.int .i64 p9.1.2.1), (.slice c4 c5 c6), (.map (some c7))] := b2
 obtain ⟨i0, i1, i2, i3, rfl, rfl, f2, f3⟩ := e1
 obtain ⟨rfl, rfl⟩ := f2
 obtain ⟨c8, c9, d0, rfl, rfl, b9⟩ := rs_rel' f3
 have b1 : BoxV a2 a3 108 [(.pointer (some ⟨a0, 0, none⟩)), (.int .i64 p9.2.1), (.slice c8 c9 d0)] := b1
 have hO := hO.perm (R := ([a3]) ++ (([a0]) ++ (a8 ++ (a9 ++ (([a6]) ++ ([])))))) (by rw [d8]; simp)
 have hO := hO.fr3
 have hO := hO.fr3
 have hO := hO.fr3
 have hO := hO.fr3
 obtain ⟨r17, f4, hs⟩ := bind_some hs
 refine pl_call Bd49 rfl (c_impl_free__element (M := (Less (Less (Less (Less (PastL M [] a4 a2 (a5 ++ ([]))) ([a3])) ([a0])) a8) a9)) t (p9.2.1, p9.2.2) (p9.1.1.1, p9.1.1.2, p9.1.2.1, p9.1.2.2.1, p9.1.2.2.2) ((((h1.sub Less.sub).sub Less.sub).sub Less.sub).sub Less.sub) (show RBox (Less (Less (Less (Less (PastL M [] a4 a2 (a5 ++ ([]))) ([a3])) ([a0])) a8) a9) _ a3 108 [(.pointer (some ⟨a0, 0, none⟩)), (.int .i64 p9.2.1), (.slice c8 c9 d0)] from ⟨b1, fun h => by simp [Less] at h⟩) ((((b9.sub Less.sub).sub Less.sub).sub Less.sub).sub Less.sub) (show RBox (Less (Less (Less (Less (PastL M [] a4 a2 (a5 ++ ([]))) ([a3])) ([a0])) a8) a9) _ a0 81 [(.int .i64 p9.1.1.1), (.slice c1 c2 c3), (.int .i64 p9.1.2.1), (.slice c4 c5 c6), (.map (some c7))] from ⟨b2, fun h => by simp [Less] at h⟩) ((((b6.sub Less.sub).sub Less.sub).sub Less.sub).sub Less.sub) ((((Frz.os (Frz.rs Frz.int))).val ((b7.sub Less.sub).sub Less.sub) Less.sub Less.not).sub Less.sub) ((Frz.mo).val (((b8.sub Less.sub).sub Less.sub).sub Less.sub) Less.sub Less.not) (((hO.less).less).less).less.fut f4) ?_
 rintro _ i4 ⟨rfl, a1⟩
 have hO := hO.fr3
 have hO := hO.fr3
 have hO := hO.fr3
 have hO := hO.fr3
 have hO := hO.perm (R := [] ++ (([a3]) ++ (([a0]) ++ (a8 ++ (a9 ++ (([a6]) ++ ([]))))))) (by simp)
 have h1 := h1.ext a1
 have a7 := a7.cn a1
 have b6 := b6.ext a1
 have b7 := b7.ext a1
 have b8 := b8.ext a1
 have b2 := b2.cn a1
 have b9 := b9.ext a1
 have b1 := b1.cn a1
 have hC := hC.ext a1
 have hO := hO.ext a1
 have hO := hO.perm (R := ([a3]) ++ (([a0]) ++ (a8 ++ (a9 ++ (([a6]) ++ ([])))))) (by simp)
 refine pl_val (.int .i64 r17.1) (y_extract rfl (by kernel_rfl)) ?_
 refine pl_val (.bool r17.2) (y_extract rfl (by kernel_rfl)) ?_
 refine pl_val (.int .i64 r17.1) (y_assign rfl) ?_
 refine pl_val (.bool r17.2) (y_assign rfl) ?_
 refine c_nil ?_
 refine wp_ret ?_
 cases hs
 exact ⟨_, fr_ovl 23 ⟨rfl, rfl, trivial⟩, hC⟩

def k_laws_eqIntS (M : Nat → Prop) (w0 : World) (r : Bool) (a : Act) (w : World) : Prop :=
  ∃ (σ : Nat → Value) , a = fr 26 (ovl σ [(4, (.bool r))]) ∧ Chg [] w0 w
def s_laws_eqIntS (a_ : List Int) (b : List Int) : Option (Bool) :=
  (bif ((a_.length : Int) != (b.length : Int)) then some false else (forC (S := Unit) (R := Bool) (fun k12 s10 =>
  (idx a_ k12).bind fun x17 =>
  (idx b k12).bind fun x19 =>
  (bif (x17 != x19) then some (.rt false) else some (.nx ()))) 0 (a_.length : Int) ()).bind fun o14 => after o14 (fun r_ => some r_) (fun s10 =>
  some true))
set_option maxHeartbeats 4000000 in
theorem c_laws_eqIntS {M : Nat → Prop} {w : World} {pa0 : Option Addr} {pn0 pc0 : Nat} {pa1 : Option Addr} {pn1 pc1 : Nat} (a_ : List Int) (b : List Int) (h0 : (RT.rs (RT.int .i64)).val M w (.slice pa0 pn0 pc0) a_ ([])) (h1 : (RT.rs (RT.int .i64)).val M w (.slice pa1 pn1 pc1) b ([])) (hM : ∀ g, w.heap.size ≤ g → M g) {r : Bool} (hs : s_laws_eqIntS a_ b = some r) :
    Gives Try.prog 22 [(.slice pa0 pn0 pc0), (.slice pa1 pn1 pc1)] w (fun v w' => v = (.bool r) ∧ Chg [] w w') := by
 refine calls_fr Try.func22 rfl Try.ntmps22 (Nat.le_of_ble_eq_true rfl) ?_
 have hO := Own.start (N := Nw w []) hM Nw.fut
 have hC := Chg.refl [] w
 unfold s_laws_eqIntS at hs
 refine wp_mono (Q := KPost (k_laws_eqIntS M w r)) ?_ (fun e a a4 h => ?_)
 rotate_left
 ·cases e
  case ret =>
   obtain ⟨σ, rfl, hrest⟩ := h
   exact ret1x Try.results22 (res_tmp rfl) ⟨rfl, hrest⟩
  all_goals exact (h : False).elim
 refine c_sr ?_
 refine pl_val (.bool false) (y_assign rfl) ?_
 refine c_nil ?_
 refine c_seq ?_
 refine c_sr ?_
 refine pl_val (.slice pa0 pn0 pc0) (y_move rfl) ?_
 refine pl_val (.int .i64 (a_.length : Int)) (y_len' Sl43 (rs_len h0) rfl) ?_
 refine pl_val (.slice pa1 pn1 pc1) (y_move rfl) ?_
 refine pl_val (.int .i64 (b.length : Int)) (y_len' Sl43 (rs_len h1) rfl) ?_
 refine pl_val (.bool ((a_.length : Int) != (b.length : Int))) (y_neq rfl rfl) ?_
 refine c_nil ?_
 rcases bif_some hs with ⟨a2, hs⟩ | ⟨a2, hs⟩
 ·refine c_condT (congrArg Value.bool a2) ?_
  refine c_sr ?_
  refine pl_val (.bool false) (y_assign rfl) ?_
  refine c_nil ?_
  refine wp_ret ?_
  cases hs
  exact ⟨_, fr_ovl 26 ⟨rfl, trivial⟩, hC⟩
 refine c_condF (congrArg Value.bool a2) ?_
 refine wp_skip ?_
 refine c_seq ?_
 refine c_sr ?_
 refine pl_val (.int .i64 0) (y_assign rfl) ?_
 refine c_nil ?_
 obtain ⟨o14, a5, hs⟩ := bind_some hs
 refine wp_block ?_
 refine wp_forC (id := 0) (a_.length : Int) (I := fun k12 s10 a a0 => ∃ (σ : Nat → Value), a = fr 26 (ovl σ [(0, (.slice pa0 pn0 pc0)), (1, (.slice pa1 pn1 pc1)), (5, (.int .i64 k12))]) ∧ Chg [] w a0 ∧ Own (Nw w []) M a0 ([]) ∧ (RT.rs (RT.int .i64)).val M a0 (.slice pa0 pn0 pc0) a_ ([]) ∧ (RT.rs (RT.int .i64)).val M a0 (.slice pa1 pn1 pc1) b ([])) (J := fun s10 a a0 => ∃ (σ : Nat → Value), a = fr 26 (ovl σ []) ∧ Chg [] w a0 ∧ Own (Nw w []) M a0 ([]) ∧ (RT.rs (RT.int .i64)).val M a0 (.slice pa0 pn0 pc0) a_ ([]) ∧ (RT.rs (RT.int .i64)).val M a0 (.slice pa1 pn1 pc1) b ([])) (K := (k_laws_eqIntS M w)) ?_ ?_ 0 () o14 _ _ ?_ a5 ?_
 ·rintro k12 s10 a a0 ⟨σ, rfl, hC, hO, h0, h1⟩ hlt
  refine c_seq ?_
  refine c_sr ?_
  refine pl_val (.int .i64 k12) (y_move rfl) ?_
  refine pl_val (.slice pa0 pn0 pc0) (y_move rfl) ?_
  refine pl_val (.int .i64 (a_.length : Int)) (y_len' Sl43 (rs_len h0) rfl) ?_
  refine pl_val (.bool (decide (k12 < (a_.length : Int)))) (y_lss rfl rfl) ?_
  refine c_nil ?_
  refine c_condF (congrArg Value.bool (decide_eq_false hlt)) ?_
  refine wp_exit ?_
  exact ⟨rfl, _, fr_ovl 26 trivial, hC, hO, h0, h1⟩
 ·rintro k12 s10 o14 a a0 ⟨σ, rfl, hC, hO, h0, h1⟩ hlt hw hs
  refine c_seq ?_
  refine c_sr ?_
  refine pl_val (.int .i64 k12) (y_move rfl) ?_
  refine pl_val (.slice pa0 pn0 pc0) (y_move rfl) ?_
  refine pl_val (.int .i64 (a_.length : Int)) (y_len' Sl43 (rs_len h0) rfl) ?_
  refine pl_val (.bool (decide (k12 < (a_.length : Int)))) (y_lss rfl rfl) ?_
  refine c_nil ?_
  refine c_condT (congrArg Value.bool (decide_eq_true hlt)) ?_
  refine wp_skip ?_
  refine c_seq ?_
  refine wp_block ?_
  refine c_seq ?_
  refine x_start [] Mx rfl ?_
  have a1 := Chg.drew a0
  generalize World.drew a0 = a6 at a1 ⊢
  have h0 := h0.ext a1
  have h1 := h1.ext a1
  have hC := hC.ext a1
  have hO := hO.ext a1
  have hS := Chg.refl [] a6
  refine x_p 0 (.slice pa0 pn0 pc0) rfl (by kernel_rfl)  (fun _ => y_move rfl) (fun _ => hS) ?_
  refine x_p 1 (.int .i64 k12) rfl (by kernel_rfl)  (fun _ => y_move rfl) (fun _ => hS) ?_
  obtain ⟨x17, a7, hs⟩ := bind_some hs
  obtain ⟨a8, a9, b0, b1⟩ := rs_idx Sl43 Sz3 h0 a7
  refine x_p 2 (.pointer (some ⟨a8, a9, none⟩)) rfl (by kernel_rfl)  (fun _ => b0 _ _ _ _ _ _ _ _ _ rfl rfl) (fun _ => hS) ?_
  refine x_l 3 (.int .i64 x17) rfl (by kernel_rfl)  (fun w' hw' => y_load rfl ((at_load_int Ag3 Sz3 b1) w' hw')) hS ?_
  refine x_p 4 (.slice pa1 pn1 pc1) rfl (by kernel_rfl)  (fun _ => y_move rfl) (fun _ => hS) ?_
  refine x_p 5 (.int .i64 k12) rfl (by kernel_rfl)  (fun _ => y_move rfl) (fun _ => hS) ?_
  obtain ⟨x19, b2, hs⟩ := bind_some hs
  obtain ⟨b3, b4, b5, b6⟩ := rs_idx Sl43 Sz3 h1 b2
  refine x_p 6 (.pointer (some ⟨b3, b4, none⟩)) rfl (by kernel_rfl)  (fun _ => b5 _ _ _ _ _ _ _ _ _ rfl rfl) (fun _ => hS) ?_
  refine x_l 7 (.int .i64 x19) rfl (by kernel_rfl)  (fun w' hw' => y_load rfl ((at_load_int Ag3 Sz3 b6) w' hw')) hS ?_
  refine x_p 8 (.bool (x17 != x19)) rfl (by kernel_rfl)  (fun _ => y_neq rfl rfl) (fun _ => hS) ?_
  refine x_end (by kernel_rfl) ?_
  clear hS
  rcases bif_some hs with ⟨a3, hs⟩ | ⟨a3, hs⟩
  ·refine c_condT (congrArg Value.bool a3) ?_
   refine c_sr ?_
   refine pl_val (.bool false) (y_assign rfl) ?_
   refine c_nil ?_
   refine wp_ret ?_
   cases hs
   exact ⟨_, fr_ovl 26 ⟨rfl, trivial⟩, hC⟩
  refine c_condF (congrArg Value.bool a3) ?_
  refine wp_skip ?_
  refine c_region ?_
  refine pl_val (.int .i64 k12) (y_move rfl) ?_
  refine pl_val (.int .i64 (w64 (k12 + 1))) (y_add rfl rfl) ?_
  refine pl_val (.int .i64 (w64 (k12 + 1))) (y_assign rfl) ?_
  refine c_nil ?_
  cases hs
  exact ⟨_, fr_ovl 26 ⟨rfl, rfl, congrArg (Value.int .i64) hw, trivial⟩, hC, hO, h0, h1⟩
 ·skip
  exact ⟨_, fr_ovl 26 ⟨rfl, rfl, rfl, trivial⟩, hC, hO, h0, h1⟩
 cases o14 with
 | nx _ => exact True.intro
 | rt r_ =>
  have hs := after_rt hs
  intro b7 a4 hK
  cases hs
  exact hK
 | br s10 =>
  have hs := after_br hs
  rintro b7 a0 ⟨σ, rfl, hC, hO, h0, h1⟩
  refine c_sr ?_
  refine pl_val (.bool true) (y_assign rfl) ?_
  refine c_nil ?_
  refine wp_ret ?_
  cases hs
  exact ⟨_, fr_ovl 26 ⟨rfl, trivial⟩, hC⟩

theorem Bd22 : Bodied Try.prog 22 := bodied Try.func22 (by kernel_rfl) rfl

def k_laws_eqOp (M : Nat → Prop) (w0 : World) (r : Bool) (a : Act) (w : World) : Prop :=
  ∃ (σ : Nat → Value) , a = fr 16 (ovl σ [(4, (.bool r))]) ∧ Chg [] w0 w
def s_laws_eqOp (a_ : Int × (List Int)) (b : Int × (List Int)) : Option (Bool) :=
  (bif (a_.1 != b.1) then some false else (s_laws_eqIntS a_.2 b.2).bind fun r7 =>
  (bif (!r7) then some false else some true))
set_option maxHeartbeats 4000000 in
theorem c_laws_eqOp {M : Nat → Prop} {w : World} {pa0 : Option Addr} {pn0 pc0 : Nat} {pa1 : Option Addr} {pn1 pc1 : Nat} (a_ : Int × (List Int)) (b : Int × (List Int)) (h0 : (RT.rs (RT.int .i64)).val M w (.slice pa0 pn0 pc0) a_.2 ([])) (h1 : (RT.rs (RT.int .i64)).val M w (.slice pa1 pn1 pc1) b.2 ([])) (hM : ∀ g, w.heap.size ≤ g → M g) {r : Bool} (hs : s_laws_eqOp a_ b = some r) :
    Gives Try.prog 79 [(.agg #[(.int .i64 a_.1), (.slice pa0 pn0 pc0)]), (.agg #[(.int .i64 b.1), (.slice pa1 pn1 pc1)])] w (fun v w' => v = (.bool r) ∧ Chg [] w w') := by
 refine calls_fr Try.func79 rfl Try.ntmps79 (Nat.le_of_ble_eq_true rfl) ?_
 have hO := Own.start (N := Nw w []) hM Nw.fut
 have hC := Chg.refl [] w
 unfold s_laws_eqOp at hs
 refine wp_mono (Q := KPost (k_laws_eqOp M w r)) ?_ (fun e a b6 h => ?_)
 rotate_left
 ·cases e
  case ret =>
   obtain ⟨σ, rfl, hrest⟩ := h
   exact ret1x Try.results79 (res_tmp rfl) ⟨rfl, hrest⟩
  all_goals exact (h : False).elim
 refine c_sr ?_
 obtain ⟨a9, a5, b2, b0, a4, a0⟩ := new_block w [(.int .i64 a_.1), (.slice pa0 pn0 pc0)] 89
 refine pl_val (w' := a9) (.pointer (some ⟨a5, 0, none⟩)) (y_box rfl (by rw [b2, b0]; kernel_rfl)) ?_
 have h0 := h0.ext a4
 have h1 := h1.ext a4
 have hC := hC.ext a4
 have hO := hO.new1 a4 b0 a0.lt
 obtain ⟨b3, a6, b4, b1, a2, a3⟩ := new_block a9 [(.int .i64 b.1), (.slice pa1 pn1 pc1)] 89
 refine pl_val (w' := b3) (.pointer (some ⟨a6, 0, none⟩)) (y_box rfl (by rw [b4, b1]; kernel_rfl)) ?_
 have h0 := h0.ext a2
 have h1 := h1.ext a2
 have a0 := a0.cn a2
 have hC := hC.ext a2
 have hO := hO.new1 a2 b1 a3.lt
 refine pl_val (.bool false) (y_assign rfl) ?_
 refine c_nil ?_
 refine c_seq ?_
 refine c_sr ?_
 refine pl_val (.pointer (some ⟨a5, 0, none⟩)) (y_faddr rfl Fa89x0) ?_
 refine pl_val (.int .i64 a_.1) (y_load rfl ((box_load Ag3 Sz3 a0 [] [(.int .i64 a_.1)] [(.slice pa0 pn0 pc0)] rfl rfl (fun _ => rfl)) _ (Chg.refl _ _))) ?_
 refine pl_val (.pointer (some ⟨a6, 0, none⟩)) (y_faddr rfl Fa89x0) ?_
 refine pl_val (.int .i64 b.1) (y_load rfl ((box_load Ag3 Sz3 a3 [] [(.int .i64 b.1)] [(.slice pa1 pn1 pc1)] rfl rfl (fun _ => rfl)) _ (Chg.refl _ _))) ?_
 refine pl_val (.bool (a_.1 != b.1)) (y_neq rfl rfl) ?_
 refine c_nil ?_
 rcases bif_some hs with ⟨a7, hs⟩ | ⟨a7, hs⟩
 ·refine c_condT (congrArg Value.bool a7) ?_
  refine c_sr ?_
  refine pl_val (.bool false) (y_assign rfl) ?_
  refine c_nil ?_
  refine wp_ret ?_
  cases hs
  exact ⟨_, fr_ovl 16 ⟨rfl, trivial⟩, hC⟩
 refine c_condF (congrArg Value.bool a7) ?_
 refine wp_skip ?_
 refine c_seq ?_
 refine c_sr ?_
 refine pl_val (.pointer (some ⟨a5, 1, none⟩)) (y_faddr rfl Fa89x1) ?_
 refine pl_val (.slice pa0 pn0 pc0) (y_load rfl ((box_load Ag43 Sz43 a0 [(.int .i64 a_.1)] [(.slice pa0 pn0 pc0)] [] rfl rfl (fun _ => rfl)) _ (Chg.refl _ _))) ?_
 refine pl_val (.pointer (some ⟨a6, 1, none⟩)) (y_faddr rfl Fa89x1) ?_
 refine pl_val (.slice pa1 pn1 pc1) (y_load rfl ((box_load Ag43 Sz43 a3 [(.int .i64 b.1)] [(.slice pa1 pn1 pc1)] [] rfl rfl (fun _ => rfl)) _ (Chg.refl _ _))) ?_
 obtain ⟨r7, b5, hs⟩ := bind_some hs
 refine pl_call Bd22 rfl (c_laws_eqIntS (M := M) a_.2 b.2 h0 h1 hO.fut b5) ?_
 rintro _ b7 ⟨rfl, a1⟩
 have h0 := h0.ext a1
 have h1 := h1.ext a1
 have a0 := a0.cn a1
 have a3 := a3.cn a1
 have hC := hC.ext a1
 have hO := hO.ext a1
 refine pl_val (.bool (!r7)) (y_not rfl) ?_
 refine c_nil ?_
 have hO := hO.drop
 have hO := hO.drop
 rcases bif_some hs with ⟨a8, hs⟩ | ⟨a8, hs⟩
 ·refine c_condT (congrArg Value.bool a8) ?_
  refine c_sr ?_
  refine pl_val (.bool false) (y_assign rfl) ?_
  refine c_nil ?_
  refine wp_ret ?_
  cases hs
  exact ⟨_, fr_ovl 16 ⟨rfl, trivial⟩, hC⟩
 refine c_condF (congrArg Value.bool a8) ?_
 refine wp_skip ?_
 refine c_sr ?_
 refine pl_val (.bool true) (y_assign rfl) ?_
 refine c_nil ?_
 refine wp_ret ?_
 cases hs
 exact ⟨_, fr_ovl 16 ⟨rfl, trivial⟩, hC⟩

theorem Bd79 : Bodied Try.prog 79 := bodied Try.func79 (by kernel_rfl) rfl

def k_laws_eqOpS (M : Nat → Prop) (w0 : World) (r : Bool) (a : Act) (w : World) : Prop :=
  ∃ (σ : Nat → Value) , a = fr 27 (ovl σ [(4, (.bool r))]) ∧ Chg [] w0 w
def s_laws_eqOpS (a_ : List (Int × (List Int))) (b : List (Int × (List Int))) : Option (Bool) :=
  (bif ((a_.length : Int) != (b.length : Int)) then some false else (forC (S := Unit) (R := Bool) (fun k18 s16 =>
  (idx a_ k18).bind fun x23 =>
  (idx b k18).bind fun x27 =>
  (s_laws_eqOp (x23.1, x23.2) (x27.1, x27.2)).bind fun r32 =>
  (bif (!r32) then some (.rt false) else some (.nx ()))) 0 (a_.length : Int) ()).bind fun o20 => after o20 (fun r_ => some r_) (fun s16 =>
  some true))
set_option maxHeartbeats 4000000 in
theorem c_laws_eqOpS {M : Nat → Prop} {w : World} {pa0 : Option Addr} {pn0 pc0 : Nat} {pa1 : Option Addr} {pn1 pc1 : Nat} (a_ : List (Int × (List Int))) (b : List (Int × (List Int))) (h0 : (RT.rs (RT.pr (RT.int .i64) (RT.rs (RT.int .i64)))).val M w (.slice pa0 pn0 pc0) a_ ([])) (h1 : (RT.rs (RT.pr (RT.int .i64) (RT.rs (RT.int .i64)))).val M w (.slice pa1 pn1 pc1) b ([])) (hM : ∀ g, w.heap.size ≤ g → M g) {r : Bool} (hs : s_laws_eqOpS a_ b = some r) :
    Gives Try.prog 42 [(.slice pa0 pn0 pc0), (.slice pa1 pn1 pc1)] w (fun v w' => v = (.bool r) ∧ Chg [] w w') := by
 refine calls_fr Try.func42 rfl Try.ntmps42 (Nat.le_of_ble_eq_true rfl) ?_
 have hO := Own.start (N := Nw w []) hM Nw.fut
 have hC := Chg.refl [] w
 unfold s_laws_eqOpS at hs
 refine wp_mono (Q := KPost (k_laws_eqOpS M w r)) ?_ (fun e a a9 h => ?_)
 rotate_left
 ·cases e
  case ret =>
   obtain ⟨σ, rfl, hrest⟩ := h
   exact ret1x Try.results42 (res_tmp rfl) ⟨rfl, hrest⟩
  all_goals exact (h : False).elim
 refine c_sr ?_
 refine pl_val (.bool false) (y_assign rfl) ?_
 refine c_nil ?_
 refine c_seq ?_
 refine c_sr ?_
 refine pl_val (.slice pa0 pn0 pc0) (y_move rfl) ?_
 refine pl_val (.int .i64 (a_.length : Int)) (y_len' Sl33 (rs_len h0) rfl) ?_
 refine pl_val (.slice pa1 pn1 pc1) (y_move rfl) ?_
 refine pl_val (.int .i64 (b.length : Int)) (y_len' Sl33 (rs_len h1) rfl) ?_
 refine pl_val (.bool ((a_.length : Int) != (b.length : Int))) (y_neq rfl rfl) ?_
 refine c_nil ?_
 rcases bif_some hs with ⟨a3, hs⟩ | ⟨a3, hs⟩
 ·refine c_condT (congrArg Value.bool a3) ?_
  refine c_sr ?_
  refine pl_val (.bool false) (y_assign rfl) ?_
  refine c_nil ?_
  refine wp_ret ?_
  cases hs
  exact ⟨_, fr_ovl 27 ⟨rfl, trivial⟩, hC⟩
 refine c_condF (congrArg Value.bool a3) ?_
 refine wp_skip ?_
 refine c_seq ?_
 refine c_sr ?_
 refine pl_val (.int .i64 0) (y_assign rfl) ?_
 refine c_nil ?_
 obtain ⟨o20, b0, hs⟩ := bind_some hs
 refine wp_block ?_
 refine wp_forC (id := 0) (a_.length : Int) (I := fun k18 s16 a a0 => ∃ (σ : Nat → Value), a = fr 27 (ovl σ [(0, (.slice pa0 pn0 pc0)), (1, (.slice pa1 pn1 pc1)), (5, (.int .i64 k18))]) ∧ Chg [] w a0 ∧ Own (Nw w []) M a0 ([]) ∧ (RT.rs (RT.pr (RT.int .i64) (RT.rs (RT.int .i64)))).val M a0 (.slice pa0 pn0 pc0) a_ ([]) ∧ (RT.rs (RT.pr (RT.int .i64) (RT.rs (RT.int .i64)))).val M a0 (.slice pa1 pn1 pc1) b ([])) (J := fun s16 a a0 => ∃ (σ : Nat → Value), a = fr 27 (ovl σ []) ∧ Chg [] w a0 ∧ Own (Nw w []) M a0 ([]) ∧ (RT.rs (RT.pr (RT.int .i64) (RT.rs (RT.int .i64)))).val M a0 (.slice pa0 pn0 pc0) a_ ([]) ∧ (RT.rs (RT.pr (RT.int .i64) (RT.rs (RT.int .i64)))).val M a0 (.slice pa1 pn1 pc1) b ([])) (K := (k_laws_eqOpS M w)) ?_ ?_ 0 () o20 _ _ ?_ b0 ?_
 ·rintro k18 s16 a a0 ⟨σ, rfl, hC, hO, h0, h1⟩ hlt
  refine c_seq ?_
  refine c_sr ?_
  refine pl_val (.int .i64 k18) (y_move rfl) ?_
  refine pl_val (.slice pa0 pn0 pc0) (y_move rfl) ?_
  refine pl_val (.int .i64 (a_.length : Int)) (y_len' Sl33 (rs_len h0) rfl) ?_
  refine pl_val (.bool (decide (k18 < (a_.length : Int)))) (y_lss rfl rfl) ?_
  refine c_nil ?_
  refine c_condF (congrArg Value.bool (decide_eq_false hlt)) ?_
  refine wp_exit ?_
  exact ⟨rfl, _, fr_ovl 27 trivial, hC, hO, h0, h1⟩
 ·rintro k18 s16 o20 a a0 ⟨σ, rfl, hC, hO, h0, h1⟩ hlt hw hs
  refine c_seq ?_
  refine c_sr ?_
  refine pl_val (.int .i64 k18) (y_move rfl) ?_
  refine pl_val (.slice pa0 pn0 pc0) (y_move rfl) ?_
  refine pl_val (.int .i64 (a_.length : Int)) (y_len' Sl33 (rs_len h0) rfl) ?_
  refine pl_val (.bool (decide (k18 < (a_.length : Int)))) (y_lss rfl rfl) ?_
  refine c_nil ?_
  refine c_condT (congrArg Value.bool (decide_eq_true hlt)) ?_
  refine wp_skip ?_
  refine c_seq ?_
  refine wp_block ?_
  refine c_seq ?_
  refine x_start [] Mx rfl ?_
  have a2 := Chg.drew a0
  generalize World.drew a0 = b1 at a2 ⊢
  have h0 := h0.ext a2
  have h1 := h1.ext a2
  have hC := hC.ext a2
  have hO := hO.ext a2
  have hS := Chg.refl [] b1
  refine x_p 0 (.slice pa0 pn0 pc0) rfl (by kernel_rfl)  (fun _ => y_move rfl) (fun _ => hS) ?_
  refine x_p 1 (.int .i64 k18) rfl (by kernel_rfl)  (fun _ => y_move rfl) (fun _ => hS) ?_
  obtain ⟨x23, b2, hs⟩ := bind_some hs
  obtain ⟨b3, b4, b5, a4⟩ := rs_idx Sl33 Sz89 h0 b2
  refine x_p 2 (.pointer (some ⟨b3, b4, none⟩)) rfl (by kernel_rfl)  (fun _ => b5 _ _ _ _ _ _ _ _ _ rfl rfl) (fun _ => hS) ?_
  obtain ⟨d8, b6, b7⟩ := at_load Ag89 Sz89 (by intro h; cases h) a4
  obtain ⟨d9, rfl, b8⟩ := b7
  obtain ⟨e0, e1, rfl, b9, c0⟩ := pr_open b8
  obtain rfl := int_rel b9
  obtain ⟨c1, c2, c3, rfl, a5⟩ := rs_rel c0
  refine x_l 3 (.agg #[(.int .i64 x23.1), (.slice c1 c2 c3)]) rfl (by kernel_rfl)  (fun w' hw' => y_load rfl (b6 w' hw')) hS ?_
  refine x_p 4 (.slice pa1 pn1 pc1) rfl (by kernel_rfl)  (fun _ => y_move rfl) (fun _ => hS) ?_
  refine x_p 5 (.int .i64 k18) rfl (by kernel_rfl)  (fun _ => y_move rfl) (fun _ => hS) ?_
  obtain ⟨x27, c4, hs⟩ := bind_some hs
  obtain ⟨c5, c6, c7, a6⟩ := rs_idx Sl33 Sz89 h1 c4
  refine x_p 6 (.pointer (some ⟨c5, c6, none⟩)) rfl (by kernel_rfl)  (fun _ => c7 _ _ _ _ _ _ _ _ _ rfl rfl) (fun _ => hS) ?_
  obtain ⟨e2, c8, c9⟩ := at_load Ag89 Sz89 (by intro h; cases h) a6
  obtain ⟨e3, rfl, d0⟩ := c9
  obtain ⟨e4, e5, rfl, d1, d2⟩ := pr_open d0
  obtain rfl := int_rel d1
  obtain ⟨d3, d4, d5, rfl, a7⟩ := rs_rel d2
  refine x_l 7 (.agg #[(.int .i64 x27.1), (.slice d3 d4 d5)]) rfl (by kernel_rfl)  (fun w' hw' => y_load rfl (c8 w' hw')) hS ?_
  refine x_one (i := 8) (by kernel_rfl) ?_
  obtain ⟨r32, d6, hs⟩ := bind_some hs
  refine xk_call (b := false) rfl  Bd79 rfl (c_laws_eqOp (M := M) (x23.1, x23.2) (x27.1, x27.2) a5 a7 hO.fut d6) rfl (by rintro _ _ _ ⟨rfl, a1⟩; exact hS.ext a1) ?_
  rintro _ e6 ⟨rfl, a1⟩
  have h0 := h0.ext a1
  have h1 := h1.ext a1
  have a5 := a5.ext a1
  have a7 := a7.ext a1
  have a4 := at_ext a4 a1
  have a6 := at_ext a6 a1
  have hC := hC.ext a1
  have hO := hO.ext a1
  have hS := hS.ext a1
  refine x_p 9 (.bool (!r32)) rfl (by kernel_rfl)  (fun _ => y_not rfl) (fun _ => hS) ?_
  refine x_end (by kernel_rfl) ?_
  clear hS
  rcases bif_some hs with ⟨a8, hs⟩ | ⟨a8, hs⟩
  ·refine c_condT (congrArg Value.bool a8) ?_
   refine c_sr ?_
   refine pl_val (.bool false) (y_assign rfl) ?_
   refine c_nil ?_
   refine wp_ret ?_
   cases hs
   exact ⟨_, fr_ovl 27 ⟨rfl, trivial⟩, hC⟩
  refine c_condF (congrArg Value.bool a8) ?_
  refine wp_skip ?_
  refine c_region ?_
  refine pl_val (.int .i64 k18) (y_move rfl) ?_
  refine pl_val (.int .i64 (w64 (k18 + 1))) (y_add rfl rfl) ?_
  refine pl_val (.int .i64 (w64 (k18 + 1))) (y_assign rfl) ?_
  refine c_nil ?_
  cases hs
  exact ⟨_, fr_ovl 27 ⟨rfl, rfl, congrArg (Value.int .i64) hw, trivial⟩, hC, hO, h0, h1⟩
 ·skip
  exact ⟨_, fr_ovl 27 ⟨rfl, rfl, rfl, trivial⟩, hC, hO, h0, h1⟩
 cases o20 with
 | nx _ => exact True.intro
 | rt r_ =>
  have hs := after_rt hs
  intro d7 a9 hK
  cases hs
  exact hK
 | br s16 =>
  have hs := after_br hs
  rintro d7 a0 ⟨σ, rfl, hC, hO, h0, h1⟩
  refine c_sr ?_
  refine pl_val (.bool true) (y_assign rfl) ?_
  refine c_nil ?_
  refine wp_ret ?_
  cases hs
  exact ⟨_, fr_ovl 27 ⟨rfl, trivial⟩, hC⟩

theorem Bd42 : Bodied Try.prog 42 := bodied Try.func42 (by kernel_rfl) rfl

def k_laws_eqAlgebra (M : Nat → Prop) (w0 : World) (r : Bool) (a : Act) (w : World) : Prop :=
  ∃ (σ : Nat → Value) , a = fr 16 (ovl σ [(4, (.bool r))]) ∧ Chg [] w0 w
def s_laws_eqAlgebra (a_ : Int × (List (Int × (List Int)))) (b : Int × (List (Int × (List Int)))) : Option (Bool) :=
  (bif (a_.1 != b.1) then some false else (s_laws_eqOpS a_.2 b.2).bind fun r7 =>
  (bif (!r7) then some false else some true))
set_option maxHeartbeats 4000000 in
theorem c_laws_eqAlgebra {M : Nat → Prop} {w : World} {pa0 : Option Addr} {pn0 pc0 : Nat} {pa1 : Option Addr} {pn1 pc1 : Nat} (a_ : Int × (List (Int × (List Int)))) (b : Int × (List (Int × (List Int)))) (h0 : (RT.rs (RT.pr (RT.int .i64) (RT.rs (RT.int .i64)))).val M w (.slice pa0 pn0 pc0) a_.2 ([])) (h1 : (RT.rs (RT.pr (RT.int .i64) (RT.rs (RT.int .i64)))).val M w (.slice pa1 pn1 pc1) b.2 ([])) (hM : ∀ g, w.heap.size ≤ g → M g) {r : Bool} (hs : s_laws_eqAlgebra a_ b = some r) :
    Gives Try.prog 15 [(.agg #[(.int .i64 a_.1), (.slice pa0 pn0 pc0)]), (.agg #[(.int .i64 b.1), (.slice pa1 pn1 pc1)])] w (fun v w' => v = (.bool r) ∧ Chg [] w w') := by
 refine calls_fr Try.func15 rfl Try.ntmps15 (Nat.le_of_ble_eq_true rfl) ?_
 have hO := Own.start (N := Nw w []) hM Nw.fut
 have hC := Chg.refl [] w
 unfold s_laws_eqAlgebra at hs
 refine wp_mono (Q := KPost (k_laws_eqAlgebra M w r)) ?_ (fun e a b6 h => ?_)
 rotate_left
 ·cases e
  case ret =>
   obtain ⟨σ, rfl, hrest⟩ := h
   exact ret1x Try.results15 (res_tmp rfl) ⟨rfl, hrest⟩
  all_goals exact (h : False).elim
 refine c_sr ?_
 obtain ⟨a9, a5, b2, b0, a4, a0⟩ := new_block w [(.int .i64 a_.1), (.slice pa0 pn0 pc0)] 35
 refine pl_val (w' := a9) (.pointer (some ⟨a5, 0, none⟩)) (y_box rfl (by rw [b2, b0]; kernel_rfl)) ?_
 have h0 := h0.ext a4
 have h1 := h1.ext a4
 have hC := hC.ext a4
 have hO := hO.new1 a4 b0 a0.lt
 obtain ⟨b3, a6, b4, b1, a2, a3⟩ := new_block a9 [(.int .i64 b.1), (.slice pa1 pn1 pc1)] 35
 refine pl_val (w' := b3) (.pointer (some ⟨a6, 0, none⟩)) (y_box rfl (by rw [b4, b1]; kernel_rfl)) ?_
 have h0 := h0.ext a2
 have h1 := h1.ext a2
 have a0 := a0.cn a2
 have hC := hC.ext a2
 have hO := hO.new1 a2 b1 a3.lt
 refine pl_val (.bool false) (y_assign rfl) ?_
 refine c_nil ?_
 refine c_seq ?_
 refine c_sr ?_
 refine pl_val (.pointer (some ⟨a5, 0, none⟩)) (y_faddr rfl Fa35x0) ?_
 refine pl_val (.int .i64 a_.1) (y_load rfl ((box_load Ag3 Sz3 a0 [] [(.int .i64 a_.1)] [(.slice pa0 pn0 pc0)] rfl rfl (fun _ => rfl)) _ (Chg.refl _ _))) ?_
 refine pl_val (.pointer (some ⟨a6, 0, none⟩)) (y_faddr rfl Fa35x0) ?_
 refine pl_val (.int .i64 b.1) (y_load rfl ((box_load Ag3 Sz3 a3 [] [(.int .i64 b.1)] [(.slice pa1 pn1 pc1)] rfl rfl (fun _ => rfl)) _ (Chg.refl _ _))) ?_
 refine pl_val (.bool (a_.1 != b.1)) (y_neq rfl rfl) ?_
 refine c_nil ?_
 rcases bif_some hs with ⟨a7, hs⟩ | ⟨a7, hs⟩
 ·refine c_condT (congrArg Value.bool a7) ?_
  refine c_sr ?_
  refine pl_val (.bool false) (y_assign rfl) ?_
  refine c_nil ?_
  refine wp_ret ?_
  cases hs
  exact ⟨_, fr_ovl 16 ⟨rfl, trivial⟩, hC⟩
 refine c_condF (congrArg Value.bool a7) ?_
 refine wp_skip ?_
 refine c_seq ?_
 refine c_sr ?_
 refine pl_val (.pointer (some ⟨a5, 1, none⟩)) (y_faddr rfl Fa35x1) ?_
 refine pl_val (.slice pa0 pn0 pc0) (y_load rfl ((box_load Ag33 Sz33 a0 [(.int .i64 a_.1)] [(.slice pa0 pn0 pc0)] [] rfl rfl (fun _ => rfl)) _ (Chg.refl _ _))) ?_
 refine pl_val (.pointer (some ⟨a6, 1, none⟩)) (y_faddr rfl Fa35x1) ?_
 refine pl_val (.slice pa1 pn1 pc1) (y_load rfl ((box_load Ag33 Sz33 a3 [(.int .i64 b.1)] [(.slice pa1 pn1 pc1)] [] rfl rfl (fun _ => rfl)) _ (Chg.refl _ _))) ?_
 obtain ⟨r7, b5, hs⟩ := bind_some hs
 refine pl_call Bd42 rfl (c_laws_eqOpS (M := M) a_.2 b.2 h0 h1 hO.fut b5) ?_
 rintro _ b7 ⟨rfl, a1⟩
 have h0 := h0.ext a1
 have h1 := h1.ext a1
 have a0 := a0.cn a1
 have a3 := a3.cn a1
 have hC := hC.ext a1
 have hO := hO.ext a1
 refine pl_val (.bool (!r7)) (y_not rfl) ?_
 refine c_nil ?_
 have hO := hO.drop
 have hO := hO.drop
 rcases bif_some hs with ⟨a8, hs⟩ | ⟨a8, hs⟩
 ·refine c_condT (congrArg Value.bool a8) ?_
  refine c_sr ?_
  refine pl_val (.bool false) (y_assign rfl) ?_
  refine c_nil ?_
  refine wp_ret ?_
  cases hs
  exact ⟨_, fr_ovl 16 ⟨rfl, trivial⟩, hC⟩
 refine c_condF (congrArg Value.bool a8) ?_
 refine wp_skip ?_
 refine c_sr ?_
 refine pl_val (.bool true) (y_assign rfl) ?_
 refine c_nil ?_
 refine wp_ret ?_
 cases hs
 exact ⟨_, fr_ovl 16 ⟨rfl, trivial⟩, hC⟩

theorem Ag24 : AggT Try.prog 24 true := fun _ => by kernel_rfl

theorem Sz24 : SzT Try.prog 24 2 := ⟨_, rfl, rfl⟩

theorem Bd8 : Bodied Try.prog 8 := bodied Try.func8 (by kernel_rfl) rfl

theorem Bd11 : Bodied Try.prog 11 := bodied Try.func11 (by kernel_rfl) rfl

theorem Bd19 : Bodied Try.prog 19 := bodied Try.func19 (by kernel_rfl) rfl

theorem Bd21 : Bodied Try.prog 21 := bodied Try.func21 (by kernel_rfl) rfl

theorem Bd15 : Bodied Try.prog 15 := bodied Try.func15 (by kernel_rfl) rfl

def k_laws_FnExactFreeElementOf (M : Nat → Prop) (w0 : World) (r : Bool) (a : Act) (w : World) : Prop :=
  ∃ (σ : Nat → Value) , a = fr 60 (ovl σ [(6, (.bool r))]) ∧ Chg [] w0 w
def s_laws_FnExactFreeElementOf (aA : Int × (List (Int × (List Int)))) (aK : Int) (aT : List Int) : Option (Bool) :=
  (bif (decide (1048576 < (aT.length : Int))) then some true else (s_laws_szAlgebra (aA.1, aA.2) 1048576).bind fun r6 =>
  (bif (decide (r6 < 0)) then some true else (s_laws_toAlgebra (aA.1, aA.2)).bind fun r9 =>
  (s_laws_toIntS aT).bind fun r12 =>
  (s_spec_FreeElementOf (r9.1, r9.2) aK r12).bind fun r15 =>
  (s_laws_toAlgebra (aA.1, aA.2)).bind fun r17 =>
  (s_laws_toIntS aT).bind fun r22 =>
  (s_impl_FreeElementOf (r17.1, r17.2) aK r22).bind fun r25 =>
  (bif ((r25.1 != r15.1) || (!(r25.2 == r15.2))) then some false else (s_laws_toAlgebra (aA.1, aA.2)).bind fun r39 =>
  (s_laws_eqAlgebra (r17.1, r17.2) (r39.1, r39.2)).bind fun r42 =>
  (bif (!r42) then some false else (s_laws_toIntS aT).bind fun r45 =>
  (s_laws_eqIntS r22 r45).bind fun r48 =>
  (bif (!r48) then some false else some true)))))
set_option maxHeartbeats 4000000 in
theorem c_laws_FnExactFreeElementOf {M : Nat → Prop} {w : World} {pa0 : Option Addr} {pn0 pc0 : Nat} {pa1 : Option Addr} {pn1 pc1 : Nat} (aA : Int × (List (Int × (List Int)))) (aK : Int) (aT : List Int) (h0 : (RT.rs (RT.pr (RT.int .i64) (RT.rs (RT.int .i64)))).val M w (.slice pa0 pn0 pc0) aA.2 ([])) (h1 : (RT.rs (RT.int .i64)).val M w (.slice pa1 pn1 pc1) aT ([])) (hM : ∀ g, w.heap.size ≤ g → M g) {r : Bool} (hs : s_laws_FnExactFreeElementOf aA aK aT = some r) :
    Gives Try.prog 4 [(.agg #[(.int .i64 aA.1), (.slice pa0 pn0 pc0)]), (.int .i64 aK), (.slice pa1 pn1 pc1)] w (fun v w' => v = (.bool r) ∧ Chg [] w w') := by
 refine calls_fr Try.func4 rfl Try.ntmps4 (Nat.le_of_ble_eq_true rfl) ?_
 have hO := Own.start (N := Nw w []) hM Nw.fut
 have hC := Chg.refl [] w
 unfold s_laws_FnExactFreeElementOf at hs
 refine wp_mono (Q := KPost (k_laws_FnExactFreeElementOf M w r)) ?_ (fun e a h9 h => ?_)
 rotate_left
 ·cases e
  case ret =>
   obtain ⟨σ, rfl, hrest⟩ := h
   exact ret1x Try.results4 (res_tmp rfl) ⟨rfl, hrest⟩
  all_goals exact (h : False).elim
 refine c_sr ?_
 obtain ⟨f1, b0, f2, e3, c9, a0⟩ := new_block w [(.int .i64 aA.1), (.slice pa0 pn0 pc0)] 24
 refine pl_val (w' := f1) (.pointer (some ⟨b0, 0, none⟩)) (y_box rfl (by rw [f2, e3]; kernel_rfl)) ?_
 have h0 := h0.ext c9
 have h1 := h1.ext c9
 have hC := hC.ext c9
 have hO := hO.new1 c9 e3 a0.lt
 refine pl_val (.bool false) (y_assign rfl) ?_
 refine c_nil ?_
 refine c_seq ?_
 refine c_sr ?_
 refine pl_val (.slice pa1 pn1 pc1) (y_move rfl) ?_
 refine pl_val (.int .i64 (aT.length : Int)) (y_len' Sl43 (rs_len h1) rfl) ?_
 refine pl_val (.bool (decide (1048576 < (aT.length : Int)))) (y_gtr rfl rfl) ?_
 refine c_nil ?_
 rcases bif_some hs with ⟨d5, hs⟩ | ⟨d5, hs⟩
 ·refine c_condT (congrArg Value.bool d5) ?_
  refine c_sr ?_
  refine pl_val (.bool true) (y_assign rfl) ?_
  refine c_nil ?_
  refine wp_ret ?_
  cases hs
  exact ⟨_, fr_ovl 60 ⟨rfl, trivial⟩, hC⟩
 refine c_condF (congrArg Value.bool d5) ?_
 refine wp_skip ?_
 refine c_sr ?_
 refine pl_val (.int .i64 1048576) (y_assign rfl) ?_
 refine c_nil ?_
 refine c_sr ?_
 refine pl_val (.agg #[(.int .i64 aA.1), (.slice pa0 pn0 pc0)]) (y_load rfl ((box_load Ag24 Sz24 a0 [] [(.int .i64 aA.1), (.slice pa0 pn0 pc0)] [] rfl rfl (fun h => nomatch h)) _ (Chg.refl _ _))) ?_
 refine pl_val (.int .i64 1048576) (y_move rfl) ?_
 obtain ⟨r6, f3, hs⟩ := bind_some hs
 refine pl_call Bd8 rfl (c_laws_szAlgebra (M := M) (aA.1, aA.2) 1048576 h0 hO.fut f3) ?_
 rintro _ i0 ⟨rfl, c4⟩
 have h0 := h0.ext c4
 have h1 := h1.ext c4
 have a0 := a0.cn c4
 have hC := hC.ext c4
 have hO := hO.ext c4
 refine pl_val (.int .i64 r6) (y_assign rfl) ?_
 refine c_nil ?_
 refine c_seq ?_
 refine c_sr ?_
 refine pl_val (.int .i64 r6) (y_move rfl) ?_
 refine pl_val (.bool (decide (r6 < 0))) (y_lss rfl rfl) ?_
 refine c_nil ?_
 rcases bif_some hs with ⟨d6, hs⟩ | ⟨d6, hs⟩
 ·refine c_condT (congrArg Value.bool d6) ?_
  refine c_sr ?_
  refine pl_val (.bool true) (y_assign rfl) ?_
  refine c_nil ?_
  refine wp_ret ?_
  cases hs
  exact ⟨_, fr_ovl 60 ⟨rfl, trivial⟩, hC⟩
 refine c_condF (congrArg Value.bool d6) ?_
 refine wp_skip ?_
 refine c_sr ?_
 refine pl_val (.agg #[(.int .i64 aA.1), (.slice pa0 pn0 pc0)]) (y_load rfl ((box_load Ag24 Sz24 a0 [] [(.int .i64 aA.1), (.slice pa0 pn0 pc0)] [] rfl rfl (fun h => nomatch h)) _ (Chg.refl _ _))) ?_
 obtain ⟨r9, f4, hs⟩ := bind_some hs
 refine pl_call Bd11 rfl (c_laws_toAlgebra (M := M) (aA.1, aA.2) h0 hO.fut f4) ?_
 rintro _ i1 ⟨i2, i3, i4, d7, rfl, c5, c6, f5⟩
 have h0 := h0.ext c5
 have h1 := h1.ext c5
 have a0 := a0.cn c5
 have hC := hC.ext c5
 have hO := Own.join0 hO c5 f5
 have hO := hO.perm (R := d7 ++ (([b0]) ++ ([]))) (by simp)
 refine pl_val (.int .i64 aK) (y_move rfl) ?_
 refine pl_val (.slice pa1 pn1 pc1) (y_move rfl) ?_
 obtain ⟨r12, f6, hs⟩ := bind_some hs
 refine pl_call Bd20 rfl (c_laws_toIntS (M := M) aT h1 hO.fut f6) ?_
 rintro _ i5 ⟨i6, i7, i9, e4, rfl, b6, d8, f7⟩
 have h0 := h0.ext b6
 have h1 := h1.ext b6
 have a0 := a0.cn b6
 have c6 := c6.ext b6
 have hC := hC.ext b6
 have hO := Own.join0 hO b6 f7
 have hO := hO.perm (R := e4 ++ (d7 ++ (([b0]) ++ ([])))) (by simp)
 have hO := hO.fr1
 obtain ⟨r15, f8, hs⟩ := bind_some hs
 refine pl_call Bd19 rfl (c_spec_FreeElementOf (M := (Less (Less M d7) e4)) (r9.1, r9.2) aK r12 ((((Frz.os (Frz.pr Frz.int (Frz.os Frz.int)))).val c6 Less.sub Less.not).sub Less.sub) (((Frz.os Frz.int)).val (d8.sub Less.sub) Less.sub Less.not) (hO.less).less.fut f8) ?_
 rintro _ j0 ⟨rfl, b4⟩
 have h0 := h0.ext b4
 have h1 := h1.ext b4
 have a0 := a0.cn b4
 have c6 := c6.ext b4
 have d8 := d8.ext b4
 have hC := hC.ext b4
 have hO := hO.ext b4
 refine pl_val (.tuple #[(.int .i64 r15.1), (.bool r15.2)]) (y_move rfl) ?_
 refine pl_val (.int .i64 r15.1) (y_extract rfl (by kernel_rfl)) ?_
 refine pl_val (.bool r15.2) (y_extract rfl (by kernel_rfl)) ?_
 refine pl_val (.int .i64 r15.1) (y_assign rfl) ?_
 refine pl_val (.bool r15.2) (y_assign rfl) ?_
 refine c_nil ?_
 have hO := hO.drop
 have hO := hO.drop
 refine c_sr ?_
 refine pl_val (.agg #[(.int .i64 aA.1), (.slice pa0 pn0 pc0)]) (y_load rfl ((box_load Ag24 Sz24 a0 [] [(.int .i64 aA.1), (.slice pa0 pn0 pc0)] [] rfl rfl (fun h => nomatch h)) _ (Chg.refl _ _))) ?_
 obtain ⟨r17, f9, hs⟩ := bind_some hs
 refine pl_call Bd11 rfl (c_laws_toAlgebra (M := M) (aA.1, aA.2) h0 hO.fut f9) ?_
 rintro _ g0 ⟨b7, b8, b9, c0, rfl, c7, a1, g1⟩
 have h0 := h0.ext c7
 have h1 := h1.ext c7
 have a0 := a0.cn c7
 have hC := hC.ext c7
 have hO := Own.join0 hO c7 g1
 have hO := hO.perm (R := c0 ++ (([b0]) ++ ([]))) (by simp)
 obtain ⟨g2, c1, g3, e5, c2, e6⟩ := new_block g0 [(.int .i64 0), (.slice none 0 0)] 35
 refine pl_val (w' := g2) (.pointer (some ⟨c1, 0, none⟩)) (y_alloc (by rw [g3, e5]; kernel_rfl)) ?_
 have h0 := h0.ext c2
 have h1 := h1.ext c2
 have a0 := a0.cn c2
 have a1 := a1.ext c2
 have hC := hC.ext c2
 have hO := hO.new1 c2 e5 e6.lt
 obtain ⟨e7, g4, c3, a2⟩ := box_store (P := Try.prog) e6 [] [(.int .i64 0), (.slice none 0 0)] [] [(.int .i64 r17.1), (.slice b7 b8 b9)] rfl rfl (by intro u hu; simp only [List.mem_cons, List.not_mem_nil, or_false] at hu; rcases hu with rfl | rfl <;> rfl)
 refine pl_skip (w' := e7) (ys_store rfl rfl (g4 _ _ rfl Sz35)) ?_
 have h0 := h0.mt c3 hO same_
 have h1 := h1.mt c3 hO same_
 have a0 := a0.ap c3 hO same_ (mem_r (mem_l (List.mem_singleton.2 rfl)))
 have a1 := a1.ma c3 hO same_ (fun _ e => (mem_l (e)))
 have hC := hC.st c3 hO same_
 have hO := hO.ext c3
 have a2 : BoxV e7 c1 35 [(.int .i64 r17.1), (.slice b7 b8 b9)] := a2
 refine c_nil ?_
 refine c_sr ?_
 refine pl_val (.slice pa1 pn1 pc1) (y_move rfl) ?_
 obtain ⟨r22, g5, hs⟩ := bind_some hs
 refine pl_call Bd20 rfl (c_laws_toIntS (M := M) aT h1 hO.fut g5) ?_
 rintro _ j1 ⟨d0, d1, d2, c8, rfl, b5, a3, g6⟩
 have h0 := h0.ext b5
 have h1 := h1.ext b5
 have a0 := a0.cn b5
 have a1 := a1.ext b5
 have a2 := a2.cn b5
 have hC := hC.ext b5
 have hO := Own.join0 hO b5 g6
 have hO := hO.perm (R := c8 ++ (([c1]) ++ (c0 ++ (([b0]) ++ ([]))))) (by simp)
 refine pl_val (.slice d0 d1 d2) (y_assign rfl) ?_
 refine c_nil ?_
 refine c_sr ?_
 refine pl_val (.agg #[(.int .i64 r17.1), (.slice b7 b8 b9)]) (y_load rfl ((box_load Ag35 Sz35 a2 [] [(.int .i64 r17.1), (.slice b7 b8 b9)] [] rfl rfl (fun h => nomatch h)) _ (Chg.refl _ _))) ?_
 refine pl_val (.int .i64 aK) (y_move rfl) ?_
 refine pl_val (.slice d0 d1 d2) (y_move rfl) ?_
 have hO := hO.fr2
 obtain ⟨r25, g7, hs⟩ := bind_some hs
 refine pl_call Bd21 rfl (c_impl_FreeElementOf (M := (Less (Less M c0) c8)) (r17.1, r17.2) aK r22 ((((Frz.os (Frz.pr Frz.int (Frz.os Frz.int)))).val a1 Less.sub Less.not).sub Less.sub) (((Frz.os Frz.int)).val (a3.sub Less.sub) Less.sub Less.not) (hO.less).less.fut g7) ?_
 rintro _ e8 ⟨rfl, b1⟩
 have h0 := h0.ext b1
 have h1 := h1.ext b1
 have a0 := a0.cn b1
 have a1 := a1.ext b1
 have a2 := a2.cn b1
 have a3 := a3.ext b1
 have hC := hC.ext b1
 have hO := hO.ext b1
 refine pl_val (.tuple #[(.int .i64 r25.1), (.bool r25.2)]) (y_move rfl) ?_
 refine pl_val (.int .i64 r25.1) (y_extract rfl (by kernel_rfl)) ?_
 refine pl_val (.bool r25.2) (y_extract rfl (by kernel_rfl)) ?_
 refine pl_val (.int .i64 r25.1) (y_assign rfl) ?_
 refine pl_val (.bool r25.2) (y_assign rfl) ?_
 refine c_nil ?_
 refine c_seq ?_
 refine c_seq ?_
 refine c_mid (I := fun a d3 => ∃ (σ : Nat → Value), a = fr 60 (ovl σ [(2, (.slice pa1 pn1 pc1)), (3, (.pointer (some ⟨b0, 0, none⟩))), (6, (.bool false)), (10, (.pointer (some ⟨c1, 0, none⟩))), (11, (.slice d0 d1 d2)), (49, (.bool ((r25.1 != r15.1) || (!(r25.2 == r15.2)))))]) ∧ Chg [] e8 d3) ?_ ?_
 ·have hMid := Chg.refl [] e8
  refine c_region ?_
  refine pl_val (.int .i64 r25.1) (y_move rfl) ?_
  refine pl_val (.int .i64 r15.1) (y_move rfl) ?_
  refine pl_val (.bool (r25.1 != r15.1)) (y_neq rfl rfl) ?_
  refine pl_val (.bool (r25.1 != r15.1)) (y_move rfl) ?_
  rcases Bool.eq_false_or_eq_true ((r25.1 != r15.1)) with a5 | a5
  ·skip
   refine pl_not (tg := 45) (by kernel_rfl) (congrArg Value.bool a5) ?_
   refine pl_not (tg := 45) (by kernel_rfl) (congrArg Value.bool a5) ?_
   refine pl_not (tg := 45) (by kernel_rfl) (congrArg Value.bool a5) ?_
   refine pl_val (.bool ((r25.1 != r15.1) || (!(r25.2 == r15.2)))) (y_pick_t (congrArg Value.bool a5) (congrArg Value.bool (by rw [a5]; rfl))) ?_
   refine c_nil ?_
   exact ⟨_, fr_ovl 60 ⟨rfl, rfl, rfl, rfl, rfl, rfl, trivial⟩, hMid⟩
  refine pl_yes (.bool r25.2) (tg := 45) (by kernel_rfl) (congrArg Value.bool a5) (y_move rfl) ?_
  refine pl_yes (.bool r15.2) (tg := 45) (by kernel_rfl) (congrArg Value.bool a5) (y_move rfl) ?_
  refine pl_yes (.bool (!(r25.2 == r15.2))) (tg := 45) (by kernel_rfl) (congrArg Value.bool a5) (y_bneq Try.underlying4 rfl rfl) ?_
  refine pl_val (.bool ((r25.1 != r15.1) || (!(r25.2 == r15.2)))) (y_pick_f (congrArg Value.bool a5) (congrArg Value.bool (by rw [a5]; rfl))) ?_
  refine c_nil ?_
  exact ⟨_, fr_ovl 60 ⟨rfl, rfl, rfl, rfl, rfl, rfl, trivial⟩, hMid⟩
 rintro j2 d3 ⟨σ, rfl, b2⟩
 have h0 := h0.ext b2
 have h1 := h1.ext b2
 have a0 := a0.cn b2
 have a1 := a1.ext b2
 have a2 := a2.cn b2
 have a3 := a3.ext b2
 have hC := hC.ext b2
 have hO := hO.ext b2
 rcases bif_some hs with ⟨d9, hs⟩ | ⟨d9, hs⟩
 ·refine c_condT (congrArg Value.bool d9) ?_
  refine c_sr ?_
  refine pl_val (.bool false) (y_assign rfl) ?_
  refine c_nil ?_
  refine wp_ret ?_
  cases hs
  exact ⟨_, fr_ovl 60 ⟨rfl, trivial⟩, hC⟩
 refine c_condF (congrArg Value.bool d9) ?_
 refine wp_skip ?_
 refine c_seq ?_
 refine c_seq ?_
 refine x_start [] Mx rfl ?_
 have a8 := Chg.drew d3
 generalize World.drew d3 = g8 at a8 ⊢
 have h0 := h0.ext a8
 have h1 := h1.ext a8
 have a0 := a0.cn a8
 have a1 := a1.ext a8
 have a2 := a2.cn a8
 have a3 := a3.ext a8
 have hC := hC.ext a8
 have hO := hO.ext a8
 have hS := Chg.refl [] g8
 refine x_l 0 (.agg #[(.int .i64 r17.1), (.slice b7 b8 b9)]) rfl (by kernel_rfl)  (fun w' hw' => y_load rfl ((box_load Ag35 Sz35 a2 [] [(.int .i64 r17.1), (.slice b7 b8 b9)] [] rfl rfl (fun h => nomatch h)) w' hw')) hS ?_
 refine x_l 1 (.agg #[(.int .i64 aA.1), (.slice pa0 pn0 pc0)]) rfl (by kernel_rfl)  (fun w' hw' => y_load rfl ((box_load Ag24 Sz24 a0 [] [(.int .i64 aA.1), (.slice pa0 pn0 pc0)] [] rfl rfl (fun h => nomatch h)) w' hw')) hS ?_
 refine x_one (i := 2) (by kernel_rfl) ?_
 obtain ⟨r39, g9, hs⟩ := bind_some hs
 refine xk_call (b := false) rfl  Bd11 rfl (c_laws_toAlgebra (M := M) (aA.1, aA.2) h0 hO.fut g9) rfl (by rintro _ _ _ ⟨h2, h3, h4, d4, rfl, a6, b3, e9⟩; exact hS.ext a6) ?_
 rintro _ j3 ⟨h2, h3, h4, d4, rfl, a6, b3, e9⟩
 have h0 := h0.ext a6
 have h1 := h1.ext a6
 have a0 := a0.cn a6
 have a1 := a1.ext a6
 have a2 := a2.cn a6
 have a3 := a3.ext a6
 have hC := hC.ext a6
 have hO := Own.join0 hO a6 e9
 have hO := hO.perm (R := d4 ++ (c0 ++ (c8 ++ (([c1]) ++ (([b0]) ++ ([])))))) (by simp)
 have hS := hS.ext a6
 refine x_one (i := 3) (by kernel_rfl) ?_
 have hO := hO.fr1
 obtain ⟨r42, h5, hs⟩ := bind_some hs
 refine xk_call (b := false) rfl  Bd15 rfl (c_laws_eqAlgebra (M := (Less (Less M c0) d4)) (r17.1, r17.2) (r39.1, r39.2) ((((Frz.os (Frz.pr Frz.int (Frz.os Frz.int)))).val a1 Less.sub Less.not).sub Less.sub) (((Frz.os (Frz.pr Frz.int (Frz.os Frz.int)))).val (b3.sub Less.sub) Less.sub Less.not) (hO.less).less.fut h5) rfl (by rintro _ _ _ ⟨rfl, a4⟩; exact hS.ext a4) ?_
 rintro _ j4 ⟨rfl, a4⟩
 have h0 := h0.ext a4
 have h1 := h1.ext a4
 have a0 := a0.cn a4
 have a1 := a1.ext a4
 have a2 := a2.cn a4
 have a3 := a3.ext a4
 have b3 := b3.ext a4
 have hC := hC.ext a4
 have hO := hO.ext a4
 have hS := hS.ext a4
 refine x_p 4 (.bool (!r42)) rfl (by kernel_rfl)  (fun _ => y_not rfl) (fun _ => hS) ?_
 refine x_end (by kernel_rfl) ?_
 clear hS
 rcases bif_some hs with ⟨e0, hs⟩ | ⟨e0, hs⟩
 ·refine c_condT (congrArg Value.bool e0) ?_
  refine c_sr ?_
  refine pl_val (.bool false) (y_assign rfl) ?_
  refine c_nil ?_
  have hO := hO.drop
  have hO := hO.drop
  have hO := hO.fr1
  have hO := hO.drop
  have hO := hO.fr1
  have hO := hO.drop
  refine wp_ret ?_
  cases hs
  exact ⟨_, fr_ovl 60 ⟨rfl, trivial⟩, hC⟩
 refine c_condF (congrArg Value.bool e0) ?_
 refine wp_skip ?_
 refine c_seq ?_
 refine c_sr ?_
 refine pl_val (.slice d0 d1 d2) (y_move rfl) ?_
 refine pl_val (.slice pa1 pn1 pc1) (y_move rfl) ?_
 obtain ⟨r45, h6, hs⟩ := bind_some hs
 refine pl_call Bd20 rfl (c_laws_toIntS (M := M) aT h1 hO.fut h6) ?_
 rintro _ j5 ⟨j6, j7, j8, f0, rfl, a9, e1, h7⟩
 have h0 := h0.ext a9
 have h1 := h1.ext a9
 have a0 := a0.cn a9
 have a1 := a1.ext a9
 have a2 := a2.cn a9
 have a3 := a3.ext a9
 have b3 := b3.ext a9
 have hC := hC.ext a9
 have hO := Own.join0 hO a9 h7
 have hO := hO.perm (R := f0 ++ (c0 ++ (d4 ++ (c8 ++ (([c1]) ++ (([b0]) ++ ([]))))))) (by simp)
 have hO := hO.fr3
 obtain ⟨r48, h8, hs⟩ := bind_some hs
 refine pl_call Bd22 rfl (c_laws_eqIntS (M := (Less (Less M c8) f0)) r22 r45 ((((Frz.os Frz.int)).val a3 Less.sub Less.not).sub Less.sub) (((Frz.os Frz.int)).val (e1.sub Less.sub) Less.sub Less.not) (hO.less).less.fut h8) ?_
 rintro _ j9 ⟨rfl, a7⟩
 have h0 := h0.ext a7
 have h1 := h1.ext a7
 have a0 := a0.cn a7
 have a1 := a1.ext a7
 have a2 := a2.cn a7
 have a3 := a3.ext a7
 have b3 := b3.ext a7
 have e1 := e1.ext a7
 have hC := hC.ext a7
 have hO := hO.ext a7
 refine pl_val (.bool (!r48)) (y_not rfl) ?_
 refine c_nil ?_
 have hO := hO.drop
 have hO := hO.drop
 have hO := hO.drop
 have hO := hO.drop
 have hO := hO.drop
 have hO := hO.drop
 rcases bif_some hs with ⟨e2, hs⟩ | ⟨e2, hs⟩
 ·refine c_condT (congrArg Value.bool e2) ?_
  refine c_sr ?_
  refine pl_val (.bool false) (y_assign rfl) ?_
  refine c_nil ?_
  refine wp_ret ?_
  cases hs
  exact ⟨_, fr_ovl 60 ⟨rfl, trivial⟩, hC⟩
 refine c_condF (congrArg Value.bool e2) ?_
 refine wp_skip ?_
 refine c_sr ?_
 refine pl_val (.bool true) (y_assign rfl) ?_
 refine c_nil ?_
 refine wp_ret ?_
 cases hs
 exact ⟨_, fr_ovl 60 ⟨rfl, trivial⟩, hC⟩

end Go.Proofs
