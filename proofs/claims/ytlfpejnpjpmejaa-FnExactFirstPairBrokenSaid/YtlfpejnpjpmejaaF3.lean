/- What functions of the program compute, as plain functions, and that a call gives just that. Conditions: those named in each theorem. -/
import Derived.Test.YtlfpejnpjpmejaaF2
set_option linter.unusedVariables false
namespace Go.Proofs
open Go.G Go.RowKit
set_option maxRecDepth 100000

def k_impl_marked (M : Nat → Prop) (w0 : World) (r : (List Int)) (a : Act) (w : World) : Prop :=
  ∃ (σ : Nat → Value) (ra0 : Option Addr) (rn0 rc0 : Nat) (rf0 : List Nat), a = fr 21 (ovl σ [(2, (.slice ra0 rn0 rc0))]) ∧ Chg [] w0 w ∧ (RT.os 3 (RT.int .i64)).val M w (.slice ra0 rn0 rc0) r rf0 ∧ Own (Nw w0 []) (fun _ => True) w (rf0 ++ ([]))
def s_impl_marked (have_ : List Bool) : Option ((List Int)) :=
  (forC (S := (List Int)) (R := (List Int)) (fun k16 s14 =>
  (idx have_ k16).bind fun x24 =>
  (bif x24 then (app s14 ([k16])).bind fun y30 =>
  some (.nx y30) else some (.nx s14))) 0 (have_.length : Int) ([])).bind fun o18 => after o18 (fun r_ => some r_) (fun s14 =>
  some s14)
set_option maxHeartbeats 4000000 in
theorem c_impl_marked {M : Nat → Prop} {w : World} {pa0 : Option Addr} {pn0 pc0 : Nat} (have_ : List Bool) (h0 : (RT.rs RT.bool).val M w (.slice pa0 pn0 pc0) have_ ([])) (hM : ∀ g, w.heap.size ≤ g → M g) {r : (List Int)} (hs : s_impl_marked have_ = some r) :
    Gives Try.prog 65 [(.slice pa0 pn0 pc0)] w (fun v w' => ∃ (ra0 : Option Addr) (rn0 rc0 : Nat) (rf0 : List Nat), v = (.slice ra0 rn0 rc0) ∧ Chg [] w w' ∧ (RT.os 3 (RT.int .i64)).val M w' (.slice ra0 rn0 rc0) r rf0 ∧ Own (Nw w []) (fun _ => True) w' (rf0 ++ ([]))) := by
 refine calls_fr Try.func65 rfl Try.ntmps65 (Nat.le_of_ble_eq_true rfl) ?_
 have hO := Own.start (N := Nw w []) hM Nw.fut
 have hC := Chg.refl [] w
 unfold s_impl_marked at hs
 refine wp_mono (Q := KPost (k_impl_marked M w r)) ?_ (fun e a c9 h => ?_)
 rotate_left
 ·cases e
  case ret =>
   obtain ⟨σ, ra0, rn0, rc0, rf0, rfl, hrest⟩ := h
   exact ret1x Try.results65 (res_tmp rfl) ⟨ra0, rn0, rc0, rf0, rfl, hrest⟩
  all_goals exact (h : False).elim
 refine c_sr ?_
 refine pl_val (.slice none 0 0) (y_assign rfl) ?_
 refine c_nil ?_
 refine c_sr ?_
 obtain ⟨c2, a5, d0, c3, b2, c4⟩ := new_block w [] 3
 refine pl_val (w' := c2) (.slice (some ⟨a5, 0, none⟩) 0 0) (y_bslice rfl (by rw [d0, c3]; kernel_rfl)) ?_
 have h0 := h0.ext b2
 have hC := hC.ext b2
 have hO := hO.new1 b2 c3 c4.lt
 have b3 := os_of_box (r := (RT.int .i64)) (M := M) (css := []) (fps := []) (xs := ([] : List Int)) c4 trivial (Nat.zero_le _) (List.nodup_cons.2 ⟨(fun h => nomatch h), List.nodup_nil⟩)
 have b3 : (RT.os 3 (RT.int .i64)).val M c2 (.slice (some ⟨a5, 0, none⟩) 0 0) [] [a5] := b3
 refine pl_val (.slice (some ⟨a5, 0, none⟩) 0 0) (y_assign rfl) ?_
 refine c_nil ?_
 refine c_seq ?_
 refine c_sr ?_
 refine pl_val (.slice pa0 pn0 pc0) (y_move rfl) ?_
 refine pl_val (.int .i64 (have_.length : Int)) (y_len' Sl86 (rs_len h0) rfl) ?_
 refine pl_val (.int .i64 0) (y_move rfl) ?_
 refine c_nil ?_
 obtain ⟨o18, d1, hs⟩ := bind_some hs
 refine wp_block ?_
 refine wp_forC (id := 0) (have_.length : Int) (I := fun k16 s14 a a0 => ∃ (σ : Nat → Value) (a1 : Option Addr) (a2 : Nat) (a3 : Nat) (a6 : List Nat), a = fr 21 (ovl σ [(3, (.slice a1 a2 a3)), (7, (.slice pa0 pn0 pc0)), (8, (.int .i64 (have_.length : Int))), (9, (.int .i64 k16))]) ∧ Chg [] w a0 ∧ Own (Nw w []) M a0 (a6 ++ []) ∧ (RT.rs RT.bool).val M a0 (.slice pa0 pn0 pc0) have_ ([]) ∧ (RT.os 3 (RT.int .i64)).val M a0 (.slice a1 a2 a3) s14 a6) (J := fun s14 a a0 => ∃ (σ : Nat → Value) (a7 : Option Addr) (a8 : Nat) (a9 : Nat) (b0 : List Nat), a = fr 21 (ovl σ [(3, (.slice a7 a8 a9))]) ∧ Chg [] w a0 ∧ Own (Nw w []) M a0 (b0 ++ []) ∧ (RT.rs RT.bool).val M a0 (.slice pa0 pn0 pc0) have_ ([]) ∧ (RT.os 3 (RT.int .i64)).val M a0 (.slice a7 a8 a9) s14 b0) (K := (k_impl_marked M w)) ?_ ?_ 0 ([]) o18 _ _ ?_ d1 ?_
 ·rintro k16 s14 a a0 ⟨σ, a1, a2, a3, a6, rfl, hC, hO, h0, a4⟩ hlt
  refine c_sr ?_
  refine pl_val (.bool (decide (k16 < (have_.length : Int)))) (y_lss rfl rfl) ?_
  refine c_nil ?_
  refine c_seq ?_
  refine c_condF (congrArg Value.bool (decide_eq_false hlt)) ?_
  refine wp_exit ?_
  exact ⟨rfl, _, a1, a2, a3, a6, fr_ovl 21 ⟨rfl, trivial⟩, hC, hO, h0, a4⟩
 ·rintro k16 s14 o18 a a0 ⟨σ, a1, a2, a3, a6, rfl, hC, hO, h0, a4⟩ hlt hw hs
  refine c_sr ?_
  refine pl_val (.bool (decide (k16 < (have_.length : Int)))) (y_lss rfl rfl) ?_
  refine c_nil ?_
  refine c_seq ?_
  refine c_condT (congrArg Value.bool (decide_eq_true hlt)) ?_
  refine wp_skip ?_
  refine c_seq ?_
  refine wp_block ?_
  refine c_sr ?_
  refine pl_val (.int .i64 k16) (y_move rfl) ?_
  obtain ⟨x24, d2, hs⟩ := bind_some hs
  obtain ⟨d3, d4, d5, d6⟩ := rs_idx Sl86 Sz4 h0 d2
  refine pl_val (.pointer (some ⟨d3, d4, none⟩)) (d5 _ _ _ _ _ _ _ _ _ rfl rfl) ?_
  refine pl_val (.bool x24) (y_load rfl ((at_load_bool Ag4 Sz4 d6) _ (Chg.refl _ _))) ?_
  refine pl_val (.int .i64 k16) (y_assign rfl) ?_
  refine pl_val (.bool x24) (y_assign rfl) ?_
  refine c_nil ?_
  refine c_sr ?_
  refine pl_val (.bool x24) (y_move rfl) ?_
  refine c_nil ?_
  rcases bif_some hs with ⟨b4, hs⟩ | ⟨b4, hs⟩
  ·refine c_condT (congrArg Value.bool b4) ?_
   refine c_region ?_
   refine pl_val (.slice a1 a2 a3) (y_move rfl) ?_
   refine pl_val (.int .i64 k16) (y_move rfl) ?_
   obtain ⟨c5, b5, d7, c6, b1, c7⟩ := new_block a0 [(.int .i64 k16)] 3
   refine pl_val (w' := c5) (.slice (some ⟨b5, 0, none⟩) 1 1) (y_bslice rfl (by rw [d7, c6]; kernel_rfl)) ?_
   have h0 := h0.ext b1
   have a4 := a4.ext b1
   have hC := hC.ext b1
   have hO := hO.new1 b1 c6 c7.lt
   have b6 := os_of_box (r := (RT.int .i64)) (M := M) (css := [[(.int .i64 k16)]]) (fps := [([] : List Nat)]) (xs := ([k16] : List Int)) c7 ⟨⟨rfl, rfl⟩, trivial⟩ (Nat.le_of_ble_eq_true rfl) (List.nodup_cons.2 ⟨(fun h => nomatch h), List.nodup_nil⟩)
   have b6 : (RT.os 3 (RT.int .i64)).val M c5 (.slice (some ⟨b5, 0, none⟩) 1 1) [k16] [b5] := b6
   obtain ⟨y30, d8, hs⟩ := bind_some hs
   have hO := hO.fr1
   obtain ⟨b7, b8, b9, d9, e0, e1, c0, e2, c1⟩ := app_os Rw25 d8 a4 b6 hO.inM (fun g hg hq => hO.apart g hq (mem_l hg))
   have c8 := os_block a4
   refine pl_val (w' := d9) (.slice b7 b8 b9) (y_append rfl rfl (e1 _)) ?_
   have hO := hO.fr1
   have hO := hO.fr1
   have h0 := h0.mt c0 hO c8
   have hC := hC.st c0 hO c8
   have hO := hO.eat c0 e2 (os_nodup c1) c1.fpl
   refine pl_val (.slice b7 b8 b9) (y_assign rfl) ?_
   refine c_nil ?_
   refine c_region ?_
   refine pl_val (.int .i64 (w64 (k16 + 1))) (y_add rfl rfl) ?_
   refine pl_val (.int .i64 (w64 (k16 + 1))) (y_move rfl) ?_
   refine c_nil ?_
   cases hs
   exact ⟨_, b7, b8, b9, e0, fr_ovl 21 ⟨rfl, rfl, rfl, congrArg (Value.int .i64) hw, trivial⟩, hC, hO, h0, c1⟩
  refine c_condF (congrArg Value.bool b4) ?_
  refine wp_skip ?_
  refine c_region ?_
  refine pl_val (.int .i64 (w64 (k16 + 1))) (y_add rfl rfl) ?_
  refine pl_val (.int .i64 (w64 (k16 + 1))) (y_move rfl) ?_
  refine c_nil ?_
  cases hs
  exact ⟨_, a1, a2, a3, a6, fr_ovl 21 ⟨rfl, rfl, rfl, congrArg (Value.int .i64) hw, trivial⟩, hC, hO, h0, a4⟩
 ·skip
  exact ⟨_, (some ⟨a5, 0, none⟩), 0, 0, ([a5]), fr_ovl 21 ⟨rfl, rfl, rfl, rfl, trivial⟩, hC, hO, h0, b3⟩
 cases o18 with
 | nx _ => exact True.intro
 | rt r_ =>
  have hs := after_rt hs
  intro e3 c9 hK
  cases hs
  exact hK
 | br s14 =>
  have hs := after_br hs
  rintro e3 a0 ⟨σ, a7, a8, a9, b0, rfl, hC, hO, h0, e4⟩
  refine c_sr ?_
  refine pl_val (.slice a7 a8 a9) (y_move rfl) ?_
  refine pl_val (.slice a7 a8 a9) (y_assign rfl) ?_
  refine c_nil ?_
  refine wp_ret ?_
  cases hs
  exact ⟨_, a7, a8, a9, b0, fr_ovl 21 ⟨rfl, trivial⟩, hC, e4, hO.top⟩

def k_impl_argsAt (M : Nat → Prop) (w0 : World) (r : (List Int)) (a : Act) (w : World) : Prop :=
  ∃ (σ : Nat → Value) (ra0 : Option Addr) (rn0 rc0 : Nat) (rf0 : List Nat), a = fr 27 (ovl σ [(6, (.slice ra0 rn0 rc0))]) ∧ Chg [] w0 w ∧ (RT.os 3 (RT.int .i64)).val M w (.slice ra0 rn0 rc0) r rf0 ∧ Own (Nw w0 []) (fun _ => True) w (rf0 ++ ([]))
def s_impl_argsAt (i : Int) (k : Int) (n : Int) : Option ((List Int)) :=
  (mks k (0 : Int)).bind fun y2 =>
  (iter (S := Int × Int × (List Int)) (R := (List Int)) (fun s17 =>
  (bif (decide (0 ≤ s17.2.1)) then (nz n).bind fun u26 =>
  (idx s17.2.2 s17.2.1).bind fun x27 =>
  (nz n).bind fun u30 =>
  some (.nx (w64 (Int.tdiv s17.1 n), w64 (s17.2.1 - 1), List.set s17.2.2 (Int.toNat s17.2.1) (Int.tmod s17.1 n))) else some (.br (s17.1, s17.2.1, s17.2.2)))) FU (i, w64 (k - 1), y2)).bind fun o21 => after o21 (fun r_ => some r_) (fun s17 =>
  some s17.2.2)
set_option maxHeartbeats 4000000 in
theorem c_impl_argsAt {M : Nat → Prop} {w : World}  (i : Int) (k : Int) (n : Int)  (hM : ∀ g, w.heap.size ≤ g → M g) {r : (List Int)} (hs : s_impl_argsAt i k n = some r) :
    Gives Try.prog 93 [(.int .i64 i), (.int .i64 k), (.int .i64 n)] w (fun v w' => ∃ (ra0 : Option Addr) (rn0 rc0 : Nat) (rf0 : List Nat), v = (.slice ra0 rn0 rc0) ∧ Chg [] w w' ∧ (RT.os 3 (RT.int .i64)).val M w' (.slice ra0 rn0 rc0) r rf0 ∧ Own (Nw w []) (fun _ => True) w' (rf0 ++ ([]))) := by
 refine calls_fr Try.func93 rfl Try.ntmps93 (Nat.le_of_ble_eq_true rfl) ?_
 have hO := Own.start (N := Nw w []) hM Nw.fut
 have hC := Chg.refl [] w
 unfold s_impl_argsAt at hs
 refine wp_mono (Q := KPost (k_impl_argsAt M w r)) ?_ (fun e a a7 h => ?_)
 rotate_left
 ·cases e
  case ret =>
   obtain ⟨σ, ra0, rn0, rc0, rf0, rfl, hrest⟩ := h
   exact ret1x Try.results93 (res_tmp rfl) ⟨ra0, rn0, rc0, rf0, rfl, hrest⟩
  all_goals exact (h : False).elim
 refine c_sr ?_
 refine pl_val (.slice none 0 0) (y_assign rfl) ?_
 refine c_nil ?_
 refine c_sr ?_
 refine pl_val (.int .i64 k) (y_move rfl) ?_
 obtain ⟨y2, b5, hs⟩ := bind_some hs
 obtain ⟨a0, a1, a2, a7, b6, b7, b1, b8, a8⟩ := mk_os (M := M) (w := w) (r := (RT.int .i64)) Rw25 b5 (fun _ _ => ⟨rfl, rfl⟩)
 refine pl_val (w' := a7) (.slice a0 a1 a2) (y_make rfl rfl b7) ?_
 have hC := hC.ext b1
 have hO := hO.new b1 b8 (os_nodup a8) a8.fpl
 refine pl_val (.slice a0 a1 a2) (y_assign rfl) ?_
 refine c_nil ?_
 refine c_seq ?_
 refine c_sr ?_
 refine pl_val (.int .i64 k) (y_move rfl) ?_
 refine pl_val (.int .i64 (w64 (k - 1))) (y_sub rfl rfl) ?_
 refine pl_val (.int .i64 (w64 (k - 1))) (y_assign rfl) ?_
 refine c_nil ?_
 obtain ⟨o21, b9, hs⟩ := bind_some hs
 refine wp_block ?_
 refine wp_iter (id := 0) (I := fun s17 a a3 => ∃ (σ : Nat → Value) (a4 : List Nat), a = fr 27 (ovl σ [(0, (.int .i64 s17.1)), (2, (.int .i64 n)), (7, (.slice a0 a1 a2)), (8, (.int .i64 s17.2.1))]) ∧ Chg [] w a3 ∧ Own (Nw w []) M a3 (a4 ++ []) ∧ (RT.os 3 (RT.int .i64)).val M a3 (.slice a0 a1 a2) s17.2.2 a4) (J := fun s17 a a3 => ∃ (σ : Nat → Value) (a6 : List Nat), a = fr 27 (ovl σ [(7, (.slice a0 a1 a2))]) ∧ Chg [] w a3 ∧ Own (Nw w []) M a3 (a6 ++ []) ∧ (RT.os 3 (RT.int .i64)).val M a3 (.slice a0 a1 a2) s17.2.2 a6) (K := (k_impl_argsAt M w)) ?_ FU (i, w64 (k - 1), y2) o21 _ _ ?_ b9 ?_
 ·rintro s17 o21 a a3 ⟨σ, a4, rfl, hC, hO, a5⟩ hs
  refine c_seq ?_
  refine c_sr ?_
  refine pl_val (.int .i64 s17.2.1) (y_move rfl) ?_
  refine pl_val (.bool (decide (0 ≤ s17.2.1))) (y_geq rfl rfl) ?_
  refine c_nil ?_
  rcases bif_some hs with ⟨a9, hs⟩ | ⟨a9, hs⟩
  ·refine c_condT (congrArg Value.bool a9) ?_
   refine wp_skip ?_
   refine c_seq ?_
   refine wp_block ?_
   refine c_sr ?_
   refine pl_val (.slice a0 a1 a2) (y_move rfl) ?_
   refine pl_val (.int .i64 s17.2.1) (y_move rfl) ?_
   refine pl_val (.int .i64 s17.1) (y_move rfl) ?_
   refine pl_val (.int .i64 n) (y_move rfl) ?_
   obtain ⟨u26, c0, hs⟩ := bind_some hs
   refine pl_val (.int .i64 (Int.tmod s17.1 n)) (y_rem rfl rfl (nz_ne c0)) ?_
   obtain ⟨x27, c1, hs⟩ := bind_some hs
   obtain ⟨b2, d1, b3, c2, c3, d2, d3⟩ := os_idx Sl25 Sz3 a5 c1
   refine pl_val (.pointer (some ⟨b2, 0 + Int.toNat s17.2.1 * 1, none⟩)) (c3 _ _ _ _ _ _ _ _ _ rfl rfl) ?_
   obtain ⟨c4, c5, c6, b4, c7, b0⟩ := os_store (P := Try.prog) (c' := [(.int .i64 (Int.tmod s17.1 n))]) b3 a5 c2 (fun g hg => hO.inM g (os_block a5 g (by simpa using hg))) ⟨rfl, rfl⟩ List.nodup_nil (fun _ h => nomatch h) (fun _ h => .inl h)
   have c8 : ∀ q ∈ [b2], q ∈ a4 := fun q hq => os_block a5 q (by rw [b3]; exact hq)
   refine pl_skip (w' := c4) (ys_store rfl rfl (c6 _ _ rfl Sz3)) ?_
   have hC := hC.st b4 hO c8
   have hO := hO.grow b4 (fun q hq => .inl ((c7 q hq).resolve_right (fun h => nomatch h))) (os_nodup b0) b0.fpl
   refine c_nil ?_
   refine c_region ?_
   refine pl_val (.int .i64 s17.1) (y_move rfl) ?_
   refine pl_val (.int .i64 n) (y_move rfl) ?_
   obtain ⟨u30, c9, hs⟩ := bind_some hs
   refine pl_val (.int .i64 (w64 (Int.tdiv s17.1 n))) (y_quo rfl rfl (nz_ne c9)) ?_
   refine pl_val (.int .i64 (w64 (Int.tdiv s17.1 n))) (y_assign rfl) ?_
   refine c_nil ?_
   refine c_region ?_
   refine pl_val (.int .i64 s17.2.1) (y_move rfl) ?_
   refine pl_val (.int .i64 (w64 (s17.2.1 - 1))) (y_sub rfl rfl) ?_
   refine pl_val (.int .i64 (w64 (s17.2.1 - 1))) (y_assign rfl) ?_
   refine c_nil ?_
   cases hs
   exact ⟨_, c5, fr_ovl 27 ⟨rfl, rfl, rfl, rfl, trivial⟩, hC, hO, b0⟩
  refine c_condF (congrArg Value.bool a9) ?_
  refine wp_exit ?_
  cases hs
  exact ⟨rfl, _, a4, fr_ovl 27 ⟨rfl, trivial⟩, hC, hO, a5⟩
 ·skip
  exact ⟨_, b6, fr_ovl 27 ⟨rfl, rfl, rfl, rfl, trivial⟩, hC, hO, a8⟩
 cases o21 with
 | nx _ => exact True.intro
 | rt r_ =>
  have hs := after_rt hs
  intro a0 a7 hK
  cases hs
  exact hK
 | br s17 =>
  have hs := after_br hs
  rintro a0 a3 ⟨σ, a6, rfl, hC, hO, d0⟩
  refine c_sr ?_
  refine pl_val (.slice a0 a1 a2) (y_move rfl) ?_
  refine pl_val (.slice a0 a1 a2) (y_assign rfl) ?_
  refine c_nil ?_
  refine wp_ret ?_
  cases hs
  exact ⟨_, a0, a1, a2, a6, fr_ovl 27 ⟨rfl, trivial⟩, hC, d0, hO.top⟩

theorem Bd65 : Bodied Try.prog 65 := bodied Try.func65 (by kernel_rfl) rfl

theorem Bd93 : Bodied Try.prog 93 := bodied Try.func93 (by kernel_rfl) rfl

def k_impl_closePairs__take2 (M : Nat → Prop) (w0 : World) (qa0 : Option Addr) (qn0 qc0 : Nat) (qf0 : List Nat) (r : (List Bool)) (a : Act) (w : World) : Prop :=
  ∃ (σ : Nat → Value) (ra0 : Option Addr) (rn0 rc0 : Nat) (rf0 : List Nat), a = fr 90 (ovl σ [(6, (.slice ra0 rn0 rc0))]) ∧ Chg (qf0 ++ ([])) w0 w ∧ (RT.os 4 RT.bool).val M w (.slice ra0 rn0 rc0) r rf0 ∧ Own (Nw w0 (qf0 ++ ([]))) (fun _ => True) w (rf0 ++ ([]))
def s_impl_closePairs__take2 (n : Int) (ops : List (Int × (List Int))) (have_ : List Bool) : Option ((List Bool)) :=
  (iter (S := Bool × (List Bool)) (R := (List Bool)) (fun s907 =>
  (bif s907.1 then (s_impl_marked s907.2).bind fun r917 =>
  (forR (S := Bool × (List Bool)) (R := (List Bool)) (fun _ x1215 s1212 =>
  (iter (S := Bool × Int × (List Bool)) (R := (List Bool)) (fun s1314 =>
  (s_impl_power (r917.length : Int) x1215.1).bind fun r1323 =>
  (bif (decide (s1314.2.1 < r1323)) then (s_impl_argsAt s1314.2.1 x1215.1 (r917.length : Int)).bind fun r1326 =>
  (forR (S := Int × Int) (R := (List Bool)) (fun _ x1339 s1336 =>
  (idx r917 x1339).bind fun x1344 =>
  (nz n).bind fun u1346 =>
  (idx r917 x1339).bind fun x1347 =>
  (nz n).bind fun u1349 =>
  some (.nx (w64 ((w64 (s1336.1 * n)) + (w64 (Int.tdiv x1344 n))), w64 ((w64 (s1336.2 * n)) + (Int.tmod x1347 n))))) 0 r1326 (0, 0)).bind fun o1340 => after o1340 (fun r_ => some (.rt r_)) (fun s1336 =>
  (idx x1215.2 s1336.1).bind fun x1356 =>
  (idx x1215.2 s1336.2).bind fun x1358 =>
  (idx s1314.2.2 (w64 ((w64 (x1356 * n)) + x1358))).bind fun x1360 =>
  (bif (!x1360) then (idx s1314.2.2 (w64 ((w64 (x1356 * n)) + x1358))).bind fun x1363 =>
  some (.nx (true, w64 (s1314.2.1 + 1), List.set s1314.2.2 (Int.toNat (w64 ((w64 (x1356 * n)) + x1358))) true)) else some (.nx (s1314.1, w64 (s1314.2.1 + 1), s1314.2.2)))) else some (.br (s1314.1, s1314.2.1, s1314.2.2)))) FU (s1212.1, 0, s1212.2)).bind fun o1318 => after o1318 (fun r_ => some (.rt r_)) (fun s1314 =>
  some (.nx (s1314.1, s1314.2.2)))) 0 ops (false, s907.2)).bind fun o1216 => after o1216 (fun r_ => some (.rt r_)) (fun s1212 =>
  some (.nx (s1212.1, s1212.2))) else some (.br (s907.1, s907.2)))) FU (true, have_)).bind fun o911 => after o911 (fun r_ => some r_) (fun s907 =>
  some s907.2)
set_option maxHeartbeats 4000000 in
theorem c_impl_closePairs__take2 {M : Nat → Prop} {w : World} {pa0 : Option Addr} {pn0 pc0 : Nat} {pa1 : Option Addr} {pn1 pc1 : Nat} {pf1 : List Nat} (n : Int) (ops : List (Int × (List Int))) (have_ : List Bool) (h0 : (RT.rs (RT.pr (RT.int .i64) (RT.rs (RT.int .i64)))).val M w (.slice pa0 pn0 pc0) ops ([])) (h1 : (RT.os 4 RT.bool).val M w (.slice pa1 pn1 pc1) have_ pf1) (hI : Own (Nw w (pf1 ++ ([]))) M w (pf1 ++ ([]))) (hM : ∀ g, w.heap.size ≤ g → M g) {r : (List Bool)} (hs : s_impl_closePairs__take2 n ops have_ = some r) :
    Gives Try.prog 74 [(.int .i64 n), (.slice pa0 pn0 pc0), (.slice pa1 pn1 pc1)] w (fun v w' => ∃ (ra0 : Option Addr) (rn0 rc0 : Nat) (rf0 : List Nat), v = (.slice ra0 rn0 rc0) ∧ Chg (pf1 ++ ([])) w w' ∧ (RT.os 4 RT.bool).val M w' (.slice ra0 rn0 rc0) r rf0 ∧ Own (Nw w (pf1 ++ ([]))) (fun _ => True) w' (rf0 ++ ([]))) := by
 refine calls_fr Try.func74 rfl Try.ntmps74 (Nat.le_of_ble_eq_true rfl) ?_
 have hO := hI
 have hC := Chg.refl (pf1 ++ ([])) w
 unfold s_impl_closePairs__take2 at hs
 refine wp_mono (Q := KPost (k_impl_closePairs__take2 M w pa1 pn1 pc1 pf1 r)) ?_ (fun e a d4 h => ?_)
 rotate_left
 ·cases e
  case ret =>
   obtain ⟨σ, ra0, rn0, rc0, rf0, rfl, hrest⟩ := h
   exact ret1x Try.results74 (res_tmp rfl) ⟨ra0, rn0, rc0, rf0, rfl, hrest⟩
  all_goals exact (h : False).elim
 refine c_sr ?_
 refine pl_val (.slice none 0 0) (y_assign rfl) ?_
 refine c_nil ?_
 refine c_seq ?_
 refine c_sr ?_
 refine pl_val (.bool true) (y_assign rfl) ?_
 refine c_nil ?_
 obtain ⟨o911, f1, hs⟩ := bind_some hs
 refine wp_block ?_
 refine wp_iter (id := 0) (I := fun s907 a b7 => ∃ (σ : Nat → Value) (c2 : List Nat), a = fr 90 (ovl σ [(0, (.int .i64 n)), (1, (.slice pa0 pn0 pc0)), (2, (.slice pa1 pn1 pc1)), (7, (.bool s907.1))]) ∧ Chg (pf1 ++ ([])) w b7 ∧ Own (Nw w (pf1 ++ ([]))) M b7 (c2 ++ []) ∧ (RT.rs (RT.pr (RT.int .i64) (RT.rs (RT.int .i64)))).val M b7 (.slice pa0 pn0 pc0) ops ([]) ∧ (RT.os 4 RT.bool).val M b7 (.slice pa1 pn1 pc1) s907.2 c2) (J := fun s907 a b7 => ∃ (σ : Nat → Value) (d5 : List Nat), a = fr 90 (ovl σ [(2, (.slice pa1 pn1 pc1))]) ∧ Chg (pf1 ++ ([])) w b7 ∧ Own (Nw w (pf1 ++ ([]))) M b7 (d5 ++ []) ∧ (RT.rs (RT.pr (RT.int .i64) (RT.rs (RT.int .i64)))).val M b7 (.slice pa0 pn0 pc0) ops ([]) ∧ (RT.os 4 RT.bool).val M b7 (.slice pa1 pn1 pc1) s907.2 d5) (K := (k_impl_closePairs__take2 M w pa1 pn1 pc1 pf1)) ?_ FU (true, have_) o911 _ _ ?_ f1 ?_
 ·rintro s907 o911 a b7 ⟨σ, c2, rfl, hC, hO, h0, d2⟩ hs
  refine c_seq ?_
  refine c_sr ?_
  refine pl_val (.bool s907.1) (y_move rfl) ?_
  refine c_nil ?_
  rcases bif_some hs with ⟨d9, hs⟩ | ⟨d9, hs⟩
  ·refine c_condT (congrArg Value.bool d9) ?_
   refine wp_skip ?_
   refine wp_block ?_
   refine c_sr ?_
   refine pl_val (.bool false) (y_assign rfl) ?_
   refine c_nil ?_
   refine c_sr ?_
   refine pl_val (.slice pa1 pn1 pc1) (y_move rfl) ?_
   obtain ⟨r917, f2, hs⟩ := bind_some hs
   refine pl_call Bd65 rfl (c_impl_marked (M := (Less M c2)) s907.2 (((Frz.os Frz.bool)).val d2 Less.sub Less.not) hO.less.fut f2) ?_
   rintro _ l6 ⟨b0, b1, b2, b5, rfl, d6, a0, f3⟩
   have h0 := h0.ext d6
   have d2 := d2.ext d6
   have hC := hC.ext d6
   have hO := Own.join0 hO d6 f3
   have hO := hO.perm (R := b5 ++ (c2 ++ ([]))) (by simp)
   have a0 := a0.free (M' := M) (Free.os Free.int)
   refine pl_val (.slice b0 b1 b2) (y_assign rfl) ?_
   refine c_nil ?_
   refine c_sr ?_
   refine pl_val (.slice pa0 pn0 pc0) (y_move rfl) ?_
   refine pl_val (.int .i64 (ops.length : Int)) (y_len' Sl32 (rs_len h0) rfl) ?_
   refine pl_val (.int .i64 0) (y_move rfl) ?_
   refine c_nil ?_
   obtain ⟨o1216, f4, hs⟩ := bind_some hs
   refine wp_block ?_
   refine wp_forR (id := 2) (I := fun i_ xs_ s1212 a b3 => ∃ b6 : Nat, i_ = (b6 : Int) ∧ List.drop b6 ops = xs_ ∧ (∃ (σ : Nat → Value) (c8 : List Nat), a = fr 90 (ovl σ [(0, (.int .i64 n)), (1, (.slice pa0 pn0 pc0)), (2, (.slice pa1 pn1 pc1)), (7, (.bool s1212.1)), (8, (.slice b0 b1 b2)), (20, (.slice pa0 pn0 pc0)), (21, (.int .i64 (ops.length : Int))), (22, (.int .i64 (b6 : Int)))]) ∧ Chg (pf1 ++ ([])) w b3 ∧ Own (Nw w (pf1 ++ ([]))) M b3 (b5 ++ (c8 ++ [])) ∧ (RT.rs (RT.pr (RT.int .i64) (RT.rs (RT.int .i64)))).val M b3 (.slice pa0 pn0 pc0) ops ([]) ∧ (RT.os 4 RT.bool).val M b3 (.slice pa1 pn1 pc1) s1212.2 c8 ∧ (RT.os 3 (RT.int .i64)).val M b3 (.slice b0 b1 b2) r917 b5)) (J := fun s1212 a b3 => ∃ (σ : Nat → Value) (d7 : List Nat), a = fr 90 (ovl σ [(0, (.int .i64 n)), (1, (.slice pa0 pn0 pc0)), (2, (.slice pa1 pn1 pc1)), (7, (.bool s1212.1))]) ∧ Chg (pf1 ++ ([])) w b3 ∧ Own (Nw w (pf1 ++ ([]))) M b3 (b5 ++ (d7 ++ [])) ∧ (RT.rs (RT.pr (RT.int .i64) (RT.rs (RT.int .i64)))).val M b3 (.slice pa0 pn0 pc0) ops ([]) ∧ (RT.os 4 RT.bool).val M b3 (.slice pa1 pn1 pc1) s1212.2 d7 ∧ (RT.os 3 (RT.int .i64)).val M b3 (.slice b0 b1 b2) r917 b5) (K := (k_impl_closePairs__take2 M w pa1 pn1 pc1 pf1)) ?_ ?_ ops 0 (false, s907.2) o1216 _ _ ?_ f4 ?_
   ·rintro _ s1212 a b3 ⟨b6, rfl, hd, σ, c8, rfl, hC, hO, h0, c3, a0⟩
    have hlt := drop_nil_ge hd
    refine c_sr ?_
    refine pl_val (.bool (decide ((b6 : Int) < (ops.length : Int)))) (y_lss rfl rfl) ?_
    refine c_nil ?_
    refine c_seq ?_
    refine c_condF (congrArg Value.bool (decide_eq_false hlt)) ?_
    refine wp_exit ?_
    have hO := hO.fr1
    have hO := hO.fr1
    exact ⟨rfl, _, c8, fr_ovl 90 ⟨rfl, rfl, rfl, rfl, trivial⟩, hC, hO, h0, c3, a0⟩
   ·rintro _ x1215 xs_ s1212 o1216 a b3 ⟨b6, rfl, hd, σ, c8, rfl, hC, hO, h0, c3, a0⟩ hs
    have hlt := drop_cons_lt hd
    have f5 := drop_cons_idx hd
    refine c_sr ?_
    refine pl_val (.bool (decide ((b6 : Int) < (ops.length : Int)))) (y_lss rfl rfl) ?_
    refine c_nil ?_
    refine c_seq ?_
    refine c_condT (congrArg Value.bool (decide_eq_true hlt)) ?_
    refine wp_skip ?_
    refine c_seq ?_
    refine wp_block ?_
    refine c_sr ?_
    obtain ⟨f6, f7, f8, f9⟩ := rs_idx Sl32 Sz36 h0 f5
    refine pl_val (.pointer (some ⟨f6, f7, none⟩)) (f8 _ _ _ _ _ _ _ _ _ rfl rfl) ?_
    obtain ⟨l7, g0, g1⟩ := at_load Ag36 Sz36 (by intro h; cases h) f9
    obtain ⟨l8, rfl, g2⟩ := g1
    obtain ⟨l9, m0, rfl, g3, g4⟩ := pr_open g2
    obtain rfl := int_rel g3
    obtain ⟨a6, a7, a8, rfl, a1⟩ := rs_rel g4
    refine pl_val (.agg #[(.int .i64 x1215.1), (.slice a6 a7 a8)]) (y_load rfl (g0 _ (Chg.refl _ _))) ?_
    obtain ⟨g5, a5, g6, e6, c9, e7⟩ := new_block b3 [(.int .i64 0), (.slice none 0 0)] 36
    refine pl_val (w' := g5) (.pointer (some ⟨a5, 0, none⟩)) (y_alloc (by rw [g6, e6]; kernel_rfl)) ?_
    have h0 := h0.ext c9
    have c3 := c3.ext c9
    have a0 := a0.ext c9
    have a1 := a1.ext c9
    have hC := hC.ext c9
    have hO := hO.new1 c9 e6 e7.lt
    obtain ⟨e8, g7, d0, a2⟩ := box_store (P := Try.prog) e7 [] [(.int .i64 0), (.slice none 0 0)] [] [(.int .i64 x1215.1), (.slice a6 a7 a8)] rfl rfl (by intro u hu; simp only [List.mem_cons, List.not_mem_nil, or_false] at hu; rcases hu with rfl | rfl <;> rfl)
    refine pl_skip (w' := e8) (ys_store rfl rfl (g7 _ _ rfl Sz36)) ?_
    have h0 := h0.mt d0 hO same_
    have c3 := c3.ma d0 hO same_ (fun _ e => (mem_r (mem_l (e))))
    have a0 := a0.ma d0 hO same_ (fun _ e => (mem_l (e)))
    have a1 := a1.mt d0 hO same_
    have hC := hC.st d0 hO same_
    have hO := hO.ext d0
    have a2 : BoxV e8 a5 36 [(.int .i64 x1215.1), (.slice a6 a7 a8)] := a2
    refine c_nil ?_
    refine c_sr ?_
    refine pl_val (.int .i64 0) (y_assign rfl) ?_
    refine c_nil ?_
    obtain ⟨o1318, g8, hs⟩ := bind_some hs
    refine wp_block ?_
    refine wp_iter (id := 4) (I := fun s1314 a a9 => ∃ (σ : Nat → Value) (b8 : List Nat), a = fr 90 (ovl σ [(0, (.int .i64 n)), (1, (.slice pa0 pn0 pc0)), (2, (.slice pa1 pn1 pc1)), (7, (.bool s1314.1)), (8, (.slice b0 b1 b2)), (10, (.pointer (some ⟨a5, 0, none⟩))), (11, (.int .i64 s1314.2.1)), (20, (.slice pa0 pn0 pc0)), (21, (.int .i64 (ops.length : Int))), (22, (.int .i64 (b6 : Int)))]) ∧ Chg (pf1 ++ ([])) w a9 ∧ Own (Nw w (pf1 ++ ([]))) M a9 (([a5]) ++ (b5 ++ (b8 ++ []))) ∧ (RT.rs (RT.pr (RT.int .i64) (RT.rs (RT.int .i64)))).val M a9 (.slice pa0 pn0 pc0) ops ([]) ∧ (RT.os 4 RT.bool).val M a9 (.slice pa1 pn1 pc1) s1314.2.2 b8 ∧ (RT.os 3 (RT.int .i64)).val M a9 (.slice b0 b1 b2) r917 b5 ∧ (RT.rs (RT.int .i64)).val M a9 (.slice a6 a7 a8) x1215.2 ([]) ∧ BoxV a9 a5 36 [(.int .i64 x1215.1), (.slice a6 a7 a8)]) (J := fun s1314 a a9 => ∃ (σ : Nat → Value) (d8 : List Nat), a = fr 90 (ovl σ [(0, (.int .i64 n)), (1, (.slice pa0 pn0 pc0)), (2, (.slice pa1 pn1 pc1)), (7, (.bool s1314.1)), (8, (.slice b0 b1 b2)), (20, (.slice pa0 pn0 pc0)), (21, (.int .i64 (ops.length : Int))), (22, (.int .i64 (b6 : Int)))]) ∧ Chg (pf1 ++ ([])) w a9 ∧ Own (Nw w (pf1 ++ ([]))) M a9 (([a5]) ++ (b5 ++ (d8 ++ []))) ∧ (RT.rs (RT.pr (RT.int .i64) (RT.rs (RT.int .i64)))).val M a9 (.slice pa0 pn0 pc0) ops ([]) ∧ (RT.os 4 RT.bool).val M a9 (.slice pa1 pn1 pc1) s1314.2.2 d8 ∧ (RT.os 3 (RT.int .i64)).val M a9 (.slice b0 b1 b2) r917 b5 ∧ (RT.rs (RT.int .i64)).val M a9 (.slice a6 a7 a8) x1215.2 ([]) ∧ BoxV a9 a5 36 [(.int .i64 x1215.1), (.slice a6 a7 a8)]) (K := (k_impl_closePairs__take2 M w pa1 pn1 pc1 pf1)) ?_ FU (s1212.1, 0, s1212.2) o1318 _ _ ?_ g8 ?_
    ·rintro s1314 o1318 a a9 ⟨σ, b8, rfl, hC, hO, h0, a4, a0, a1, a2⟩ hs
     refine c_seq ?_
     refine c_sr ?_
     refine pl_val (.int .i64 s1314.2.1) (y_move rfl) ?_
     refine pl_val (.slice b0 b1 b2) (y_move rfl) ?_
     refine pl_val (.int .i64 (r917.length : Int)) (y_len' Sl25 (os_len a0) rfl) ?_
     refine pl_val (.pointer (some ⟨a5, 0, none⟩)) (y_faddr rfl Fa36x0) ?_
     refine pl_val (.int .i64 x1215.1) (y_load rfl ((box_load Ag3 Sz3 a2 [] [(.int .i64 x1215.1)] [(.slice a6 a7 a8)] rfl rfl (fun _ => rfl)) _ (Chg.refl _ _))) ?_
     obtain ⟨r1323, g9, hs⟩ := bind_some hs
     refine pl_call Bd61 rfl (c_impl_power (M := M) (r917.length : Int) x1215.1  hO.fut g9) ?_
     rintro _ m1 ⟨rfl, c4⟩
     have h0 := h0.ext c4
     have a4 := a4.ext c4
     have a0 := a0.ext c4
     have a1 := a1.ext c4
     have a2 := a2.cn c4
     have hC := hC.ext c4
     have hO := hO.ext c4
     refine pl_val (.bool (decide (s1314.2.1 < r1323))) (y_lss rfl rfl) ?_
     refine c_nil ?_
     rcases bif_some hs with ⟨e0, hs⟩ | ⟨e0, hs⟩
     ·refine c_condT (congrArg Value.bool e0) ?_
      refine wp_skip ?_
      refine c_seq ?_
      refine wp_block ?_
      refine c_sr ?_
      refine pl_val (.int .i64 0) (y_assign rfl) ?_
      refine pl_val (.int .i64 0) (y_assign rfl) ?_
      refine c_nil ?_
      refine c_seq ?_
      refine c_sr ?_
      refine pl_val (.int .i64 s1314.2.1) (y_move rfl) ?_
      refine pl_val (.pointer (some ⟨a5, 0, none⟩)) (y_faddr rfl Fa36x0) ?_
      refine pl_val (.int .i64 x1215.1) (y_load rfl ((box_load Ag3 Sz3 a2 [] [(.int .i64 x1215.1)] [(.slice a6 a7 a8)] rfl rfl (fun _ => rfl)) _ (Chg.refl _ _))) ?_
      refine pl_val (.slice b0 b1 b2) (y_move rfl) ?_
      refine pl_val (.int .i64 (r917.length : Int)) (y_len' Sl25 (os_len a0) rfl) ?_
      obtain ⟨r1326, h2, hs⟩ := bind_some hs
      refine pl_call Bd93 rfl (c_impl_argsAt (M := M) s1314.2.1 x1215.1 (r917.length : Int)  hO.fut h2) ?_
      rintro _ m2 ⟨e1, e2, e3, d3, rfl, c5, b4, h3⟩
      have h0 := h0.ext c5
      have a4 := a4.ext c5
      have a0 := a0.ext c5
      have a1 := a1.ext c5
      have a2 := a2.cn c5
      have hC := hC.ext c5
      have hO := Own.join0 hO c5 h3
      have hO := hO.perm (R := d3 ++ (([a5]) ++ (b5 ++ (b8 ++ ([]))))) (by simp)
      refine pl_val (.int .i64 (r1326.length : Int)) (y_len' Sl25 (os_len b4) rfl) ?_
      refine pl_val (.int .i64 0) (y_move rfl) ?_
      refine c_nil ?_
      obtain ⟨o1340, h4, hs⟩ := bind_some hs
      refine wp_block ?_
      refine wp_forR (id := 6) (I := fun i_ xs_ s1336 a a3 => ∃ b9 : Nat, i_ = (b9 : Int) ∧ List.drop b9 r1326 = xs_ ∧ (∃ (σ : Nat → Value), a = fr 90 (ovl σ [(0, (.int .i64 n)), (1, (.slice pa0 pn0 pc0)), (2, (.slice pa1 pn1 pc1)), (7, (.bool s1314.1)), (8, (.slice b0 b1 b2)), (10, (.pointer (some ⟨a5, 0, none⟩))), (11, (.int .i64 s1314.2.1)), (12, (.int .i64 s1336.1)), (13, (.int .i64 s1336.2)), (20, (.slice pa0 pn0 pc0)), (21, (.int .i64 (ops.length : Int))), (22, (.int .i64 (b6 : Int))), (40, (.slice e1 e2 e3)), (41, (.int .i64 (r1326.length : Int))), (42, (.int .i64 (b9 : Int)))]) ∧ Chg (pf1 ++ ([])) w a3 ∧ Own (Nw w (pf1 ++ ([]))) M a3 (d3 ++ (([a5]) ++ (b5 ++ (b8 ++ [])))) ∧ (RT.rs (RT.pr (RT.int .i64) (RT.rs (RT.int .i64)))).val M a3 (.slice pa0 pn0 pc0) ops ([]) ∧ (RT.os 4 RT.bool).val M a3 (.slice pa1 pn1 pc1) s1314.2.2 b8 ∧ (RT.os 3 (RT.int .i64)).val M a3 (.slice b0 b1 b2) r917 b5 ∧ (RT.rs (RT.int .i64)).val M a3 (.slice a6 a7 a8) x1215.2 ([]) ∧ BoxV a3 a5 36 [(.int .i64 x1215.1), (.slice a6 a7 a8)] ∧ (RT.os 3 (RT.int .i64)).val M a3 (.slice e1 e2 e3) r1326 d3)) (J := fun s1336 a a3 => ∃ (σ : Nat → Value), a = fr 90 (ovl σ [(0, (.int .i64 n)), (1, (.slice pa0 pn0 pc0)), (2, (.slice pa1 pn1 pc1)), (7, (.bool s1314.1)), (8, (.slice b0 b1 b2)), (10, (.pointer (some ⟨a5, 0, none⟩))), (11, (.int .i64 s1314.2.1)), (12, (.int .i64 s1336.1)), (13, (.int .i64 s1336.2)), (20, (.slice pa0 pn0 pc0)), (21, (.int .i64 (ops.length : Int))), (22, (.int .i64 (b6 : Int)))]) ∧ Chg (pf1 ++ ([])) w a3 ∧ Own (Nw w (pf1 ++ ([]))) M a3 (d3 ++ (([a5]) ++ (b5 ++ (b8 ++ [])))) ∧ (RT.rs (RT.pr (RT.int .i64) (RT.rs (RT.int .i64)))).val M a3 (.slice pa0 pn0 pc0) ops ([]) ∧ (RT.os 4 RT.bool).val M a3 (.slice pa1 pn1 pc1) s1314.2.2 b8 ∧ (RT.os 3 (RT.int .i64)).val M a3 (.slice b0 b1 b2) r917 b5 ∧ (RT.rs (RT.int .i64)).val M a3 (.slice a6 a7 a8) x1215.2 ([]) ∧ BoxV a3 a5 36 [(.int .i64 x1215.1), (.slice a6 a7 a8)] ∧ (RT.os 3 (RT.int .i64)).val M a3 (.slice e1 e2 e3) r1326 d3) (K := (k_impl_closePairs__take2 M w pa1 pn1 pc1 pf1)) ?_ ?_ r1326 0 (0, 0) o1340 _ _ ?_ h4 ?_
      ·rintro _ s1336 a a3 ⟨b9, rfl, hd, σ, rfl, hC, hO, h0, a4, a0, a1, a2, b4⟩
       have hlt := drop_nil_ge hd
       refine c_sr ?_
       refine pl_val (.bool (decide ((b9 : Int) < (r1326.length : Int)))) (y_lss rfl rfl) ?_
       refine c_nil ?_
       refine c_seq ?_
       refine c_condF (congrArg Value.bool (decide_eq_false hlt)) ?_
       refine wp_exit ?_
       have hO := hO.fr3
       have hO := hO.fr3
       have hO := hO.fr3
       have hO := hO.fr3
       exact ⟨rfl, _, fr_ovl 90 ⟨rfl, rfl, rfl, rfl, rfl, rfl, rfl, rfl, rfl, rfl, rfl, rfl, trivial⟩, hC, hO, h0, a4, a0, a1, a2, b4⟩
      ·rintro _ x1339 xs_ s1336 o1340 a a3 ⟨b9, rfl, hd, σ, rfl, hC, hO, h0, a4, a0, a1, a2, b4⟩ hs
       have hlt := drop_cons_lt hd
       have h5 := drop_cons_idx hd
       refine c_sr ?_
       refine pl_val (.bool (decide ((b9 : Int) < (r1326.length : Int)))) (y_lss rfl rfl) ?_
       refine c_nil ?_
       refine c_seq ?_
       refine c_condT (congrArg Value.bool (decide_eq_true hlt)) ?_
       refine wp_skip ?_
       refine c_seq ?_
       refine wp_block ?_
       refine c_sr ?_
       obtain ⟨h6, m3, m4, m5, h7, h8, m6⟩ := os_idx Sl25 Sz3 b4 h5
       refine pl_val (.pointer (some ⟨h6, 0 + Int.toNat (b9 : Int) * 1, none⟩)) (h7 _ _ _ _ _ _ _ _ _ rfl rfl) ?_
       refine pl_val (.int .i64 x1339) (y_load rfl ((at_load_int Ag3 Sz3 h8) _ (Chg.refl _ _))) ?_
       refine pl_val (.int .i64 x1339) (y_assign rfl) ?_
       refine c_nil ?_
       refine x_start [] Mx rfl ?_
       have c0 := Chg.drew a3
       generalize World.drew a3 = h9 at c0 ⊢
       have h0 := h0.ext c0
       have a4 := a4.ext c0
       have a0 := a0.ext c0
       have a1 := a1.ext c0
       have a2 := a2.cn c0
       have b4 := b4.ext c0
       have hC := hC.ext c0
       have hO := hO.ext c0
       have hS := Chg.refl [] h9
       refine x_p 0 (.int .i64 s1336.1) rfl (by kernel_rfl)  (fun _ => y_move rfl) (fun _ => hS) ?_
       refine x_p 1 (.int .i64 n) rfl (by kernel_rfl)  (fun _ => y_move rfl) (fun _ => hS) ?_
       refine x_p 2 (.int .i64 (w64 (s1336.1 * n))) rfl (by kernel_rfl)  (fun _ => y_mul rfl rfl) (fun _ => hS) ?_
       refine x_p 3 (.slice b0 b1 b2) rfl (by kernel_rfl)  (fun _ => y_move rfl) (fun _ => hS) ?_
       refine x_p 4 (.int .i64 x1339) rfl (by kernel_rfl)  (fun _ => y_move rfl) (fun _ => hS) ?_
       obtain ⟨x1344, i0, hs⟩ := bind_some hs
       obtain ⟨i1, m7, m8, m9, i2, i3, n0⟩ := os_idx Sl25 Sz3 a0 i0
       refine x_p 5 (.pointer (some ⟨i1, 0 + Int.toNat x1339 * 1, none⟩)) rfl (by kernel_rfl)  (fun _ => i2 _ _ _ _ _ _ _ _ _ rfl rfl) (fun _ => hS) ?_
       refine x_l 6 (.int .i64 x1344) rfl (by kernel_rfl)  (fun w' hw' => y_load rfl ((at_load_int Ag3 Sz3 i3) w' hw')) hS ?_
       refine x_p 7 (.int .i64 n) rfl (by kernel_rfl)  (fun _ => y_move rfl) (fun _ => hS) ?_
       obtain ⟨u1346, i4, hs⟩ := bind_some hs
       refine x_p 8 (.int .i64 (w64 (Int.tdiv x1344 n))) rfl (by kernel_rfl)  (fun _ => y_quo rfl rfl (nz_ne i4)) (fun _ => hS) ?_
       refine x_p 9 (.int .i64 (w64 ((w64 (s1336.1 * n)) + (w64 (Int.tdiv x1344 n))))) rfl (by kernel_rfl)  (fun _ => y_add rfl rfl) (fun _ => hS) ?_
       refine x_p 10 (.int .i64 s1336.2) rfl (by kernel_rfl)  (fun _ => y_move rfl) (fun _ => hS) ?_
       refine x_p 11 (.int .i64 n) rfl (by kernel_rfl)  (fun _ => y_move rfl) (fun _ => hS) ?_
       refine x_p 12 (.int .i64 (w64 (s1336.2 * n))) rfl (by kernel_rfl)  (fun _ => y_mul rfl rfl) (fun _ => hS) ?_
       refine x_p 13 (.slice b0 b1 b2) rfl (by kernel_rfl)  (fun _ => y_move rfl) (fun _ => hS) ?_
       refine x_p 14 (.int .i64 x1339) rfl (by kernel_rfl)  (fun _ => y_move rfl) (fun _ => hS) ?_
       obtain ⟨x1347, i5, hs⟩ := bind_some hs
       obtain ⟨i6, n1, n2, n3, i7, i9, n4⟩ := os_idx Sl25 Sz3 a0 i5
       refine x_p 15 (.pointer (some ⟨i6, 0 + Int.toNat x1339 * 1, none⟩)) rfl (by kernel_rfl)  (fun _ => i7 _ _ _ _ _ _ _ _ _ rfl rfl) (fun _ => hS) ?_
       refine x_l 16 (.int .i64 x1347) rfl (by kernel_rfl)  (fun w' hw' => y_load rfl ((at_load_int Ag3 Sz3 i9) w' hw')) hS ?_
       refine x_p 17 (.int .i64 n) rfl (by kernel_rfl)  (fun _ => y_move rfl) (fun _ => hS) ?_
       obtain ⟨u1349, j0, hs⟩ := bind_some hs
       refine x_p 18 (.int .i64 (Int.tmod x1347 n)) rfl (by kernel_rfl)  (fun _ => y_rem rfl rfl (nz_ne j0)) (fun _ => hS) ?_
       refine x_p 19 (.int .i64 (w64 ((w64 (s1336.2 * n)) + (Int.tmod x1347 n)))) rfl (by kernel_rfl)  (fun _ => y_add rfl rfl) (fun _ => hS) ?_
       refine x_p 20 (.int .i64 (w64 ((w64 (s1336.1 * n)) + (w64 (Int.tdiv x1344 n))))) rfl (by kernel_rfl)  (fun _ => y_assign rfl) (fun _ => hS) ?_
       refine x_p 21 (.int .i64 (w64 ((w64 (s1336.2 * n)) + (Int.tmod x1347 n)))) rfl (by kernel_rfl)  (fun _ => y_assign rfl) (fun _ => hS) ?_
       refine x_end (by kernel_rfl) ?_
       clear hS
       refine c_region ?_
       refine pl_val (.int .i64 (w64 ((b9 : Int) + 1))) (y_add rfl rfl) ?_
       refine pl_val (.int .i64 (w64 ((b9 : Int) + 1))) (y_move rfl) ?_
       refine c_nil ?_
       cases hs
       have hO := hO.fr3
       have hO := hO.fr3
       have hO := hO.fr3
       have hO := hO.fr3
       exact ⟨_, rfl, drop_cons_next hd, _, fr_ovl 90 ⟨rfl, rfl, rfl, rfl, rfl, rfl, rfl, rfl, rfl, rfl, rfl, rfl, rfl, rfl, congrArg (Value.int .i64) (w64_succ hlt (Int.natCast_nonneg _) (os_max b4)), trivial⟩, hC, hO, h0, a4, a0, a1, a2, b4⟩
      ·skip
       have hO := hO.fr3
       have hO := hO.fr3
       have hO := hO.fr3
       have hO := hO.fr3
       exact ⟨0, rfl, rfl, _, fr_ovl 90 ⟨rfl, rfl, rfl, rfl, rfl, rfl, rfl, rfl, rfl, rfl, rfl, rfl, rfl, rfl, rfl, trivial⟩, hC, hO, h0, a4, a0, a1, a2, b4⟩
      cases o1340 with
      | nx _ => exact True.intro
      | rt r_ =>
       have hs := after_rt hs
       intro c6 d4 hK
       cases hs
       exact hK
      | br s1336 =>
       have hs := after_br hs
       rintro c6 a3 ⟨σ, rfl, hC, hO, h0, a4, a0, a1, a2, b4⟩
       refine c_seq ?_
       refine x_start [] Mx rfl ?_
       have c1 := Chg.drew a3
       generalize World.drew a3 = j1 at c1 ⊢
       have h0 := h0.ext c1
       have a4 := a4.ext c1
       have a0 := a0.ext c1
       have a1 := a1.ext c1
       have a2 := a2.cn c1
       have b4 := b4.ext c1
       have hC := hC.ext c1
       have hO := hO.ext c1
       have hS := Chg.refl [] j1
       refine x_p 0 (.pointer (some ⟨a5, 1, none⟩)) rfl (by kernel_rfl)  (fun _ => y_faddr rfl Fa36x1) (fun _ => hS) ?_
       refine x_l 1 (.slice a6 a7 a8) rfl (by kernel_rfl)  (fun w' hw' => y_load rfl ((box_load Ag25 Sz25 a2 [(.int .i64 x1215.1)] [(.slice a6 a7 a8)] [] rfl rfl (fun _ => rfl)) w' hw')) hS ?_
       refine x_p 2 (.int .i64 s1336.1) rfl (by kernel_rfl)  (fun _ => y_move rfl) (fun _ => hS) ?_
       obtain ⟨x1356, j2, hs⟩ := bind_some hs
       obtain ⟨j3, j4, j5, j6⟩ := rs_idx Sl25 Sz3 a1 j2
       refine x_p 3 (.pointer (some ⟨j3, j4, none⟩)) rfl (by kernel_rfl)  (fun _ => j5 _ _ _ _ _ _ _ _ _ rfl rfl) (fun _ => hS) ?_
       refine x_l 4 (.int .i64 x1356) rfl (by kernel_rfl)  (fun w' hw' => y_load rfl ((at_load_int Ag3 Sz3 j6) w' hw')) hS ?_
       refine x_p 5 (.int .i64 n) rfl (by kernel_rfl)  (fun _ => y_move rfl) (fun _ => hS) ?_
       refine x_p 6 (.int .i64 (w64 (x1356 * n))) rfl (by kernel_rfl)  (fun _ => y_mul rfl rfl) (fun _ => hS) ?_
       refine x_p 7 (.pointer (some ⟨a5, 1, none⟩)) rfl (by kernel_rfl)  (fun _ => y_faddr rfl Fa36x1) (fun _ => hS) ?_
       refine x_l 8 (.slice a6 a7 a8) rfl (by kernel_rfl)  (fun w' hw' => y_load rfl ((box_load Ag25 Sz25 a2 [(.int .i64 x1215.1)] [(.slice a6 a7 a8)] [] rfl rfl (fun _ => rfl)) w' hw')) hS ?_
       refine x_p 9 (.int .i64 s1336.2) rfl (by kernel_rfl)  (fun _ => y_move rfl) (fun _ => hS) ?_
       obtain ⟨x1358, j7, hs⟩ := bind_some hs
       obtain ⟨j8, j9, k0, k1⟩ := rs_idx Sl25 Sz3 a1 j7
       refine x_p 10 (.pointer (some ⟨j8, j9, none⟩)) rfl (by kernel_rfl)  (fun _ => k0 _ _ _ _ _ _ _ _ _ rfl rfl) (fun _ => hS) ?_
       refine x_l 11 (.int .i64 x1358) rfl (by kernel_rfl)  (fun w' hw' => y_load rfl ((at_load_int Ag3 Sz3 k1) w' hw')) hS ?_
       refine x_p 12 (.int .i64 (w64 ((w64 (x1356 * n)) + x1358))) rfl (by kernel_rfl)  (fun _ => y_add rfl rfl) (fun _ => hS) ?_
       refine x_p 13 (.int .i64 (w64 ((w64 (x1356 * n)) + x1358))) rfl (by kernel_rfl)  (fun _ => y_assign rfl) (fun _ => hS) ?_
       refine x_end (by kernel_rfl) ?_
       clear hS
       refine c_sr ?_
       refine pl_val (.slice pa1 pn1 pc1) (y_move rfl) ?_
       refine pl_val (.int .i64 (w64 ((w64 (x1356 * n)) + x1358))) (y_move rfl) ?_
       obtain ⟨x1360, k2, hs⟩ := bind_some hs
       obtain ⟨k3, n5, n6, n7, k4, k5, n8⟩ := os_idx Sl86 Sz4 a4 k2
       refine pl_val (.pointer (some ⟨k3, 0 + Int.toNat (w64 ((w64 (x1356 * n)) + x1358)) * 1, none⟩)) (k4 _ _ _ _ _ _ _ _ _ rfl rfl) ?_
       refine pl_val (.bool x1360) (y_load rfl ((at_load_bool Ag4 Sz4 k5) _ (Chg.refl _ _))) ?_
       refine pl_val (.bool (!x1360)) (y_not rfl) ?_
       refine c_nil ?_
       rcases bif_some hs with ⟨e4, hs⟩ | ⟨e4, hs⟩
       ·refine c_condT (congrArg Value.bool e4) ?_
        refine c_sr ?_
        refine pl_val (.slice pa1 pn1 pc1) (y_move rfl) ?_
        refine pl_val (.int .i64 (w64 ((w64 (x1356 * n)) + x1358))) (y_move rfl) ?_
        obtain ⟨x1363, k6, hs⟩ := bind_some hs
        obtain ⟨e9, n9, f0, k7, k8, o0, o1⟩ := os_idx Sl86 Sz4 a4 k6
        refine pl_val (.pointer (some ⟨e9, 0 + Int.toNat (w64 ((w64 (x1356 * n)) + x1358)) * 1, none⟩)) (k8 _ _ _ _ _ _ _ _ _ rfl rfl) ?_
        have hO := hO.fr3
        obtain ⟨k9, l0, l1, c7, l2, e5⟩ := os_store (P := Try.prog) (c' := [(.bool true)]) f0 a4 k7 (fun g hg => hO.inM g (os_block a4 g (by simpa using hg))) ⟨rfl, rfl⟩ List.nodup_nil (fun _ h => nomatch h) (fun _ h => .inl h)
        have d1 : ∀ q ∈ [e9], q ∈ b8 := fun q hq => os_block a4 q (by rw [f0]; exact hq)
        refine pl_skip (w' := k9) (ys_store rfl rfl (l1 _ _ rfl Sz4)) ?_
        have h0 := h0.mt c7 hO d1
        have a0 := a0.ma c7 hO d1 (fun _ e => (mem_r (mem_r (mem_l (e)))))
        have a1 := a1.mt c7 hO d1
        have a2 := a2.ap c7 hO d1 (mem_r (mem_l (List.mem_singleton.2 rfl)))
        have b4 := b4.ma c7 hO d1 (fun _ e => (mem_l (e)))
        have hC := hC.st c7 hO d1
        have hO := hO.grow c7 (fun q hq => .inl ((l2 q hq).resolve_right (fun h => nomatch h))) (os_nodup e5) e5.fpl
        refine c_nil ?_
        refine c_region ?_
        refine pl_val (.bool true) (y_assign rfl) ?_
        refine c_nil ?_
        refine c_region ?_
        refine pl_val (.int .i64 s1314.2.1) (y_move rfl) ?_
        refine pl_val (.int .i64 (w64 (s1314.2.1 + 1))) (y_add rfl rfl) ?_
        refine pl_val (.int .i64 (w64 (s1314.2.1 + 1))) (y_assign rfl) ?_
        refine c_nil ?_
        cases hs
        have hO := hO.fr1
        have hO := hO.drop
        have hO := hO.fr2
        have hO := hO.fr2
        exact ⟨_, l0, fr_ovl 90 ⟨rfl, rfl, rfl, rfl, rfl, rfl, rfl, rfl, rfl, rfl, trivial⟩, hC, hO, h0, e5, a0, a1, a2⟩
       refine c_condF (congrArg Value.bool e4) ?_
       refine wp_skip ?_
       refine c_region ?_
       refine pl_val (.int .i64 s1314.2.1) (y_move rfl) ?_
       refine pl_val (.int .i64 (w64 (s1314.2.1 + 1))) (y_add rfl rfl) ?_
       refine pl_val (.int .i64 (w64 (s1314.2.1 + 1))) (y_assign rfl) ?_
       refine c_nil ?_
       cases hs
       have hO := hO.drop
       have hO := hO.fr2
       have hO := hO.fr2
       have hO := hO.fr2
       exact ⟨_, b8, fr_ovl 90 ⟨rfl, rfl, rfl, rfl, rfl, rfl, rfl, rfl, rfl, rfl, trivial⟩, hC, hO, h0, a4, a0, a1, a2⟩
     refine c_condF (congrArg Value.bool e0) ?_
     refine wp_exit ?_
     cases hs
     have hO := hO.fr2
     have hO := hO.fr2
     have hO := hO.fr2
     exact ⟨rfl, _, b8, fr_ovl 90 ⟨rfl, rfl, rfl, rfl, rfl, rfl, rfl, rfl, trivial⟩, hC, hO, h0, a4, a0, a1, a2⟩
    ·skip
     have hO := hO.fr2
     have hO := hO.fr2
     have hO := hO.fr2
     exact ⟨_, c8, fr_ovl 90 ⟨rfl, rfl, rfl, rfl, rfl, rfl, rfl, rfl, rfl, rfl, trivial⟩, hC, hO, h0, c3, a0, a1, a2⟩
    cases o1318 with
    | nx _ => exact True.intro
    | rt r_ =>
     have hs := after_rt hs
     intro c6 d4 hK
     cases hs
     exact hK
    | br s1314 =>
     have hs := after_br hs
     rintro c6 a9 ⟨σ, d8, rfl, hC, hO, h0, l3, a0, a1, a2⟩
     refine c_region ?_
     refine pl_val (.int .i64 (w64 ((b6 : Int) + 1))) (y_add rfl rfl) ?_
     refine pl_val (.int .i64 (w64 ((b6 : Int) + 1))) (y_move rfl) ?_
     refine c_nil ?_
     cases hs
     have hO := hO.drop
     have hO := hO.fr1
     have hO := hO.fr1
     exact ⟨_, rfl, drop_cons_next hd, _, d8, fr_ovl 90 ⟨rfl, rfl, rfl, rfl, rfl, rfl, rfl, congrArg (Value.int .i64) (w64_succ hlt (Int.natCast_nonneg _) (rs_max h0)), trivial⟩, hC, hO, h0, l3, a0⟩
   ·skip
    have hO := hO.fr1
    have hO := hO.fr1
    exact ⟨0, rfl, rfl, _, c2, fr_ovl 90 ⟨rfl, rfl, rfl, rfl, rfl, rfl, rfl, rfl, trivial⟩, hC, hO, h0, d2, a0⟩
   cases o1216 with
   | nx _ => exact True.intro
   | rt r_ =>
    have hs := after_rt hs
    intro c6 d4 hK
    cases hs
    exact hK
   | br s1212 =>
    have hs := after_br hs
    rintro c6 b3 ⟨σ, d7, rfl, hC, hO, h0, l4, a0⟩
    cases hs
    have hO := hO.drop
    exact ⟨_, d7, fr_ovl 90 ⟨rfl, rfl, rfl, rfl, trivial⟩, hC, hO, h0, l4⟩
  refine c_condF (congrArg Value.bool d9) ?_
  refine wp_exit ?_
  cases hs
  exact ⟨rfl, _, c2, fr_ovl 90 ⟨rfl, trivial⟩, hC, hO, h0, d2⟩
 ·skip
  exact ⟨_, pf1, fr_ovl 90 ⟨rfl, rfl, rfl, rfl, trivial⟩, hC, hO, h0, h1⟩
 cases o911 with
 | nx _ => exact True.intro
 | rt r_ =>
  have hs := after_rt hs
  intro c6 d4 hK
  cases hs
  exact hK
 | br s907 =>
  have hs := after_br hs
  rintro c6 b7 ⟨σ, d5, rfl, hC, hO, h0, l5⟩
  refine c_sr ?_
  refine pl_val (.slice pa1 pn1 pc1) (y_move rfl) ?_
  refine pl_val (.slice pa1 pn1 pc1) (y_assign rfl) ?_
  refine c_nil ?_
  refine wp_ret ?_
  cases hs
  exact ⟨_, pa1, pn1, pc1, d5, fr_ovl 90 ⟨rfl, trivial⟩, hC, l5, hO.top⟩

theorem Rw102 : RowT Try.prog 102 5 1 [(.int .u8 0)] := ⟨Try.underlying102, ⟨_, _, rfl, rfl, rfl, rfl, by decide⟩, rfl, by decide⟩

def k_impl_keyOf (M : Nat → Prop) (w0 : World) (r : ByteArray) (a : Act) (w : World) : Prop :=
  ∃ (σ : Nat → Value) , a = fr 27 (ovl σ [(2, (.string r))]) ∧ Chg [] w0 w
def s_impl_keyOf (list : List Int) : Option (ByteArray) :=
  (mkc 0 (w64 (2 * (list.length : Int)))).bind fun u3 =>
  (forR (S := (List Int)) (R := ByteArray) (fun _ x16 s13 =>
  (app s13 ([IntKind.u8.wrap (ishr .i64 x16 8), IntKind.u8.wrap x16])).bind fun y27 =>
  some (.nx y27)) 0 list (List.replicate (Int.toNat 0) (0 : Int))).bind fun o17 => after o17 (fun r_ => some r_) (fun s13 =>
  some (bstr s13))
set_option maxHeartbeats 4000000 in
theorem c_impl_keyOf {M : Nat → Prop} {w : World} {pa0 : Option Addr} {pn0 pc0 : Nat} (list : List Int) (h0 : (RT.rs (RT.int .i64)).val M w (.slice pa0 pn0 pc0) list ([])) (hM : ∀ g, w.heap.size ≤ g → M g) {r : ByteArray} (hs : s_impl_keyOf list = some r) :
    Gives Try.prog 68 [(.slice pa0 pn0 pc0)] w (fun v w' => v = (.string r) ∧ Chg [] w w') := by
 refine calls_fr Try.func68 rfl Try.ntmps68 (Nat.le_of_ble_eq_true rfl) ?_
 have hO := Own.start (N := Nw w []) hM Nw.fut
 have hC := Chg.refl [] w
 unfold s_impl_keyOf at hs
 refine wp_mono (Q := KPost (k_impl_keyOf M w r)) ?_ (fun e a c8 h => ?_)
 rotate_left
 ·cases e
  case ret =>
   obtain ⟨σ, rfl, hrest⟩ := h
   exact ret1x Try.results68 (res_tmp rfl) ⟨rfl, hrest⟩
  all_goals exact (h : False).elim
 refine c_sr ?_
 refine pl_val (.string ByteArray.empty) (y_assign rfl) ?_
 refine c_nil ?_
 refine c_sr ?_
 refine pl_val (.slice pa0 pn0 pc0) (y_move rfl) ?_
 refine pl_val (.int .i64 (list.length : Int)) (y_len' Sl25 (rs_len h0) rfl) ?_
 refine pl_val (.int .i64 (w64 (2 * (list.length : Int)))) (y_mul rfl rfl) ?_
 obtain ⟨u3, c9, hs⟩ := bind_some hs
 obtain ⟨b1, b2, b3, d0, d1, d2, b4, d3, b5⟩ := mk_cap (M := M) (w := w) (r := (RT.int .u8)) (x := (0 : Int)) Rw102 c9 (fun _ _ => ⟨rfl, rfl⟩)
 refine pl_val (w' := d0) (.slice b1 b2 b3) (y_make rfl rfl d2) ?_
 have h0 := h0.ext b4
 have hC := hC.ext b4
 have hO := hO.new b4 d3 (os_nodup b5) b5.fpl
 refine pl_val (.slice b1 b2 b3) (y_assign rfl) ?_
 refine c_nil ?_
 refine c_seq ?_
 refine c_sr ?_
 refine pl_val (.slice pa0 pn0 pc0) (y_move rfl) ?_
 refine pl_val (.int .i64 (list.length : Int)) (y_len' Sl25 (rs_len h0) rfl) ?_
 refine pl_val (.int .i64 0) (y_move rfl) ?_
 refine c_nil ?_
 obtain ⟨o17, d4, hs⟩ := bind_some hs
 refine wp_block ?_
 refine wp_forR (id := 0) (I := fun i_ xs_ s13 a a0 => ∃ a1 : Nat, i_ = (a1 : Int) ∧ List.drop a1 list = xs_ ∧ (∃ (σ : Nat → Value) (a2 : Option Addr) (a3 : Nat) (a4 : Nat) (a6 : List Nat), a = fr 27 (ovl σ [(3, (.slice a2 a3 a4)), (10, (.slice pa0 pn0 pc0)), (11, (.int .i64 (list.length : Int))), (12, (.int .i64 (a1 : Int)))]) ∧ Chg [] w a0 ∧ Own (Nw w []) M a0 (a6 ++ []) ∧ (RT.rs (RT.int .i64)).val M a0 (.slice pa0 pn0 pc0) list ([]) ∧ (RT.os 5 (RT.int .u8)).val M a0 (.slice a2 a3 a4) s13 a6)) (J := fun s13 a a0 => ∃ (σ : Nat → Value) (a7 : Option Addr) (a8 : Nat) (a9 : Nat) (b6 : List Nat), a = fr 27 (ovl σ [(3, (.slice a7 a8 a9))]) ∧ Chg [] w a0 ∧ Own (Nw w []) M a0 (b6 ++ []) ∧ (RT.rs (RT.int .i64)).val M a0 (.slice pa0 pn0 pc0) list ([]) ∧ (RT.os 5 (RT.int .u8)).val M a0 (.slice a7 a8 a9) s13 b6) (K := (k_impl_keyOf M w)) ?_ ?_ list 0 (List.replicate (Int.toNat 0) (0 : Int)) o17 _ _ ?_ d4 ?_
 ·rintro _ s13 a a0 ⟨a1, rfl, hd, σ, a2, a3, a4, a6, rfl, hC, hO, h0, a5⟩
  have hlt := drop_nil_ge hd
  refine c_sr ?_
  refine pl_val (.bool (decide ((a1 : Int) < (list.length : Int)))) (y_lss rfl rfl) ?_
  refine c_nil ?_
  refine c_seq ?_
  refine c_condF (congrArg Value.bool (decide_eq_false hlt)) ?_
  refine wp_exit ?_
  exact ⟨rfl, _, a2, a3, a4, a6, fr_ovl 27 ⟨rfl, trivial⟩, hC, hO, h0, a5⟩
 ·rintro _ x16 xs_ s13 o17 a a0 ⟨a1, rfl, hd, σ, a2, a3, a4, a6, rfl, hC, hO, h0, a5⟩ hs
  have hlt := drop_cons_lt hd
  have d5 := drop_cons_idx hd
  refine c_sr ?_
  refine pl_val (.bool (decide ((a1 : Int) < (list.length : Int)))) (y_lss rfl rfl) ?_
  refine c_nil ?_
  refine c_seq ?_
  refine c_condT (congrArg Value.bool (decide_eq_true hlt)) ?_
  refine wp_skip ?_
  refine c_seq ?_
  refine wp_block ?_
  refine c_sr ?_
  obtain ⟨d6, d7, d8, d9⟩ := rs_idx Sl25 Sz3 h0 d5
  refine pl_val (.pointer (some ⟨d6, d7, none⟩)) (d8 _ _ _ _ _ _ _ _ _ rfl rfl) ?_
  refine pl_val (.int .i64 x16) (y_load rfl ((at_load_int Ag3 Sz3 d9) _ (Chg.refl _ _))) ?_
  refine pl_val (.int .i64 x16) (y_assign rfl) ?_
  refine c_nil ?_
  refine c_region ?_
  refine pl_val (.slice a2 a3 a4) (y_move rfl) ?_
  refine pl_val (.int .i64 x16) (y_move rfl) ?_
  refine pl_val (.int .i64 (ishr .i64 x16 8)) (y_shr rfl rfl (by decide)) ?_
  refine pl_val (.int .u8 (IntKind.u8.wrap (ishr .i64 x16 8))) (y_conv_int Try.underlying3 Try.underlying5 rfl) ?_
  refine pl_val (.int .i64 x16) (y_move rfl) ?_
  refine pl_val (.int .u8 (IntKind.u8.wrap x16)) (y_conv_int Try.underlying3 Try.underlying5 rfl) ?_
  obtain ⟨c4, b7, e0, c5, b0, c6⟩ := new_block a0 [(.int .u8 (IntKind.u8.wrap (ishr .i64 x16 8))), (.int .u8 (IntKind.u8.wrap x16))] 5
  refine pl_val (w' := c4) (.slice (some ⟨b7, 0, none⟩) 2 2) (y_bslice rfl (by rw [e0, c5]; kernel_rfl)) ?_
  have h0 := h0.ext b0
  have a5 := a5.ext b0
  have hC := hC.ext b0
  have hO := hO.new1 b0 c5 c6.lt
  have b8 := os_of_box (r := (RT.int .u8)) (M := M) (css := [[(.int .u8 (IntKind.u8.wrap (ishr .i64 x16 8)))], [(.int .u8 (IntKind.u8.wrap x16))]]) (fps := [([] : List Nat), ([] : List Nat)]) (xs := ([IntKind.u8.wrap (ishr .i64 x16 8), IntKind.u8.wrap x16] : List Int)) c6 ⟨⟨rfl, rfl⟩, ⟨⟨rfl, rfl⟩, trivial⟩⟩ (Nat.le_of_ble_eq_true rfl) (List.nodup_cons.2 ⟨(fun h => nomatch h), List.nodup_nil⟩)
  have b8 : (RT.os 5 (RT.int .u8)).val M c4 (.slice (some ⟨b7, 0, none⟩) 2 2) [IntKind.u8.wrap (ishr .i64 x16 8), IntKind.u8.wrap x16] [b7] := b8
  obtain ⟨y27, e1, hs⟩ := bind_some hs
  have hO := hO.fr1
  obtain ⟨b9, c0, c1, e2, e3, e4, c2, e5, c3⟩ := app_os Rw102 e1 a5 b8 hO.inM (fun g hg hq => hO.apart g hq (mem_l hg))
  have c7 := os_block a5
  refine pl_val (w' := e2) (.slice b9 c0 c1) (y_append rfl rfl (e4 _)) ?_
  have hO := hO.fr1
  have hO := hO.fr1
  have h0 := h0.mt c2 hO c7
  have hC := hC.st c2 hO c7
  have hO := hO.eat c2 e5 (os_nodup c3) c3.fpl
  refine pl_val (.slice b9 c0 c1) (y_assign rfl) ?_
  refine c_nil ?_
  refine c_region ?_
  refine pl_val (.int .i64 (w64 ((a1 : Int) + 1))) (y_add rfl rfl) ?_
  refine pl_val (.int .i64 (w64 ((a1 : Int) + 1))) (y_move rfl) ?_
  refine c_nil ?_
  cases hs
  exact ⟨_, rfl, drop_cons_next hd, _, b9, c0, c1, e3, fr_ovl 27 ⟨rfl, rfl, rfl, congrArg (Value.int .i64) (w64_succ hlt (Int.natCast_nonneg _) (rs_max h0)), trivial⟩, hC, hO, h0, c3⟩
 ·skip
  exact ⟨0, rfl, rfl, _, b1, b2, b3, d1, fr_ovl 27 ⟨rfl, rfl, rfl, rfl, trivial⟩, hC, hO, h0, b5⟩
 cases o17 with
 | nx _ => exact True.intro
 | rt r_ =>
  have hs := after_rt hs
  intro e6 c8 hK
  cases hs
  exact hK
 | br s13 =>
  have hs := after_br hs
  rintro e6 a0 ⟨σ, a7, a8, a9, b6, rfl, hC, hO, h0, e7⟩
  refine c_sr ?_
  refine pl_val (.slice a7 a8 a9) (y_move rfl) ?_
  refine pl_val (.string (bstr s13)) (y_str Try.underlying102 Try.underlying9 Try.underlying5 e7 rfl) ?_
  refine pl_val (.string (bstr s13)) (y_assign rfl) ?_
  refine c_nil ?_
  refine wp_ret ?_
  cases hs
  exact ⟨_, fr_ovl 27 ⟨rfl, trivial⟩, hC⟩

def k_impl_hasNot (M : Nat → Prop) (w0 : World) (r : Bool) (a : Act) (w : World) : Prop :=
  ∃ (σ : Nat → Value) , a = fr 17 (ovl σ [(4, (.bool r))]) ∧ Chg [] w0 w
def s_impl_hasNot (list : List Int) (x_ : Int) : Option (Bool) :=
  (forR (S := Unit) (R := Bool) (fun _ x7 s4 =>
  (bif (x_ == x7) then some (.rt false) else some (.nx ()))) 0 list ()).bind fun o8 => after o8 (fun r_ => some r_) (fun s4 =>
  some true)
set_option maxHeartbeats 4000000 in
theorem c_impl_hasNot {M : Nat → Prop} {w : World} {pa0 : Option Addr} {pn0 pc0 : Nat} (list : List Int) (x_ : Int) (h0 : (RT.rs (RT.int .i64)).val M w (.slice pa0 pn0 pc0) list ([])) (hM : ∀ g, w.heap.size ≤ g → M g) {r : Bool} (hs : s_impl_hasNot list x_ = some r) :
    Gives Try.prog 75 [(.slice pa0 pn0 pc0), (.int .i64 x_)] w (fun v w' => v = (.bool r) ∧ Chg [] w w') := by
 refine calls_fr Try.func75 rfl Try.ntmps75 (Nat.le_of_ble_eq_true rfl) ?_
 have hO := Own.start (N := Nw w []) hM Nw.fut
 have hC := Chg.refl [] w
 unfold s_impl_hasNot at hs
 refine wp_mono (Q := KPost (k_impl_hasNot M w r)) ?_ (fun e a a3 h => ?_)
 rotate_left
 ·cases e
  case ret =>
   obtain ⟨σ, rfl, hrest⟩ := h
   exact ret1x Try.results75 (res_tmp rfl) ⟨rfl, hrest⟩
  all_goals exact (h : False).elim
 refine c_sr ?_
 refine pl_val (.bool false) (y_assign rfl) ?_
 refine c_nil ?_
 refine c_seq ?_
 refine c_sr ?_
 refine pl_val (.slice pa0 pn0 pc0) (y_move rfl) ?_
 refine pl_val (.int .i64 (list.length : Int)) (y_len' Sl25 (rs_len h0) rfl) ?_
 refine pl_val (.int .i64 0) (y_move rfl) ?_
 refine c_nil ?_
 obtain ⟨o8, a4, hs⟩ := bind_some hs
 refine wp_block ?_
 refine wp_forR (id := 0) (I := fun i_ xs_ s4 a a0 => ∃ a1 : Nat, i_ = (a1 : Int) ∧ List.drop a1 list = xs_ ∧ (∃ (σ : Nat → Value), a = fr 17 (ovl σ [(1, (.int .i64 x_)), (7, (.slice pa0 pn0 pc0)), (8, (.int .i64 (list.length : Int))), (9, (.int .i64 (a1 : Int)))]) ∧ Chg [] w a0 ∧ Own (Nw w []) M a0 ([]) ∧ (RT.rs (RT.int .i64)).val M a0 (.slice pa0 pn0 pc0) list ([]))) (J := fun s4 a a0 => ∃ (σ : Nat → Value), a = fr 17 (ovl σ []) ∧ Chg [] w a0 ∧ Own (Nw w []) M a0 ([]) ∧ (RT.rs (RT.int .i64)).val M a0 (.slice pa0 pn0 pc0) list ([])) (K := (k_impl_hasNot M w)) ?_ ?_ list 0 () o8 _ _ ?_ a4 ?_
 ·rintro _ s4 a a0 ⟨a1, rfl, hd, σ, rfl, hC, hO, h0⟩
  have hlt := drop_nil_ge hd
  refine c_sr ?_
  refine pl_val (.bool (decide ((a1 : Int) < (list.length : Int)))) (y_lss rfl rfl) ?_
  refine c_nil ?_
  refine c_seq ?_
  refine c_condF (congrArg Value.bool (decide_eq_false hlt)) ?_
  refine wp_exit ?_
  exact ⟨rfl, _, fr_ovl 17 trivial, hC, hO, h0⟩
 ·rintro _ x7 xs_ s4 o8 a a0 ⟨a1, rfl, hd, σ, rfl, hC, hO, h0⟩ hs
  have hlt := drop_cons_lt hd
  have a5 := drop_cons_idx hd
  refine c_sr ?_
  refine pl_val (.bool (decide ((a1 : Int) < (list.length : Int)))) (y_lss rfl rfl) ?_
  refine c_nil ?_
  refine c_seq ?_
  refine c_condT (congrArg Value.bool (decide_eq_true hlt)) ?_
  refine wp_skip ?_
  refine c_seq ?_
  refine wp_block ?_
  refine c_sr ?_
  obtain ⟨a6, a7, a8, a9⟩ := rs_idx Sl25 Sz3 h0 a5
  refine pl_val (.pointer (some ⟨a6, a7, none⟩)) (a8 _ _ _ _ _ _ _ _ _ rfl rfl) ?_
  refine pl_val (.int .i64 x7) (y_load rfl ((at_load_int Ag3 Sz3 a9) _ (Chg.refl _ _))) ?_
  refine pl_val (.int .i64 x7) (y_assign rfl) ?_
  refine c_nil ?_
  refine c_sr ?_
  refine pl_val (.int .i64 x_) (y_move rfl) ?_
  refine pl_val (.int .i64 x7) (y_move rfl) ?_
  refine pl_val (.bool (x_ == x7)) (y_eql rfl rfl) ?_
  refine c_nil ?_
  rcases bif_some hs with ⟨a2, hs⟩ | ⟨a2, hs⟩
  ·refine c_condT (congrArg Value.bool a2) ?_
   refine c_sr ?_
   refine pl_val (.bool false) (y_assign rfl) ?_
   refine c_nil ?_
   refine wp_ret ?_
   cases hs
   exact ⟨_, fr_ovl 17 ⟨rfl, trivial⟩, hC⟩
  refine c_condF (congrArg Value.bool a2) ?_
  refine wp_skip ?_
  refine c_region ?_
  refine pl_val (.int .i64 (w64 ((a1 : Int) + 1))) (y_add rfl rfl) ?_
  refine pl_val (.int .i64 (w64 ((a1 : Int) + 1))) (y_move rfl) ?_
  refine c_nil ?_
  cases hs
  exact ⟨_, rfl, drop_cons_next hd, _, fr_ovl 17 ⟨rfl, rfl, rfl, congrArg (Value.int .i64) (w64_succ hlt (Int.natCast_nonneg _) (rs_max h0)), trivial⟩, hC, hO, h0⟩
 ·skip
  exact ⟨0, rfl, rfl, _, fr_ovl 17 ⟨rfl, rfl, rfl, rfl, trivial⟩, hC, hO, h0⟩
 cases o8 with
 | nx _ => exact True.intro
 | rt r_ =>
  have hs := after_rt hs
  intro b0 a3 hK
  cases hs
  exact hK
 | br s4 =>
  have hs := after_br hs
  rintro b0 a0 ⟨σ, rfl, hC, hO, h0⟩
  refine c_sr ?_
  refine pl_val (.bool true) (y_assign rfl) ?_
  refine c_nil ?_
  refine wp_ret ?_
  cases hs
  exact ⟨_, fr_ovl 17 ⟨rfl, trivial⟩, hC⟩

theorem Rw86 : RowT Try.prog 86 4 1 [(.bool false)] := ⟨Try.underlying86, ⟨_, _, rfl, rfl, rfl, rfl, by decide⟩, rfl, by decide⟩

def k_impl_marks (M : Nat → Prop) (w0 : World) (r : (List Bool)) (a : Act) (w : World) : Prop :=
  ∃ (σ : Nat → Value) (ra0 : Option Addr) (rn0 rc0 : Nat) (rf0 : List Nat), a = fr 21 (ovl σ [(4, (.slice ra0 rn0 rc0))]) ∧ Chg [] w0 w ∧ (RT.os 4 RT.bool).val M w (.slice ra0 rn0 rc0) r rf0 ∧ Own (Nw w0 []) (fun _ => True) w (rf0 ++ ([]))
def s_impl_marks (list : List Int) (n : Int) : Option ((List Bool)) :=
  (mks n (false : Bool)).bind fun y3 =>
  (forR (S := (List Bool)) (R := (List Bool)) (fun _ x17 s14 =>
  (idx s14 x17).bind fun x23 =>
  some (.nx (List.set s14 (Int.toNat x17) true))) 0 list y3).bind fun o18 => after o18 (fun r_ => some r_) (fun s14 =>
  some s14)
set_option maxHeartbeats 4000000 in
theorem c_impl_marks {M : Nat → Prop} {w : World} {pa0 : Option Addr} {pn0 pc0 : Nat} (list : List Int) (n : Int) (h0 : (RT.rs (RT.int .i64)).val M w (.slice pa0 pn0 pc0) list ([])) (hM : ∀ g, w.heap.size ≤ g → M g) {r : (List Bool)} (hs : s_impl_marks list n = some r) :
    Gives Try.prog 76 [(.slice pa0 pn0 pc0), (.int .i64 n)] w (fun v w' => ∃ (ra0 : Option Addr) (rn0 rc0 : Nat) (rf0 : List Nat), v = (.slice ra0 rn0 rc0) ∧ Chg [] w w' ∧ (RT.os 4 RT.bool).val M w' (.slice ra0 rn0 rc0) r rf0 ∧ Own (Nw w []) (fun _ => True) w' (rf0 ++ ([]))) := by
 refine calls_fr Try.func76 rfl Try.ntmps76 (Nat.le_of_ble_eq_true rfl) ?_
 have hO := Own.start (N := Nw w []) hM Nw.fut
 have hC := Chg.refl [] w
 unfold s_impl_marks at hs
 refine wp_mono (Q := KPost (k_impl_marks M w r)) ?_ (fun e a b5 h => ?_)
 rotate_left
 ·cases e
  case ret =>
   obtain ⟨σ, ra0, rn0, rc0, rf0, rfl, hrest⟩ := h
   exact ret1x Try.results76 (res_tmp rfl) ⟨ra0, rn0, rc0, rf0, rfl, hrest⟩
  all_goals exact (h : False).elim
 refine c_sr ?_
 refine pl_val (.slice none 0 0) (y_assign rfl) ?_
 refine c_nil ?_
 refine c_sr ?_
 refine pl_val (.int .i64 n) (y_move rfl) ?_
 obtain ⟨y3, b6, hs⟩ := bind_some hs
 obtain ⟨a1, a2, a3, b7, b8, b9, a8, c0, a9⟩ := mk_os (M := M) (w := w) (r := RT.bool) Rw86 b6 (fun _ _ => ⟨rfl, rfl⟩)
 refine pl_val (w' := b7) (.slice a1 a2 a3) (y_make rfl rfl b9) ?_
 have h0 := h0.ext a8
 have hC := hC.ext a8
 have hO := hO.new a8 c0 (os_nodup a9) a9.fpl
 refine pl_val (.slice a1 a2 a3) (y_assign rfl) ?_
 refine c_nil ?_
 refine c_seq ?_
 refine c_sr ?_
 refine pl_val (.slice pa0 pn0 pc0) (y_move rfl) ?_
 refine pl_val (.int .i64 (list.length : Int)) (y_len' Sl25 (rs_len h0) rfl) ?_
 refine pl_val (.int .i64 0) (y_move rfl) ?_
 refine c_nil ?_
 obtain ⟨o18, c1, hs⟩ := bind_some hs
 refine wp_block ?_
 refine wp_forR (id := 0) (I := fun i_ xs_ s14 a a0 => ∃ a4 : Nat, i_ = (a4 : Int) ∧ List.drop a4 list = xs_ ∧ (∃ (σ : Nat → Value) (a5 : List Nat), a = fr 21 (ovl σ [(5, (.slice a1 a2 a3)), (10, (.slice pa0 pn0 pc0)), (11, (.int .i64 (list.length : Int))), (12, (.int .i64 (a4 : Int)))]) ∧ Chg [] w a0 ∧ Own (Nw w []) M a0 (a5 ++ []) ∧ (RT.rs (RT.int .i64)).val M a0 (.slice pa0 pn0 pc0) list ([]) ∧ (RT.os 4 RT.bool).val M a0 (.slice a1 a2 a3) s14 a5)) (J := fun s14 a a0 => ∃ (σ : Nat → Value) (a7 : List Nat), a = fr 21 (ovl σ [(5, (.slice a1 a2 a3))]) ∧ Chg [] w a0 ∧ Own (Nw w []) M a0 (a7 ++ []) ∧ (RT.rs (RT.int .i64)).val M a0 (.slice pa0 pn0 pc0) list ([]) ∧ (RT.os 4 RT.bool).val M a0 (.slice a1 a2 a3) s14 a7) (K := (k_impl_marks M w)) ?_ ?_ list 0 y3 o18 _ _ ?_ c1 ?_
 ·rintro _ s14 a a0 ⟨a4, rfl, hd, σ, a5, rfl, hC, hO, h0, a6⟩
  have hlt := drop_nil_ge hd
  refine c_sr ?_
  refine pl_val (.bool (decide ((a4 : Int) < (list.length : Int)))) (y_lss rfl rfl) ?_
  refine c_nil ?_
  refine c_seq ?_
  refine c_condF (congrArg Value.bool (decide_eq_false hlt)) ?_
  refine wp_exit ?_
  exact ⟨rfl, _, a5, fr_ovl 21 ⟨rfl, trivial⟩, hC, hO, h0, a6⟩
 ·rintro _ x17 xs_ s14 o18 a a0 ⟨a4, rfl, hd, σ, a5, rfl, hC, hO, h0, a6⟩ hs
  have hlt := drop_cons_lt hd
  have c2 := drop_cons_idx hd
  refine c_sr ?_
  refine pl_val (.bool (decide ((a4 : Int) < (list.length : Int)))) (y_lss rfl rfl) ?_
  refine c_nil ?_
  refine c_seq ?_
  refine c_condT (congrArg Value.bool (decide_eq_true hlt)) ?_
  refine wp_skip ?_
  refine c_seq ?_
  refine wp_block ?_
  refine c_sr ?_
  obtain ⟨c3, c4, c5, c6⟩ := rs_idx Sl25 Sz3 h0 c2
  refine pl_val (.pointer (some ⟨c3, c4, none⟩)) (c5 _ _ _ _ _ _ _ _ _ rfl rfl) ?_
  refine pl_val (.int .i64 x17) (y_load rfl ((at_load_int Ag3 Sz3 c6) _ (Chg.refl _ _))) ?_
  refine pl_val (.int .i64 x17) (y_assign rfl) ?_
  refine c_nil ?_
  refine c_region ?_
  refine pl_val (.slice a1 a2 a3) (y_move rfl) ?_
  refine pl_val (.int .i64 x17) (y_move rfl) ?_
  obtain ⟨x23, c7, hs⟩ := bind_some hs
  obtain ⟨b2, d6, b3, c8, c9, d7, d8⟩ := os_idx Sl86 Sz4 a6 c7
  refine pl_val (.pointer (some ⟨b2, 0 + Int.toNat x17 * 1, none⟩)) (c9 _ _ _ _ _ _ _ _ _ rfl rfl) ?_
  obtain ⟨d0, d1, d2, b0, d3, b1⟩ := os_store (P := Try.prog) (c' := [(.bool true)]) b3 a6 c8 (fun g hg => hO.inM g (os_block a6 g (by simpa using hg))) ⟨rfl, rfl⟩ List.nodup_nil (fun _ h => nomatch h) (fun _ h => .inl h)
  have b4 : ∀ q ∈ [b2], q ∈ a5 := fun q hq => os_block a6 q (by rw [b3]; exact hq)
  refine pl_skip (w' := d0) (ys_store rfl rfl (d2 _ _ rfl Sz4)) ?_
  have h0 := h0.mt b0 hO b4
  have hC := hC.st b0 hO b4
  have hO := hO.grow b0 (fun q hq => .inl ((d3 q hq).resolve_right (fun h => nomatch h))) (os_nodup b1) b1.fpl
  refine c_nil ?_
  refine c_region ?_
  refine pl_val (.int .i64 (w64 ((a4 : Int) + 1))) (y_add rfl rfl) ?_
  refine pl_val (.int .i64 (w64 ((a4 : Int) + 1))) (y_move rfl) ?_
  refine c_nil ?_
  cases hs
  exact ⟨_, rfl, drop_cons_next hd, _, d1, fr_ovl 21 ⟨rfl, rfl, rfl, congrArg (Value.int .i64) (w64_succ hlt (Int.natCast_nonneg _) (rs_max h0)), trivial⟩, hC, hO, h0, b1⟩
 ·skip
  exact ⟨0, rfl, rfl, _, b8, fr_ovl 21 ⟨rfl, rfl, rfl, rfl, trivial⟩, hC, hO, h0, a9⟩
 cases o18 with
 | nx _ => exact True.intro
 | rt r_ =>
  have hs := after_rt hs
  intro d4 b5 hK
  cases hs
  exact hK
 | br s14 =>
  have hs := after_br hs
  rintro d4 a0 ⟨σ, a7, rfl, hC, hO, h0, d5⟩
  refine c_sr ?_
  refine pl_val (.slice a1 a2 a3) (y_move rfl) ?_
  refine pl_val (.slice a1 a2 a3) (y_assign rfl) ?_
  refine c_nil ?_
  refine wp_ret ?_
  cases hs
  exact ⟨_, a1, a2, a3, a7, fr_ovl 21 ⟨rfl, trivial⟩, hC, d5, hO.top⟩

theorem Fa122x0 : ∀ (a : Addr) (w : World), (Instr.fieldAt 122 (.pointer (some a)) 0).run Try.prog w = .ok (.pointer (some (a.add 0))) w := fun _ _ => by kernel_rfl

theorem Ag111 : AggT Try.prog 111 false := fun _ => by kernel_rfl

theorem Sz111 : SzT Try.prog 111 1 := ⟨_, rfl, rfl⟩

theorem Fa122x1 : ∀ (a : Addr) (w : World), (Instr.fieldAt 122 (.pointer (some a)) 1).run Try.prog w = .ok (.pointer (some (a.add 1))) w := fun _ _ => by kernel_rfl

theorem Ag118 : AggT Try.prog 118 false := fun _ => by kernel_rfl

theorem Sz118 : SzT Try.prog 118 1 := ⟨_, rfl, rfl⟩

def k_sort_insertionSort_func (M : Nat → Prop) (w0 : World) {α_ : Type} (I_ : World → List α_ → Prop) (G_ : List Nat) (r : (List α_)) (a : Act) (w : World) : Prop :=
  ∃ (σ : Nat → Value) , a = fr 35 (ovl σ []) ∧ Chg (G_ ++ ([])) w0 w ∧ I_ w r
def s_sort_insertionSort_func {α_ : Type} (ls_ : α_ → α_ → Option Bool) (d_ : List α_) (a_ : Int) (b : Int) : Option ((List α_)) :=
  (forC (S := (List α_)) (R := (List α_)) (fun k78 s76 =>
  (iter (S := Int × (List α_)) (R := (List α_)) (fun s103 =>
  ((bif (decide (a_ < s103.1)) then (lsx ls_ s103.2 s103.1 (w64 (s103.1 - 1))).bind fun r116 =>
  some r116 else some false)).bind fun s111 =>
  (bif s111 then (swx s103.2 s103.1 (w64 (s103.1 - 1))).bind fun y119 =>
  some (.nx (w64 (s103.1 - 1), y119)) else some (.br (s103.1, s103.2)))) FU (k78, s76)).bind fun o107 => after o107 (fun r_ => some (.rt r_)) (fun s103 =>
  some (.nx s103.2))) (w64 (a_ + 1)) b d_).bind fun o80 => after o80 (fun r_ => some r_) (fun s76 =>
  some s76)
set_option maxHeartbeats 4000000 in
theorem c_sort_insertionSort_func {M : Nat → Prop} {w : World} {α_ : Type} {n0_ : Nat} {I_ : World → List α_ → Prop} {G_ : List Nat} {g_ sf_ : Nat} {lb_ sb_ : Array Value} (ls_ : α_ → α_ → Option Bool) (d_ : List α_) (a_ : Int) (b : Int) (hN_ : n0_ ≤ w.heap.size) (hE_ : Env Try.prog n0_ I_ G_ ls_ g_ lb_ sf_ sb_) (hI_ : I_ w d_) (hI : Own (Nw w (G_ ++ ([]))) M w (G_ ++ ([]))) (hM : ∀ g, w.heap.size ≤ g → M g) {r : (List α_)} (hs : s_sort_insertionSort_func ls_ d_ a_ b = some r) :
    Gives Try.prog 113 [(.agg #[(.func (.func g_) #[] lb_), (.func (.func sf_) #[] sb_)]), (.int .i64 a_), (.int .i64 b)] w (fun v w' => v = (.tuple #[]) ∧ Chg (G_ ++ ([])) w w' ∧ I_ w' r) := by
 refine calls_fr Try.func113 rfl Try.ntmps113 (Nat.le_of_ble_eq_true rfl) ?_
 have hO := hI
 have hC := Chg.refl (G_ ++ ([])) w
 unfold s_sort_insertionSort_func at hs
 refine wp_mono (Q := KPostN (k_sort_insertionSort_func M w I_ G_ r)) ?_ (fun e a a7 h => ?_)
 rotate_left
 ·cases e
  case ret =>
   obtain ⟨σ, rfl, hrest⟩ := h
   exact ret0x Try.results113  ⟨rfl, hrest⟩
  case normal =>
   obtain ⟨σ, rfl, hrest⟩ := h
   exact ret0n Try.results113  ⟨rfl, hrest⟩
  all_goals exact (h : False).elim
 refine c_sr ?_
 obtain ⟨a7, a1, b6, b4, b0, a0⟩ := new_block w [(.func (.func g_) #[] lb_), (.func (.func sf_) #[] sb_)] 122
 refine pl_val (w' := a7) (.pointer (some ⟨a1, 0, none⟩)) (y_box rfl (by rw [b6, b4]; kernel_rfl)) ?_
 have hI_ := hE_.ext hI_ b0 (fun _ h => nomatch h)
 have hC := hC.ext b0
 have hO := hO.new1 b0 b4 a0.lt
 refine c_nil ?_
 refine c_sr ?_
 refine pl_val (.int .i64 a_) (y_move rfl) ?_
 refine pl_val (.int .i64 (w64 (a_ + 1))) (y_add rfl rfl) ?_
 refine pl_val (.int .i64 (w64 (a_ + 1))) (y_assign rfl) ?_
 refine c_nil ?_
 obtain ⟨o80, b7, hs⟩ := bind_some hs
 refine wp_block ?_
 refine wp_forC (id := 0) b (I := fun k78 s76 a a4 => ∃ (σ : Nat → Value), a = fr 35 (ovl σ [(1, (.int .i64 a_)), (2, (.int .i64 b)), (3, (.pointer (some ⟨a1, 0, none⟩))), (6, (.int .i64 k78))]) ∧ Chg (G_ ++ ([])) w a4 ∧ Own (Nw w (G_ ++ ([]))) M a4 (([a1]) ++ (G_ ++ [])) ∧ I_ a4 s76 ∧ BoxV a4 a1 122 [(.func (.func g_) #[] lb_), (.func (.func sf_) #[] sb_)]) (J := fun s76 a a4 => ∃ (σ : Nat → Value), a = fr 35 (ovl σ []) ∧ Chg (G_ ++ ([])) w a4 ∧ Own (Nw w (G_ ++ ([]))) M a4 (([a1]) ++ (G_ ++ [])) ∧ I_ a4 s76 ∧ BoxV a4 a1 122 [(.func (.func g_) #[] lb_), (.func (.func sf_) #[] sb_)]) (K := (k_sort_insertionSort_func M w I_ G_)) ?_ ?_ (w64 (a_ + 1)) d_ o80 _ _ ?_ b7 ?_
 ·rintro k78 s76 a a4 ⟨σ, rfl, hC, hO, b1, a0⟩ hlt
  refine c_seq ?_
  refine c_sr ?_
  refine pl_val (.int .i64 k78) (y_move rfl) ?_
  refine pl_val (.int .i64 b) (y_move rfl) ?_
  refine pl_val (.bool (decide (k78 < b))) (y_lss rfl rfl) ?_
  refine c_nil ?_
  refine c_condF (congrArg Value.bool (decide_eq_false hlt)) ?_
  refine wp_exit ?_
  have hO := hO.fr1
  have hO := hO.fr1
  exact ⟨rfl, _, fr_ovl 35 trivial, hC, hO, b1, a0⟩
 ·rintro k78 s76 o80 a a4 ⟨σ, rfl, hC, hO, b1, a0⟩ hlt hw hs
  refine c_seq ?_
  refine c_sr ?_
  refine pl_val (.int .i64 k78) (y_move rfl) ?_
  refine pl_val (.int .i64 b) (y_move rfl) ?_
  refine pl_val (.bool (decide (k78 < b))) (y_lss rfl rfl) ?_
  refine c_nil ?_
  refine c_condT (congrArg Value.bool (decide_eq_true hlt)) ?_
  refine wp_skip ?_
  refine c_seq ?_
  refine wp_block ?_
  refine c_sr ?_
  refine pl_val (.int .i64 k78) (y_move rfl) ?_
  refine pl_val (.int .i64 k78) (y_assign rfl) ?_
  refine c_nil ?_
  obtain ⟨o107, b8, hs⟩ := bind_some hs
  refine wp_block ?_
  refine wp_iter (id := 2) (I := fun s103 a a3 => ∃ (σ : Nat → Value), a = fr 35 (ovl σ [(1, (.int .i64 a_)), (2, (.int .i64 b)), (3, (.pointer (some ⟨a1, 0, none⟩))), (6, (.int .i64 k78)), (7, (.int .i64 s103.1))]) ∧ Chg (G_ ++ ([])) w a3 ∧ Own (Nw w (G_ ++ ([]))) M a3 (([a1]) ++ (G_ ++ [])) ∧ I_ a3 s103.2 ∧ BoxV a3 a1 122 [(.func (.func g_) #[] lb_), (.func (.func sf_) #[] sb_)]) (J := fun s103 a a3 => ∃ (σ : Nat → Value), a = fr 35 (ovl σ [(1, (.int .i64 a_)), (2, (.int .i64 b)), (3, (.pointer (some ⟨a1, 0, none⟩))), (6, (.int .i64 k78))]) ∧ Chg (G_ ++ ([])) w a3 ∧ Own (Nw w (G_ ++ ([]))) M a3 (([a1]) ++ (G_ ++ [])) ∧ I_ a3 s103.2 ∧ BoxV a3 a1 122 [(.func (.func g_) #[] lb_), (.func (.func sf_) #[] sb_)]) (K := (k_sort_insertionSort_func M w I_ G_)) ?_ FU (k78, s76) o107 _ _ ?_ b8 ?_
  ·rintro s103 o107 a a3 ⟨σ, rfl, hC, hO, a5, a0⟩ hs
   refine c_seq ?_
   refine c_seq ?_
   obtain ⟨s111, b9, hs⟩ := bind_some hs
   refine c_mid (I := fun a b5 => ∃ (σ : Nat → Value), a = fr 35 (ovl σ [(1, (.int .i64 a_)), (2, (.int .i64 b)), (3, (.pointer (some ⟨a1, 0, none⟩))), (6, (.int .i64 k78)), (7, (.int .i64 s103.1)), (26, (.bool s111))]) ∧ Chg [] a3 b5) ?_ ?_
   ·replace hs := b9
    have hMid := Chg.refl [] a3
    refine c_region ?_
    refine pl_val (.int .i64 s103.1) (y_move rfl) ?_
    refine pl_val (.int .i64 a_) (y_move rfl) ?_
    refine pl_val (.bool (decide (a_ < s103.1))) (y_gtr rfl rfl) ?_
    refine pl_val (.bool (decide (a_ < s103.1))) (y_move rfl) ?_
    rcases bif_some hs with ⟨a2, hs⟩ | ⟨a2, hs⟩
    ·skip
     refine pl_yes (.pointer (some ⟨a1, 0, none⟩)) (tg := 19) (by kernel_rfl) (congrArg Value.bool a2) (y_faddr rfl Fa122x0) ?_
     refine pl_yes (.func (.func g_) #[] lb_) (tg := 19) (by kernel_rfl) (congrArg Value.bool a2) (y_load rfl ((box_load Ag111 Sz111 a0 [] [(.func (.func g_) #[] lb_)] [(.func (.func sf_) #[] sb_)] rfl rfl (fun _ => rfl)) _ (Chg.refl _ _))) ?_
     refine pl_yes (.int .i64 s103.1) (tg := 19) (by kernel_rfl) (congrArg Value.bool a2) (y_move rfl) ?_
     refine pl_yes (.int .i64 s103.1) (tg := 19) (by kernel_rfl) (congrArg Value.bool a2) (y_move rfl) ?_
     refine pl_yes (.int .i64 (w64 (s103.1 - 1))) (tg := 19) (by kernel_rfl) (congrArg Value.bool a2) (y_sub rfl rfl) ?_
     obtain ⟨r116, c0, hs⟩ := bind_some hs
     refine pl_callby (tg := 19) (by kernel_rfl) (congrArg Value.bool a2) rfl hE_.bod rfl (hE_.less a5 c0) ?_
     rintro _ c7 ⟨rfl, a6⟩
     have a5 := hE_.ext a5 a6 (fun _ h => nomatch h)
     have a0 := a0.cn a6
     have hMid := hMid.ext a6
     have hC := hC.ext a6
     have hO := hO.ext a6
     refine pl_val (.bool r116) (y_pick_t (congrArg Value.bool a2) rfl) ?_
     refine c_nil ?_
     cases hs
     exact ⟨_, fr_ovl 35 ⟨rfl, rfl, rfl, rfl, rfl, rfl, trivial⟩, hMid⟩
    refine pl_not (tg := 19) (by kernel_rfl) (congrArg Value.bool a2) ?_
    refine pl_not (tg := 19) (by kernel_rfl) (congrArg Value.bool a2) ?_
    refine pl_not (tg := 19) (by kernel_rfl) (congrArg Value.bool a2) ?_
    refine pl_not (tg := 19) (by kernel_rfl) (congrArg Value.bool a2) ?_
    refine pl_not (tg := 19) (by kernel_rfl) (congrArg Value.bool a2) ?_
    refine pl_not (tg := 19) (by kernel_rfl) (congrArg Value.bool a2) ?_
    refine pl_val (.bool false) (y_pick_f (congrArg Value.bool a2) rfl) ?_
    refine c_nil ?_
    cases hs
    exact ⟨_, fr_ovl 35 ⟨rfl, rfl, rfl, rfl, rfl, rfl, trivial⟩, hMid⟩
   rintro a8 b5 ⟨σ, rfl, a9⟩
   have a5 := hE_.ext a5 a9 (fun _ h => nomatch h)
   have a0 := a0.cn a9
   have hC := hC.ext a9
   have hO := hO.ext a9
   rcases bif_some hs with ⟨b2, hs⟩ | ⟨b2, hs⟩
   ·refine c_condT (congrArg Value.bool b2) ?_
    refine wp_skip ?_
    refine c_seq ?_
    refine wp_block ?_
    refine c_region ?_
    refine pl_val (.pointer (some ⟨a1, 1, none⟩)) (y_faddr rfl Fa122x1) ?_
    refine pl_val (.func (.func sf_) #[] sb_) (y_load rfl ((box_load Ag118 Sz118 a0 [(.func (.func g_) #[] lb_)] [(.func (.func sf_) #[] sb_)] [] rfl rfl (fun _ => rfl)) _ (Chg.refl _ _))) ?_
    refine pl_val (.int .i64 s103.1) (y_move rfl) ?_
    refine pl_val (.int .i64 s103.1) (y_move rfl) ?_
    refine pl_val (.int .i64 (w64 (s103.1 - 1))) (y_sub rfl rfl) ?_
    obtain ⟨y119, c1, hs⟩ := bind_some hs
    obtain ⟨c2, c3, b3, c4⟩ := hE_.swap a5 c1
    refine pl_val (w' := c2) (.tuple #[]) (y_callx rfl rfl c3) ?_
    have hO := hO.fr1
    have a0 := a0.ap b3 hO same_ (mem_l (List.mem_singleton.2 rfl))
    have hC := hC.st b3 hO same_
    have hO := hO.ext b3
    refine c_nil ?_
    refine c_region ?_
    refine pl_val (.int .i64 s103.1) (y_move rfl) ?_
    refine pl_val (.int .i64 (w64 (s103.1 - 1))) (y_sub rfl rfl) ?_
    refine pl_val (.int .i64 (w64 (s103.1 - 1))) (y_assign rfl) ?_
    refine c_nil ?_
    cases hs
    have hO := hO.fr1
    exact ⟨_, fr_ovl 35 ⟨rfl, rfl, rfl, rfl, rfl, trivial⟩, hC, hO, c4, a0⟩
   refine c_condF (congrArg Value.bool b2) ?_
   refine wp_exit ?_
   cases hs
   have hO := hO.fr1
   have hO := hO.fr1
   exact ⟨rfl, _, fr_ovl 35 ⟨rfl, rfl, rfl, rfl, trivial⟩, hC, hO, a5, a0⟩
  ·skip
   have hO := hO.fr1
   have hO := hO.fr1
   exact ⟨_, fr_ovl 35 ⟨rfl, rfl, rfl, rfl, rfl, trivial⟩, hC, hO, b1, a0⟩
  cases o107 with
  | nx _ => exact True.intro
  | rt r_ =>
   have hs := after_rt hs
   intro a8 a7 hK
   cases hs
   exact hK
  | br s103 =>
   have hs := after_br hs
   rintro a8 a3 ⟨σ, rfl, hC, hO, c5, a0⟩
   refine c_region ?_
   refine pl_val (.int .i64 k78) (y_move rfl) ?_
   refine pl_val (.int .i64 (w64 (k78 + 1))) (y_add rfl rfl) ?_
   refine pl_val (.int .i64 (w64 (k78 + 1))) (y_assign rfl) ?_
   refine c_nil ?_
   cases hs
   have hO := hO.fr1
   have hO := hO.fr1
   exact ⟨_, fr_ovl 35 ⟨rfl, rfl, rfl, congrArg (Value.int .i64) hw, trivial⟩, hC, hO, c5, a0⟩
 ·skip
  have hO := hO.fr1
  have hO := hO.fr1
  exact ⟨_, fr_ovl 35 ⟨rfl, rfl, rfl, rfl, trivial⟩, hC, hO, hI_, a0⟩
 cases o80 with
 | nx _ => exact True.intro
 | rt r_ =>
  have hs := after_rt hs
  intro a8 a7 hK
  cases hs
  exact hK
 | br s76 =>
  have hs := after_br hs
  rintro a8 a4 ⟨σ, rfl, hC, hO, c6, a0⟩
  cases hs
  exact ⟨_, fr_ovl 35 trivial, hC, c6⟩

def k_sort_swapRange_func (M : Nat → Prop) (w0 : World) {α_ : Type} (I_ : World → List α_ → Prop) (G_ : List Nat) (r : (List α_)) (a : Act) (w : World) : Prop :=
  ∃ (σ : Nat → Value) , a = fr 23 (ovl σ []) ∧ Chg (G_ ++ ([])) w0 w ∧ I_ w r
def s_sort_swapRange_func {α_ : Type} (ls_ : α_ → α_ → Option Bool) (d_ : List α_) (a_ : Int) (b : Int) (n : Int) : Option ((List α_)) :=
  (forC (S := (List α_)) (R := (List α_)) (fun k9 s7 =>
  (swx s7 (w64 (a_ + k9)) (w64 (b + k9))).bind fun y16 =>
  some (.nx y16)) 0 n d_).bind fun o11 => after o11 (fun r_ => some r_) (fun s7 =>
  some s7)
set_option maxHeartbeats 4000000 in
theorem c_sort_swapRange_func {M : Nat → Prop} {w : World} {α_ : Type} {n0_ : Nat} {I_ : World → List α_ → Prop} {G_ : List Nat} {g_ sf_ : Nat} {lb_ sb_ : Array Value} (ls_ : α_ → α_ → Option Bool) (d_ : List α_) (a_ : Int) (b : Int) (n : Int) (hN_ : n0_ ≤ w.heap.size) (hE_ : Env Try.prog n0_ I_ G_ ls_ g_ lb_ sf_ sb_) (hI_ : I_ w d_) (hI : Own (Nw w (G_ ++ ([]))) M w (G_ ++ ([]))) (hM : ∀ g, w.heap.size ≤ g → M g) {r : (List α_)} (hs : s_sort_swapRange_func ls_ d_ a_ b n = some r) :
    Gives Try.prog 116 [(.agg #[(.func (.func g_) #[] lb_), (.func (.func sf_) #[] sb_)]), (.int .i64 a_), (.int .i64 b), (.int .i64 n)] w (fun v w' => v = (.tuple #[]) ∧ Chg (G_ ++ ([])) w w' ∧ I_ w' r) := by
 refine calls_fr Try.func116 rfl Try.ntmps116 (Nat.le_of_ble_eq_true rfl) ?_
 have hO := hI
 have hC := Chg.refl (G_ ++ ([])) w
 unfold s_sort_swapRange_func at hs
 refine wp_mono (Q := KPostN (k_sort_swapRange_func M w I_ G_ r)) ?_ (fun e a a3 h => ?_)
 rotate_left
 ·cases e
  case ret =>
   obtain ⟨σ, rfl, hrest⟩ := h
   exact ret0x Try.results116  ⟨rfl, hrest⟩
  case normal =>
   obtain ⟨σ, rfl, hrest⟩ := h
   exact ret0n Try.results116  ⟨rfl, hrest⟩
  all_goals exact (h : False).elim
 refine c_sr ?_
 obtain ⟨a3, a2, a8, a7, a4, a1⟩ := new_block w [(.func (.func g_) #[] lb_), (.func (.func sf_) #[] sb_)] 122
 refine pl_val (w' := a3) (.pointer (some ⟨a2, 0, none⟩)) (y_box rfl (by rw [a8, a7]; kernel_rfl)) ?_
 have hI_ := hE_.ext hI_ a4 (fun _ h => nomatch h)
 have hC := hC.ext a4
 have hO := hO.new1 a4 a7 a1.lt
 refine c_nil ?_
 refine c_sr ?_
 refine pl_val (.int .i64 0) (y_assign rfl) ?_
 refine c_nil ?_
 obtain ⟨o11, a9, hs⟩ := bind_some hs
 refine wp_block ?_
 refine wp_forC (id := 0) n (I := fun k9 s7 a a0 => ∃ (σ : Nat → Value), a = fr 23 (ovl σ [(1, (.int .i64 a_)), (2, (.int .i64 b)), (3, (.int .i64 n)), (4, (.pointer (some ⟨a2, 0, none⟩))), (8, (.int .i64 k9))]) ∧ Chg (G_ ++ ([])) w a0 ∧ Own (Nw w (G_ ++ ([]))) M a0 (([a2]) ++ (G_ ++ [])) ∧ I_ a0 s7 ∧ BoxV a0 a2 122 [(.func (.func g_) #[] lb_), (.func (.func sf_) #[] sb_)]) (J := fun s7 a a0 => ∃ (σ : Nat → Value), a = fr 23 (ovl σ []) ∧ Chg (G_ ++ ([])) w a0 ∧ Own (Nw w (G_ ++ ([]))) M a0 (([a2]) ++ (G_ ++ [])) ∧ I_ a0 s7 ∧ BoxV a0 a2 122 [(.func (.func g_) #[] lb_), (.func (.func sf_) #[] sb_)]) (K := (k_sort_swapRange_func M w I_ G_)) ?_ ?_ 0 d_ o11 _ _ ?_ a9 ?_
 ·rintro k9 s7 a a0 ⟨σ, rfl, hC, hO, a5, a1⟩ hlt
  refine c_seq ?_
  refine c_sr ?_
  refine pl_val (.int .i64 k9) (y_move rfl) ?_
  refine pl_val (.int .i64 n) (y_move rfl) ?_
  refine pl_val (.bool (decide (k9 < n))) (y_lss rfl rfl) ?_
  refine c_nil ?_
  refine c_condF (congrArg Value.bool (decide_eq_false hlt)) ?_
  refine wp_exit ?_
  have hO := hO.fr1
  have hO := hO.fr1
  exact ⟨rfl, _, fr_ovl 23 trivial, hC, hO, a5, a1⟩
 ·rintro k9 s7 o11 a a0 ⟨σ, rfl, hC, hO, a5, a1⟩ hlt hw hs
  refine c_seq ?_
  refine c_sr ?_
  refine pl_val (.int .i64 k9) (y_move rfl) ?_
  refine pl_val (.int .i64 n) (y_move rfl) ?_
  refine pl_val (.bool (decide (k9 < n))) (y_lss rfl rfl) ?_
  refine c_nil ?_
  refine c_condT (congrArg Value.bool (decide_eq_true hlt)) ?_
  refine wp_skip ?_
  refine c_seq ?_
  refine wp_block ?_
  refine c_region ?_
  refine pl_val (.pointer (some ⟨a2, 1, none⟩)) (y_faddr rfl Fa122x1) ?_
  refine pl_val (.func (.func sf_) #[] sb_) (y_load rfl ((box_load Ag118 Sz118 a1 [(.func (.func g_) #[] lb_)] [(.func (.func sf_) #[] sb_)] [] rfl rfl (fun _ => rfl)) _ (Chg.refl _ _))) ?_
  refine pl_val (.int .i64 a_) (y_move rfl) ?_
  refine pl_val (.int .i64 k9) (y_move rfl) ?_
  refine pl_val (.int .i64 (w64 (a_ + k9))) (y_add rfl rfl) ?_
  refine pl_val (.int .i64 b) (y_move rfl) ?_
  refine pl_val (.int .i64 k9) (y_move rfl) ?_
  refine pl_val (.int .i64 (w64 (b + k9))) (y_add rfl rfl) ?_
  obtain ⟨y16, b0, hs⟩ := bind_some hs
  obtain ⟨b1, b2, a6, b3⟩ := hE_.swap a5 b0
  refine pl_val (w' := b1) (.tuple #[]) (y_callx rfl rfl b2) ?_
  have hO := hO.fr1
  have a1 := a1.ap a6 hO same_ (mem_l (List.mem_singleton.2 rfl))
  have hC := hC.st a6 hO same_
  have hO := hO.ext a6
  refine c_nil ?_
  refine c_region ?_
  refine pl_val (.int .i64 k9) (y_move rfl) ?_
  refine pl_val (.int .i64 (w64 (k9 + 1))) (y_add rfl rfl) ?_
  refine pl_val (.int .i64 (w64 (k9 + 1))) (y_assign rfl) ?_
  refine c_nil ?_
  cases hs
  have hO := hO.fr1
  exact ⟨_, fr_ovl 23 ⟨rfl, rfl, rfl, rfl, congrArg (Value.int .i64) hw, trivial⟩, hC, hO, b3, a1⟩
 ·skip
  have hO := hO.fr1
  have hO := hO.fr1
  exact ⟨_, fr_ovl 23 ⟨rfl, rfl, rfl, rfl, rfl, trivial⟩, hC, hO, hI_, a1⟩
 cases o11 with
 | nx _ => exact True.intro
 | rt r_ =>
  have hs := after_rt hs
  intro b4 a3 hK
  cases hs
  exact hK
 | br s7 =>
  have hs := after_br hs
  rintro b4 a0 ⟨σ, rfl, hC, hO, b5, a1⟩
  cases hs
  exact ⟨_, fr_ovl 23 trivial, hC, b5⟩

theorem Ag122 : AggT Try.prog 122 true := fun _ => by kernel_rfl

theorem Sz122 : SzT Try.prog 122 2 := ⟨_, rfl, rfl⟩

theorem Bd116 : Bodied Try.prog 116 := bodied Try.func116 (by kernel_rfl) rfl

def k_sort_rotate_func (M : Nat → Prop) (w0 : World) {α_ : Type} (I_ : World → List α_ → Prop) (G_ : List Nat) (r : (List α_)) (a : Act) (w : World) : Prop :=
  ∃ (σ : Nat → Value) , a = fr 53 (ovl σ []) ∧ Chg (G_ ++ ([])) w0 w ∧ I_ w r
def s_sort_rotate_func {α_ : Type} (ls_ : α_ → α_ → Option Bool) (d_ : List α_) (a_ : Int) (m : Int) (b : Int) : Option ((List α_)) :=
  (iter (S := Int × Int × (List α_)) (R := (List α_)) (fun s15 =>
  (bif (s15.1 != s15.2.1) then (bif (decide (s15.2.1 < s15.1)) then (s_sort_swapRange_func ls_ s15.2.2 (w64 (m - s15.1)) m s15.2.1).bind fun r26 =>
  some (.nx (w64 (s15.1 - s15.2.1), s15.2.1, r26)) else (s_sort_swapRange_func ls_ s15.2.2 (w64 (m - s15.1)) (w64 ((w64 (m + s15.2.1)) - s15.1)) s15.1).bind fun r28 =>
  some (.nx (s15.1, w64 (s15.2.1 - s15.1), r28))) else some (.br (s15.1, s15.2.1, s15.2.2)))) FU (w64 (m - a_), w64 (b - m), d_)).bind fun o19 => after o19 (fun r_ => some r_) (fun s15 =>
  (s_sort_swapRange_func ls_ s15.2.2 (w64 (m - s15.1)) m s15.1).bind fun r30 =>
  some r30)
set_option maxHeartbeats 4000000 in
theorem c_sort_rotate_func {M : Nat → Prop} {w : World} {α_ : Type} {n0_ : Nat} {I_ : World → List α_ → Prop} {G_ : List Nat} {g_ sf_ : Nat} {lb_ sb_ : Array Value} (ls_ : α_ → α_ → Option Bool) (d_ : List α_) (a_ : Int) (m : Int) (b : Int) (hN_ : n0_ ≤ w.heap.size) (hE_ : Env Try.prog n0_ I_ G_ ls_ g_ lb_ sf_ sb_) (hI_ : I_ w d_) (hI : Own (Nw w (G_ ++ ([]))) M w (G_ ++ ([]))) (hM : ∀ g, w.heap.size ≤ g → M g) {r : (List α_)} (hs : s_sort_rotate_func ls_ d_ a_ m b = some r) :
    Gives Try.prog 115 [(.agg #[(.func (.func g_) #[] lb_), (.func (.func sf_) #[] sb_)]), (.int .i64 a_), (.int .i64 m), (.int .i64 b)] w (fun v w' => v = (.tuple #[]) ∧ Chg (G_ ++ ([])) w w' ∧ I_ w' r) := by
 refine calls_fr Try.func115 rfl Try.ntmps115 (Nat.le_of_ble_eq_true rfl) ?_
 have hO := hI
 have hC := Chg.refl (G_ ++ ([])) w
 unfold s_sort_rotate_func at hs
 refine wp_mono (Q := KPostN (k_sort_rotate_func M w I_ G_ r)) ?_ (fun e a a3 h => ?_)
 rotate_left
 ·cases e
  case ret =>
   obtain ⟨σ, rfl, hrest⟩ := h
   exact ret0x Try.results115  ⟨rfl, hrest⟩
  case normal =>
   obtain ⟨σ, rfl, hrest⟩ := h
   exact ret0n Try.results115  ⟨rfl, hrest⟩
  all_goals exact (h : False).elim
 refine c_sr ?_
 obtain ⟨a3, a2, b2, b1, a4, a0⟩ := new_block w [(.func (.func g_) #[] lb_), (.func (.func sf_) #[] sb_)] 122
 refine pl_val (w' := a3) (.pointer (some ⟨a2, 0, none⟩)) (y_box rfl (by rw [b2, b1]; kernel_rfl)) ?_
 have hI_ := hE_.ext hI_ a4 (fun _ h => nomatch h)
 have hC := hC.ext a4
 have hO := hO.new1 a4 b1 a0.lt
 refine c_nil ?_
 refine c_sr ?_
 refine pl_val (.int .i64 m) (y_move rfl) ?_
 refine pl_val (.int .i64 a_) (y_move rfl) ?_
 refine pl_val (.int .i64 (w64 (m - a_))) (y_sub rfl rfl) ?_
 refine pl_val (.int .i64 (w64 (m - a_))) (y_assign rfl) ?_
 refine c_nil ?_
 refine c_sr ?_
 refine pl_val (.int .i64 b) (y_move rfl) ?_
 refine pl_val (.int .i64 m) (y_move rfl) ?_
 refine pl_val (.int .i64 (w64 (b - m))) (y_sub rfl rfl) ?_
 refine pl_val (.int .i64 (w64 (b - m))) (y_assign rfl) ?_
 refine c_nil ?_
 refine c_seq ?_
 obtain ⟨o19, b3, hs⟩ := bind_some hs
 refine wp_block ?_
 refine wp_iter (id := 0) (I := fun s15 a a1 => ∃ (σ : Nat → Value), a = fr 53 (ovl σ [(2, (.int .i64 m)), (4, (.pointer (some ⟨a2, 0, none⟩))), (8, (.int .i64 s15.1)), (9, (.int .i64 s15.2.1))]) ∧ Chg (G_ ++ ([])) w a1 ∧ Own (Nw w (G_ ++ ([]))) M a1 (([a2]) ++ (G_ ++ [])) ∧ I_ a1 s15.2.2 ∧ BoxV a1 a2 122 [(.func (.func g_) #[] lb_), (.func (.func sf_) #[] sb_)]) (J := fun s15 a a1 => ∃ (σ : Nat → Value), a = fr 53 (ovl σ [(2, (.int .i64 m)), (4, (.pointer (some ⟨a2, 0, none⟩))), (8, (.int .i64 s15.1))]) ∧ Chg (G_ ++ ([])) w a1 ∧ Own (Nw w (G_ ++ ([]))) M a1 (([a2]) ++ (G_ ++ [])) ∧ I_ a1 s15.2.2 ∧ BoxV a1 a2 122 [(.func (.func g_) #[] lb_), (.func (.func sf_) #[] sb_)]) (K := (k_sort_rotate_func M w I_ G_)) ?_ FU (w64 (m - a_), w64 (b - m), d_) o19 _ _ ?_ b3 ?_
 ·rintro s15 o19 a a1 ⟨σ, rfl, hC, hO, a5, a0⟩ hs
  refine c_seq ?_
  refine c_sr ?_
  refine pl_val (.int .i64 s15.1) (y_move rfl) ?_
  refine pl_val (.int .i64 s15.2.1) (y_move rfl) ?_
  refine pl_val (.bool (s15.1 != s15.2.1)) (y_neq rfl rfl) ?_
  refine c_nil ?_
  rcases bif_some hs with ⟨a6, hs⟩ | ⟨a6, hs⟩
  ·refine c_condT (congrArg Value.bool a6) ?_
   refine wp_skip ?_
   refine wp_block ?_
   refine c_sr ?_
   refine pl_val (.int .i64 s15.1) (y_move rfl) ?_
   refine pl_val (.int .i64 s15.2.1) (y_move rfl) ?_
   refine pl_val (.bool (decide (s15.2.1 < s15.1))) (y_gtr rfl rfl) ?_
   refine c_nil ?_
   rcases bif_some hs with ⟨a7, hs⟩ | ⟨a7, hs⟩
   ·refine c_condT (congrArg Value.bool a7) ?_
    refine c_sr ?_
    refine pl_val (.agg #[(.func (.func g_) #[] lb_), (.func (.func sf_) #[] sb_)]) (y_load rfl ((box_load Ag122 Sz122 a0 [] [(.func (.func g_) #[] lb_), (.func (.func sf_) #[] sb_)] [] rfl rfl (fun h => nomatch h)) _ (Chg.refl _ _))) ?_
    refine pl_val (.int .i64 m) (y_move rfl) ?_
    refine pl_val (.int .i64 s15.1) (y_move rfl) ?_
    refine pl_val (.int .i64 (w64 (m - s15.1))) (y_sub rfl rfl) ?_
    refine pl_val (.int .i64 m) (y_move rfl) ?_
    refine pl_val (.int .i64 s15.2.1) (y_move rfl) ?_
    have hO := hO.fr1
    have b4 := Own.lend (F := (G_ ++ ([]))) (R := ([a2]) ++ ([])) (Own.perm hO (by simp))
    obtain ⟨r26, b5, hs⟩ := bind_some hs
    refine pl_call Bd116 rfl (c_sort_swapRange_func (M := M) ls_ s15.2.2 (w64 (m - s15.1)) m s15.2.1 (Nat.le_trans hN_ hC.size) hE_ a5 b4 hO.fut b5) ?_
    rintro _ c5 ⟨rfl, a8, b6⟩
    have a0 := a0.ap a8 hO nil_mem (mem_l (List.mem_singleton.2 rfl))
    have hC := hC.st a8 hO nil_mem
    have hO := hO.ext a8
    refine c_nil ?_
    refine c_region ?_
    refine pl_val (.int .i64 s15.1) (y_move rfl) ?_
    refine pl_val (.int .i64 s15.2.1) (y_move rfl) ?_
    refine pl_val (.int .i64 (w64 (s15.1 - s15.2.1))) (y_sub rfl rfl) ?_
    refine pl_val (.int .i64 (w64 (s15.1 - s15.2.1))) (y_assign rfl) ?_
    refine c_nil ?_
    cases hs
    have hO := hO.fr1
    exact ⟨_, fr_ovl 53 ⟨rfl, rfl, rfl, rfl, trivial⟩, hC, hO, b6, a0⟩
   refine c_condF (congrArg Value.bool a7) ?_
   refine c_sr ?_
   refine pl_val (.agg #[(.func (.func g_) #[] lb_), (.func (.func sf_) #[] sb_)]) (y_load rfl ((box_load Ag122 Sz122 a0 [] [(.func (.func g_) #[] lb_), (.func (.func sf_) #[] sb_)] [] rfl rfl (fun h => nomatch h)) _ (Chg.refl _ _))) ?_
   refine pl_val (.int .i64 m) (y_move rfl) ?_
   refine pl_val (.int .i64 s15.1) (y_move rfl) ?_
   refine pl_val (.int .i64 (w64 (m - s15.1))) (y_sub rfl rfl) ?_
   refine pl_val (.int .i64 m) (y_move rfl) ?_
   refine pl_val (.int .i64 s15.2.1) (y_move rfl) ?_
   refine pl_val (.int .i64 (w64 (m + s15.2.1))) (y_add rfl rfl) ?_
   refine pl_val (.int .i64 s15.1) (y_move rfl) ?_
   refine pl_val (.int .i64 (w64 ((w64 (m + s15.2.1)) - s15.1))) (y_sub rfl rfl) ?_
   refine pl_val (.int .i64 s15.1) (y_move rfl) ?_
   have hO := hO.fr1
   have b7 := Own.lend (F := (G_ ++ ([]))) (R := ([a2]) ++ ([])) (Own.perm hO (by simp))
   obtain ⟨r28, b8, hs⟩ := bind_some hs
   refine pl_call Bd116 rfl (c_sort_swapRange_func (M := M) ls_ s15.2.2 (w64 (m - s15.1)) (w64 ((w64 (m + s15.2.1)) - s15.1)) s15.1 (Nat.le_trans hN_ hC.size) hE_ a5 b7 hO.fut b8) ?_
   rintro _ c6 ⟨rfl, a9, b9⟩
   have a0 := a0.ap a9 hO nil_mem (mem_l (List.mem_singleton.2 rfl))
   have hC := hC.st a9 hO nil_mem
   have hO := hO.ext a9
   refine c_nil ?_
   refine c_region ?_
   refine pl_val (.int .i64 s15.2.1) (y_move rfl) ?_
   refine pl_val (.int .i64 s15.1) (y_move rfl) ?_
   refine pl_val (.int .i64 (w64 (s15.2.1 - s15.1))) (y_sub rfl rfl) ?_
   refine pl_val (.int .i64 (w64 (s15.2.1 - s15.1))) (y_assign rfl) ?_
   refine c_nil ?_
   cases hs
   have hO := hO.fr1
   exact ⟨_, fr_ovl 53 ⟨rfl, rfl, rfl, rfl, trivial⟩, hC, hO, b9, a0⟩
  refine c_condF (congrArg Value.bool a6) ?_
  refine wp_exit ?_
  cases hs
  have hO := hO.fr1
  have hO := hO.fr1
  exact ⟨rfl, _, fr_ovl 53 ⟨rfl, rfl, rfl, trivial⟩, hC, hO, a5, a0⟩
 ·skip
  have hO := hO.fr1
  have hO := hO.fr1
  exact ⟨_, fr_ovl 53 ⟨rfl, rfl, rfl, rfl, trivial⟩, hC, hO, hI_, a0⟩
 cases o19 with
 | nx _ => exact True.intro
 | rt r_ =>
  have hs := after_rt hs
  intro c0 a3 hK
  cases hs
  exact hK
 | br s15 =>
  have hs := after_br hs
  rintro c0 a1 ⟨σ, rfl, hC, hO, c1, a0⟩
  refine c_region ?_
  refine pl_val (.agg #[(.func (.func g_) #[] lb_), (.func (.func sf_) #[] sb_)]) (y_load rfl ((box_load Ag122 Sz122 a0 [] [(.func (.func g_) #[] lb_), (.func (.func sf_) #[] sb_)] [] rfl rfl (fun h => nomatch h)) _ (Chg.refl _ _))) ?_
  refine pl_val (.int .i64 m) (y_move rfl) ?_
  refine pl_val (.int .i64 s15.1) (y_move rfl) ?_
  refine pl_val (.int .i64 (w64 (m - s15.1))) (y_sub rfl rfl) ?_
  refine pl_val (.int .i64 m) (y_move rfl) ?_
  refine pl_val (.int .i64 s15.1) (y_move rfl) ?_
  have hO := hO.fr1
  have c2 := Own.lend (F := (G_ ++ ([]))) (R := ([a2]) ++ ([])) (Own.perm hO (by simp))
  obtain ⟨r30, c3, hs⟩ := bind_some hs
  refine pl_call Bd116 rfl (c_sort_swapRange_func (M := M) ls_ s15.2.2 (w64 (m - s15.1)) m s15.1 (Nat.le_trans hN_ hC.size) hE_ c1 c2 hO.fut c3) ?_
  rintro _ c7 ⟨rfl, b0, c4⟩
  have a0 := a0.ap b0 hO nil_mem (mem_l (List.mem_singleton.2 rfl))
  have hC := hC.st b0 hO nil_mem
  have hO := hO.ext b0
  refine c_nil ?_
  cases hs
  exact ⟨_, fr_ovl 53 trivial, hC, c4⟩

theorem Bd115 : Bodied Try.prog 115 := bodied Try.func115 (by kernel_rfl) rfl

theorem Bd114 : Bodied Try.prog 114 := bodied Try.func114 (by kernel_rfl) rfl

def k_sort_symMerge_func (M : Nat → Prop) (w0 : World) {α_ : Type} (I_ : World → List α_ → Prop) (G_ : List Nat) (r : (List α_)) (a : Act) (w : World) : Prop :=
  ∃ (σ : Nat → Value) , a = fr 177 (ovl σ []) ∧ Chg (G_ ++ ([])) w0 w ∧ I_ w r
def s_sort_symMerge_func {α_ : Type} : Nat → (α_ → α_ → Option Bool) → (List α_) → (Int) → (Int) → (Int) → Option ((List α_))
  | 0, _, _, _, _, _ => none
  | fu_ + 1, ls_, d_, a_, m, b =>
  (bif ((w64 (m - a_)) == 1) then (iter (S := Int × Int) (R := (List α_)) (fun s7 =>
  (bif (decide (s7.1 < s7.2)) then (lsx ls_ d_ (w64 (ishr .u64 (IntKind.u64.wrap (w64 (s7.1 + s7.2))) 1)) a_).bind fun r15 =>
  (bif r15 then some (.nx (w64 ((w64 (ishr .u64 (IntKind.u64.wrap (w64 (s7.1 + s7.2))) 1)) + 1), s7.2)) else some (.nx (s7.1, w64 (ishr .u64 (IntKind.u64.wrap (w64 (s7.1 + s7.2))) 1)))) else some (.br (s7.1, s7.2)))) FU (m, b)).bind fun o11 => after o11 (fun r_ => some r_) (fun s7 =>
  (forC (S := (List α_)) (R := (List α_)) (fun k24 s22 =>
  (swx s22 k24 (w64 (k24 + 1))).bind fun y31 =>
  some (.nx y31)) a_ (w64 (s7.1 - 1)) d_).bind fun o26 => after o26 (fun r_ => some r_) (fun s22 =>
  some s22)) else (bif ((w64 (b - m)) == 1) then (iter (S := Int × Int) (R := (List α_)) (fun s37 =>
  (bif (decide (s37.1 < s37.2)) then (lsx ls_ d_ m (w64 (ishr .u64 (IntKind.u64.wrap (w64 (s37.1 + s37.2))) 1))).bind fun r45 =>
  (bif (!r45) then some (.nx (w64 ((w64 (ishr .u64 (IntKind.u64.wrap (w64 (s37.1 + s37.2))) 1)) + 1), s37.2)) else some (.nx (s37.1, w64 (ishr .u64 (IntKind.u64.wrap (w64 (s37.1 + s37.2))) 1)))) else some (.br (s37.1, s37.2)))) FU (a_, m)).bind fun o41 => after o41 (fun r_ => some r_) (fun s37 =>
  (iter (S := Int × (List α_)) (R := (List α_)) (fun s54 =>
  (bif (decide (s37.1 < s54.1)) then (swx s54.2 s54.1 (w64 (s54.1 - 1))).bind fun y64 =>
  some (.nx (w64 (s54.1 - 1), y64)) else some (.br (s54.1, s54.2)))) FU (m, d_)).bind fun o58 => after o58 (fun r_ => some r_) (fun s54 =>
  some s54.2)) else (bif (decide ((w64 (ishr .u64 (IntKind.u64.wrap (w64 (a_ + b))) 1)) < m)) then some (w64 ((w64 ((w64 (ishr .u64 (IntKind.u64.wrap (w64 (a_ + b))) 1)) + m)) - b), w64 (ishr .u64 (IntKind.u64.wrap (w64 (a_ + b))) 1)) else some (a_, m)).bind fun s65 =>
  (iter (S := Int × Int) (R := (List α_)) (fun s73 =>
  (bif (decide (s73.1 < s73.2)) then (lsx ls_ d_ (w64 ((w64 ((w64 ((w64 (ishr .u64 (IntKind.u64.wrap (w64 (a_ + b))) 1)) + m)) - 1)) - (w64 (ishr .u64 (IntKind.u64.wrap (w64 (s73.1 + s73.2))) 1)))) (w64 (ishr .u64 (IntKind.u64.wrap (w64 (s73.1 + s73.2))) 1))).bind fun r81 =>
  (bif (!r81) then some (.nx (w64 ((w64 (ishr .u64 (IntKind.u64.wrap (w64 (s73.1 + s73.2))) 1)) + 1), s73.2)) else some (.nx (s73.1, w64 (ishr .u64 (IntKind.u64.wrap (w64 (s73.1 + s73.2))) 1)))) else some (.br (s73.1, s73.2)))) FU (s65.1, s65.2)).bind fun o77 => after o77 (fun r_ => some r_) (fun s73 =>
  (bif ((decide (s73.1 < m)) && (decide (m < (w64 ((w64 ((w64 (ishr .u64 (IntKind.u64.wrap (w64 (a_ + b))) 1)) + m)) - s73.1))))) then (s_sort_rotate_func ls_ d_ s73.1 m (w64 ((w64 ((w64 (ishr .u64 (IntKind.u64.wrap (w64 (a_ + b))) 1)) + m)) - s73.1))).bind fun r97 =>
  some r97 else some d_).bind fun s91 =>
  (bif ((decide (a_ < s73.1)) && (decide (s73.1 < (w64 (ishr .u64 (IntKind.u64.wrap (w64 (a_ + b))) 1))))) then (s_sort_symMerge_func fu_ ls_ s91 a_ s73.1 (w64 (ishr .u64 (IntKind.u64.wrap (w64 (a_ + b))) 1))).bind fun r112 =>
  some r112 else some s91).bind fun s106 =>
  (bif ((decide ((w64 (ishr .u64 (IntKind.u64.wrap (w64 (a_ + b))) 1)) < (w64 ((w64 ((w64 (ishr .u64 (IntKind.u64.wrap (w64 (a_ + b))) 1)) + m)) - s73.1)))) && (decide ((w64 ((w64 ((w64 (ishr .u64 (IntKind.u64.wrap (w64 (a_ + b))) 1)) + m)) - s73.1)) < b))) then (s_sort_symMerge_func fu_ ls_ s106 (w64 (ishr .u64 (IntKind.u64.wrap (w64 (a_ + b))) 1)) (w64 ((w64 ((w64 (ishr .u64 (IntKind.u64.wrap (w64 (a_ + b))) 1)) + m)) - s73.1)) b).bind fun r119 =>
  some r119 else some s106))))
set_option maxHeartbeats 4000000 in
theorem c_sort_symMerge_func : ∀ (fu_ : Nat) {M : Nat → Prop} {w : World} {α_ : Type} {n0_ : Nat} {I_ : World → List α_ → Prop} {G_ : List Nat} {g_ sf_ : Nat} {lb_ sb_ : Array Value} (ls_ : α_ → α_ → Option Bool) (d_ : List α_) (a_ : Int) (m : Int) (b : Int) (hN_ : n0_ ≤ w.heap.size) (hE_ : Env Try.prog n0_ I_ G_ ls_ g_ lb_ sf_ sb_) (hI_ : I_ w d_) (hI : Own (Nw w (G_ ++ ([]))) M w (G_ ++ ([]))) (hM : ∀ g, w.heap.size ≤ g → M g) {r : (List α_)} (hs : s_sort_symMerge_func fu_ ls_ d_ a_ m b = some r), Gives Try.prog 114 [(.agg #[(.func (.func g_) #[] lb_), (.func (.func sf_) #[] sb_)]), (.int .i64 a_), (.int .i64 m), (.int .i64 b)] w (fun v w' => v = (.tuple #[]) ∧ Chg (G_ ++ ([])) w w' ∧ I_ w' r) := by
 intro fu_
 induction fu_ with
 | zero => intro M w α_ n0_ I_ G_ g_ sf_ lb_ sb_ ls_ d_ a_ m b hN_ hE_ hI_ hI hM r hs; exact (nomatch hs)
 | succ fu_ c_ih =>
 intro M w α_ n0_ I_ G_ g_ sf_ lb_ sb_ ls_ d_ a_ m b hN_ hE_ hI_ hI hM r hs
 refine calls_fr Try.func114 rfl Try.ntmps114 (Nat.le_of_ble_eq_true rfl) ?_
 have hO := hI
 have hC := Chg.refl (G_ ++ ([])) w
 rw [s_sort_symMerge_func] at hs
 refine wp_mono (Q := KPostN (k_sort_symMerge_func M w I_ G_ r)) ?_ (fun e a b1 h => ?_)
 rotate_left
 ·cases e
  case ret =>
   obtain ⟨σ, rfl, hrest⟩ := h
   exact ret0x Try.results114  ⟨rfl, hrest⟩
  case normal =>
   obtain ⟨σ, rfl, hrest⟩ := h
   exact ret0n Try.results114  ⟨rfl, hrest⟩
  all_goals exact (h : False).elim
 refine c_sr ?_
 obtain ⟨b1, a1, e8, e3, c3, a0⟩ := new_block w [(.func (.func g_) #[] lb_), (.func (.func sf_) #[] sb_)] 122
 refine pl_val (w' := b1) (.pointer (some ⟨a1, 0, none⟩)) (y_box rfl (by rw [e8, e3]; kernel_rfl)) ?_
 have hI_ := hE_.ext hI_ c3 (fun _ h => nomatch h)
 have hC := hC.ext c3
 have hO := hO.new1 c3 e3 a0.lt
 refine c_nil ?_
 refine c_seq ?_
 refine c_sr ?_
 refine pl_val (.int .i64 m) (y_move rfl) ?_
 refine pl_val (.int .i64 a_) (y_move rfl) ?_
 refine pl_val (.int .i64 (w64 (m - a_))) (y_sub rfl rfl) ?_
 refine pl_val (.bool ((w64 (m - a_)) == 1)) (y_eql rfl rfl) ?_
 refine c_nil ?_
 rcases bif_some hs with ⟨c4, hs⟩ | ⟨c4, hs⟩
 ·refine c_condT (congrArg Value.bool c4) ?_
  refine c_sr ?_
  refine pl_val (.int .i64 m) (y_move rfl) ?_
  refine pl_val (.int .i64 m) (y_assign rfl) ?_
  refine c_nil ?_
  refine c_sr ?_
  refine pl_val (.int .i64 b) (y_move rfl) ?_
  refine pl_val (.int .i64 b) (y_assign rfl) ?_
  refine c_nil ?_
  refine c_seq ?_
  obtain ⟨o11, e9, hs⟩ := bind_some hs
  refine wp_block ?_
  refine wp_iter (id := 0) (I := fun s7 a a5 => ∃ (σ : Nat → Value), a = fr 177 (ovl σ [(1, (.int .i64 a_)), (2, (.int .i64 m)), (3, (.int .i64 b)), (4, (.pointer (some ⟨a1, 0, none⟩))), (8, (.int .i64 s7.1)), (9, (.int .i64 s7.2))]) ∧ Chg (G_ ++ ([])) w a5 ∧ Own (Nw w (G_ ++ ([]))) M a5 (([a1]) ++ (G_ ++ [])) ∧ I_ a5 d_ ∧ BoxV a5 a1 122 [(.func (.func g_) #[] lb_), (.func (.func sf_) #[] sb_)]) (J := fun s7 a a5 => ∃ (σ : Nat → Value), a = fr 177 (ovl σ [(1, (.int .i64 a_)), (2, (.int .i64 m)), (3, (.int .i64 b)), (4, (.pointer (some ⟨a1, 0, none⟩))), (8, (.int .i64 s7.1))]) ∧ Chg (G_ ++ ([])) w a5 ∧ Own (Nw w (G_ ++ ([]))) M a5 (([a1]) ++ (G_ ++ [])) ∧ I_ a5 d_ ∧ BoxV a5 a1 122 [(.func (.func g_) #[] lb_), (.func (.func sf_) #[] sb_)]) (K := (k_sort_symMerge_func M w I_ G_)) ?_ FU (m, b) o11 _ _ ?_ e9 ?_
  ·rintro s7 o11 a a5 ⟨σ, rfl, hC, hO, hI_, a0⟩ hs
   refine c_seq ?_
   refine c_sr ?_
   refine pl_val (.int .i64 s7.1) (y_move rfl) ?_
   refine pl_val (.int .i64 s7.2) (y_move rfl) ?_
   refine pl_val (.bool (decide (s7.1 < s7.2))) (y_lss rfl rfl) ?_
   refine c_nil ?_
   rcases bif_some hs with ⟨c5, hs⟩ | ⟨c5, hs⟩
   ·refine c_condT (congrArg Value.bool c5) ?_
    refine wp_skip ?_
    refine wp_block ?_
    refine c_sr ?_
    refine pl_val (.int .i64 s7.1) (y_move rfl) ?_
    refine pl_val (.int .i64 s7.2) (y_move rfl) ?_
    refine pl_val (.int .i64 (w64 (s7.1 + s7.2))) (y_add rfl rfl) ?_
    refine pl_val (.int .u64 (IntKind.u64.wrap (w64 (s7.1 + s7.2)))) (y_conv_int Try.underlying3 Try.underlying103 rfl) ?_
    refine pl_val (.int .u64 (ishr .u64 (IntKind.u64.wrap (w64 (s7.1 + s7.2))) 1)) (y_shr rfl rfl (by decide)) ?_
    refine pl_val (.int .i64 (w64 (ishr .u64 (IntKind.u64.wrap (w64 (s7.1 + s7.2))) 1))) (y_conv_int Try.underlying103 Try.underlying3 rfl) ?_
    refine pl_val (.int .i64 (w64 (ishr .u64 (IntKind.u64.wrap (w64 (s7.1 + s7.2))) 1))) (y_assign rfl) ?_
    refine c_nil ?_
    refine c_sr ?_
    refine pl_val (.pointer (some ⟨a1, 0, none⟩)) (y_faddr rfl Fa122x0) ?_
    refine pl_val (.func (.func g_) #[] lb_) (y_load rfl ((box_load Ag111 Sz111 a0 [] [(.func (.func g_) #[] lb_)] [(.func (.func sf_) #[] sb_)] rfl rfl (fun _ => rfl)) _ (Chg.refl _ _))) ?_
    refine pl_val (.int .i64 (w64 (ishr .u64 (IntKind.u64.wrap (w64 (s7.1 + s7.2))) 1))) (y_move rfl) ?_
    refine pl_val (.int .i64 a_) (y_move rfl) ?_
    obtain ⟨r15, f0, hs⟩ := bind_some hs
    refine pl_callb rfl hE_.bod rfl (hE_.less hI_ f0) ?_
    rintro _ h9 ⟨rfl, b5⟩
    have hI_ := hE_.ext hI_ b5 (fun _ h => nomatch h)
    have a0 := a0.cn b5
    have hC := hC.ext b5
    have hO := hO.ext b5
    refine c_nil ?_
    rcases bif_some hs with ⟨c6, hs⟩ | ⟨c6, hs⟩
    ·refine c_condT (congrArg Value.bool c6) ?_
     refine c_region ?_
     refine pl_val (.int .i64 (w64 (ishr .u64 (IntKind.u64.wrap (w64 (s7.1 + s7.2))) 1))) (y_move rfl) ?_
     refine pl_val (.int .i64 (w64 ((w64 (ishr .u64 (IntKind.u64.wrap (w64 (s7.1 + s7.2))) 1)) + 1))) (y_add rfl rfl) ?_
     refine pl_val (.int .i64 (w64 ((w64 (ishr .u64 (IntKind.u64.wrap (w64 (s7.1 + s7.2))) 1)) + 1))) (y_assign rfl) ?_
     refine c_nil ?_
     cases hs
     have hO := hO.fr1
     have hO := hO.fr1
     exact ⟨_, fr_ovl 177 ⟨rfl, rfl, rfl, rfl, rfl, rfl, trivial⟩, hC, hO, hI_, a0⟩
    refine c_condF (congrArg Value.bool c6) ?_
    refine c_region ?_
    refine pl_val (.int .i64 (w64 (ishr .u64 (IntKind.u64.wrap (w64 (s7.1 + s7.2))) 1))) (y_move rfl) ?_
    refine pl_val (.int .i64 (w64 (ishr .u64 (IntKind.u64.wrap (w64 (s7.1 + s7.2))) 1))) (y_assign rfl) ?_
    refine c_nil ?_
    cases hs
    have hO := hO.fr1
    have hO := hO.fr1
    exact ⟨_, fr_ovl 177 ⟨rfl, rfl, rfl, rfl, rfl, rfl, trivial⟩, hC, hO, hI_, a0⟩
   refine c_condF (congrArg Value.bool c5) ?_
   refine wp_exit ?_
   cases hs
   have hO := hO.fr1
   have hO := hO.fr1
   exact ⟨rfl, _, fr_ovl 177 ⟨rfl, rfl, rfl, rfl, rfl, trivial⟩, hC, hO, hI_, a0⟩
  ·skip
   have hO := hO.fr1
   have hO := hO.fr1
   exact ⟨_, fr_ovl 177 ⟨rfl, rfl, rfl, rfl, rfl, rfl, trivial⟩, hC, hO, hI_, a0⟩
  cases o11 with
  | nx _ => exact True.intro
  | rt r_ =>
   have hs := after_rt hs
   intro a2 b1 hK
   cases hs
   exact hK
  | br s7 =>
   have hs := after_br hs
   rintro a2 a5 ⟨σ, rfl, hC, hO, hI_, a0⟩
   refine c_seq ?_
   refine c_sr ?_
   refine pl_val (.int .i64 a_) (y_move rfl) ?_
   refine pl_val (.int .i64 a_) (y_assign rfl) ?_
   refine c_nil ?_
   obtain ⟨o26, f1, hs⟩ := bind_some hs
   refine wp_block ?_
   refine wp_forC (id := 2) (w64 (s7.1 - 1)) (I := fun k24 s22 a a4 => ∃ (σ : Nat → Value), a = fr 177 (ovl σ [(1, (.int .i64 a_)), (2, (.int .i64 m)), (3, (.int .i64 b)), (4, (.pointer (some ⟨a1, 0, none⟩))), (8, (.int .i64 s7.1)), (11, (.int .i64 k24))]) ∧ Chg (G_ ++ ([])) w a4 ∧ Own (Nw w (G_ ++ ([]))) M a4 (([a1]) ++ (G_ ++ [])) ∧ I_ a4 s22 ∧ BoxV a4 a1 122 [(.func (.func g_) #[] lb_), (.func (.func sf_) #[] sb_)]) (J := fun s22 a a4 => ∃ (σ : Nat → Value), a = fr 177 (ovl σ [(1, (.int .i64 a_)), (2, (.int .i64 m)), (3, (.int .i64 b)), (4, (.pointer (some ⟨a1, 0, none⟩)))]) ∧ Chg (G_ ++ ([])) w a4 ∧ Own (Nw w (G_ ++ ([]))) M a4 (([a1]) ++ (G_ ++ [])) ∧ I_ a4 s22 ∧ BoxV a4 a1 122 [(.func (.func g_) #[] lb_), (.func (.func sf_) #[] sb_)]) (K := (k_sort_symMerge_func M w I_ G_)) ?_ ?_ a_ d_ o26 _ _ ?_ f1 ?_
   ·rintro k24 s22 a a4 ⟨σ, rfl, hC, hO, c7, a0⟩ hlt
    refine c_seq ?_
    refine c_sr ?_
    refine pl_val (.int .i64 k24) (y_move rfl) ?_
    refine pl_val (.int .i64 s7.1) (y_move rfl) ?_
    refine pl_val (.int .i64 (w64 (s7.1 - 1))) (y_sub rfl rfl) ?_
    refine pl_val (.bool (decide (k24 < (w64 (s7.1 - 1))))) (y_lss rfl rfl) ?_
    refine c_nil ?_
    refine c_condF (congrArg Value.bool (decide_eq_false hlt)) ?_
    refine wp_exit ?_
    have hO := hO.fr1
    have hO := hO.fr1
    exact ⟨rfl, _, fr_ovl 177 ⟨rfl, rfl, rfl, rfl, trivial⟩, hC, hO, c7, a0⟩
   ·rintro k24 s22 o26 a a4 ⟨σ, rfl, hC, hO, c7, a0⟩ hlt hw hs
    refine c_seq ?_
    refine c_sr ?_
    refine pl_val (.int .i64 k24) (y_move rfl) ?_
    refine pl_val (.int .i64 s7.1) (y_move rfl) ?_
    refine pl_val (.int .i64 (w64 (s7.1 - 1))) (y_sub rfl rfl) ?_
    refine pl_val (.bool (decide (k24 < (w64 (s7.1 - 1))))) (y_lss rfl rfl) ?_
    refine c_nil ?_
    refine c_condT (congrArg Value.bool (decide_eq_true hlt)) ?_
    refine wp_skip ?_
    refine c_seq ?_
    refine wp_block ?_
    refine c_region ?_
    refine pl_val (.pointer (some ⟨a1, 1, none⟩)) (y_faddr rfl Fa122x1) ?_
    refine pl_val (.func (.func sf_) #[] sb_) (y_load rfl ((box_load Ag118 Sz118 a0 [(.func (.func g_) #[] lb_)] [(.func (.func sf_) #[] sb_)] [] rfl rfl (fun _ => rfl)) _ (Chg.refl _ _))) ?_
    refine pl_val (.int .i64 k24) (y_move rfl) ?_
    refine pl_val (.int .i64 k24) (y_move rfl) ?_
    refine pl_val (.int .i64 (w64 (k24 + 1))) (y_add rfl rfl) ?_
    obtain ⟨y31, f2, hs⟩ := bind_some hs
    obtain ⟨f3, f4, c8, f5⟩ := hE_.swap c7 f2
    refine pl_val (w' := f3) (.tuple #[]) (y_callx rfl rfl f4) ?_
    have hO := hO.fr1
    have a0 := a0.ap c8 hO same_ (mem_l (List.mem_singleton.2 rfl))
    have hC := hC.st c8 hO same_
    have hO := hO.ext c8
    refine c_nil ?_
    refine c_region ?_
    refine pl_val (.int .i64 k24) (y_move rfl) ?_
    refine pl_val (.int .i64 (w64 (k24 + 1))) (y_add rfl rfl) ?_
    refine pl_val (.int .i64 (w64 (k24 + 1))) (y_assign rfl) ?_
    refine c_nil ?_
    cases hs
    have hO := hO.fr1
    exact ⟨_, fr_ovl 177 ⟨rfl, rfl, rfl, rfl, rfl, congrArg (Value.int .i64) hw, trivial⟩, hC, hO, f5, a0⟩
   ·skip
    have hO := hO.fr1
    have hO := hO.fr1
    exact ⟨_, fr_ovl 177 ⟨rfl, rfl, rfl, rfl, rfl, rfl, trivial⟩, hC, hO, hI_, a0⟩
   cases o26 with
   | nx _ => exact True.intro
   | rt r_ =>
    have hs := after_rt hs
    intro a2 b1 hK
    cases hs
    exact hK
   | br s22 =>
    have hs := after_br hs
    rintro a2 a4 ⟨σ, rfl, hC, hO, f6, a0⟩
    refine wp_ret ?_
    cases hs
    exact ⟨_, fr_ovl 177 trivial, hC, f6⟩
 refine c_condF (congrArg Value.bool c4) ?_
 refine wp_skip ?_
 refine c_seq ?_
 refine c_sr ?_
 refine pl_val (.int .i64 b) (y_move rfl) ?_
 refine pl_val (.int .i64 m) (y_move rfl) ?_
 refine pl_val (.int .i64 (w64 (b - m))) (y_sub rfl rfl) ?_
 refine pl_val (.bool ((w64 (b - m)) == 1)) (y_eql rfl rfl) ?_
 refine c_nil ?_
 rcases bif_some hs with ⟨c9, hs⟩ | ⟨c9, hs⟩
 ·refine c_condT (congrArg Value.bool c9) ?_
  refine c_sr ?_
  refine pl_val (.int .i64 a_) (y_move rfl) ?_
  refine pl_val (.int .i64 a_) (y_assign rfl) ?_
  refine c_nil ?_
  refine c_sr ?_
  refine pl_val (.int .i64 m) (y_move rfl) ?_
  refine pl_val (.int .i64 m) (y_assign rfl) ?_
  refine c_nil ?_
  refine c_seq ?_
  obtain ⟨o41, f7, hs⟩ := bind_some hs
  refine wp_block ?_
  refine wp_iter (id := 4) (I := fun s37 a a6 => ∃ (σ : Nat → Value), a = fr 177 (ovl σ [(1, (.int .i64 a_)), (2, (.int .i64 m)), (3, (.int .i64 b)), (4, (.pointer (some ⟨a1, 0, none⟩))), (12, (.int .i64 s37.1)), (13, (.int .i64 s37.2))]) ∧ Chg (G_ ++ ([])) w a6 ∧ Own (Nw w (G_ ++ ([]))) M a6 (([a1]) ++ (G_ ++ [])) ∧ I_ a6 d_ ∧ BoxV a6 a1 122 [(.func (.func g_) #[] lb_), (.func (.func sf_) #[] sb_)]) (J := fun s37 a a6 => ∃ (σ : Nat → Value), a = fr 177 (ovl σ [(1, (.int .i64 a_)), (2, (.int .i64 m)), (3, (.int .i64 b)), (4, (.pointer (some ⟨a1, 0, none⟩))), (12, (.int .i64 s37.1))]) ∧ Chg (G_ ++ ([])) w a6 ∧ Own (Nw w (G_ ++ ([]))) M a6 (([a1]) ++ (G_ ++ [])) ∧ I_ a6 d_ ∧ BoxV a6 a1 122 [(.func (.func g_) #[] lb_), (.func (.func sf_) #[] sb_)]) (K := (k_sort_symMerge_func M w I_ G_)) ?_ FU (a_, m) o41 _ _ ?_ f7 ?_
  ·rintro s37 o41 a a6 ⟨σ, rfl, hC, hO, hI_, a0⟩ hs
   refine c_seq ?_
   refine c_sr ?_
   refine pl_val (.int .i64 s37.1) (y_move rfl) ?_
   refine pl_val (.int .i64 s37.2) (y_move rfl) ?_
   refine pl_val (.bool (decide (s37.1 < s37.2))) (y_lss rfl rfl) ?_
   refine c_nil ?_
   rcases bif_some hs with ⟨d0, hs⟩ | ⟨d0, hs⟩
   ·refine c_condT (congrArg Value.bool d0) ?_
    refine wp_skip ?_
    refine wp_block ?_
    refine c_sr ?_
    refine pl_val (.int .i64 s37.1) (y_move rfl) ?_
    refine pl_val (.int .i64 s37.2) (y_move rfl) ?_
    refine pl_val (.int .i64 (w64 (s37.1 + s37.2))) (y_add rfl rfl) ?_
    refine pl_val (.int .u64 (IntKind.u64.wrap (w64 (s37.1 + s37.2)))) (y_conv_int Try.underlying3 Try.underlying103 rfl) ?_
    refine pl_val (.int .u64 (ishr .u64 (IntKind.u64.wrap (w64 (s37.1 + s37.2))) 1)) (y_shr rfl rfl (by decide)) ?_
    refine pl_val (.int .i64 (w64 (ishr .u64 (IntKind.u64.wrap (w64 (s37.1 + s37.2))) 1))) (y_conv_int Try.underlying103 Try.underlying3 rfl) ?_
    refine pl_val (.int .i64 (w64 (ishr .u64 (IntKind.u64.wrap (w64 (s37.1 + s37.2))) 1))) (y_assign rfl) ?_
    refine c_nil ?_
    refine c_sr ?_
    refine pl_val (.pointer (some ⟨a1, 0, none⟩)) (y_faddr rfl Fa122x0) ?_
    refine pl_val (.func (.func g_) #[] lb_) (y_load rfl ((box_load Ag111 Sz111 a0 [] [(.func (.func g_) #[] lb_)] [(.func (.func sf_) #[] sb_)] rfl rfl (fun _ => rfl)) _ (Chg.refl _ _))) ?_
    refine pl_val (.int .i64 m) (y_move rfl) ?_
    refine pl_val (.int .i64 (w64 (ishr .u64 (IntKind.u64.wrap (w64 (s37.1 + s37.2))) 1))) (y_move rfl) ?_
    obtain ⟨r45, f8, hs⟩ := bind_some hs
    refine pl_callb rfl hE_.bod rfl (hE_.less hI_ f8) ?_
    rintro _ i0 ⟨rfl, b6⟩
    have hI_ := hE_.ext hI_ b6 (fun _ h => nomatch h)
    have a0 := a0.cn b6
    have hC := hC.ext b6
    have hO := hO.ext b6
    refine pl_val (.bool (!r45)) (y_not rfl) ?_
    refine c_nil ?_
    rcases bif_some hs with ⟨d1, hs⟩ | ⟨d1, hs⟩
    ·refine c_condT (congrArg Value.bool d1) ?_
     refine c_region ?_
     refine pl_val (.int .i64 (w64 (ishr .u64 (IntKind.u64.wrap (w64 (s37.1 + s37.2))) 1))) (y_move rfl) ?_
     refine pl_val (.int .i64 (w64 ((w64 (ishr .u64 (IntKind.u64.wrap (w64 (s37.1 + s37.2))) 1)) + 1))) (y_add rfl rfl) ?_
     refine pl_val (.int .i64 (w64 ((w64 (ishr .u64 (IntKind.u64.wrap (w64 (s37.1 + s37.2))) 1)) + 1))) (y_assign rfl) ?_
     refine c_nil ?_
     cases hs
     have hO := hO.fr1
     have hO := hO.fr1
     exact ⟨_, fr_ovl 177 ⟨rfl, rfl, rfl, rfl, rfl, rfl, trivial⟩, hC, hO, hI_, a0⟩
    refine c_condF (congrArg Value.bool d1) ?_
    refine c_region ?_
    refine pl_val (.int .i64 (w64 (ishr .u64 (IntKind.u64.wrap (w64 (s37.1 + s37.2))) 1))) (y_move rfl) ?_
    refine pl_val (.int .i64 (w64 (ishr .u64 (IntKind.u64.wrap (w64 (s37.1 + s37.2))) 1))) (y_assign rfl) ?_
    refine c_nil ?_
    cases hs
    have hO := hO.fr1
    have hO := hO.fr1
    exact ⟨_, fr_ovl 177 ⟨rfl, rfl, rfl, rfl, rfl, rfl, trivial⟩, hC, hO, hI_, a0⟩
   refine c_condF (congrArg Value.bool d0) ?_
   refine wp_exit ?_
   cases hs
   have hO := hO.fr1
   have hO := hO.fr1
   exact ⟨rfl, _, fr_ovl 177 ⟨rfl, rfl, rfl, rfl, rfl, trivial⟩, hC, hO, hI_, a0⟩
  ·skip
   have hO := hO.fr1
   have hO := hO.fr1
   exact ⟨_, fr_ovl 177 ⟨rfl, rfl, rfl, rfl, rfl, rfl, trivial⟩, hC, hO, hI_, a0⟩
  cases o41 with
  | nx _ => exact True.intro
  | rt r_ =>
   have hs := after_rt hs
   intro a2 b1 hK
   cases hs
   exact hK
  | br s37 =>
   have hs := after_br hs
   rintro a2 a6 ⟨σ, rfl, hC, hO, hI_, a0⟩
   refine c_seq ?_
   refine c_sr ?_
   refine pl_val (.int .i64 m) (y_move rfl) ?_
   refine pl_val (.int .i64 m) (y_assign rfl) ?_
   refine c_nil ?_
   obtain ⟨o58, f9, hs⟩ := bind_some hs
   refine wp_block ?_
   refine wp_iter (id := 6) (I := fun s54 a a7 => ∃ (σ : Nat → Value), a = fr 177 (ovl σ [(1, (.int .i64 a_)), (2, (.int .i64 m)), (3, (.int .i64 b)), (4, (.pointer (some ⟨a1, 0, none⟩))), (12, (.int .i64 s37.1)), (15, (.int .i64 s54.1))]) ∧ Chg (G_ ++ ([])) w a7 ∧ Own (Nw w (G_ ++ ([]))) M a7 (([a1]) ++ (G_ ++ [])) ∧ I_ a7 s54.2 ∧ BoxV a7 a1 122 [(.func (.func g_) #[] lb_), (.func (.func sf_) #[] sb_)]) (J := fun s54 a a7 => ∃ (σ : Nat → Value), a = fr 177 (ovl σ [(1, (.int .i64 a_)), (2, (.int .i64 m)), (3, (.int .i64 b)), (4, (.pointer (some ⟨a1, 0, none⟩)))]) ∧ Chg (G_ ++ ([])) w a7 ∧ Own (Nw w (G_ ++ ([]))) M a7 (([a1]) ++ (G_ ++ [])) ∧ I_ a7 s54.2 ∧ BoxV a7 a1 122 [(.func (.func g_) #[] lb_), (.func (.func sf_) #[] sb_)]) (K := (k_sort_symMerge_func M w I_ G_)) ?_ FU (m, d_) o58 _ _ ?_ f9 ?_
   ·rintro s54 o58 a a7 ⟨σ, rfl, hC, hO, e4, a0⟩ hs
    refine c_seq ?_
    refine c_sr ?_
    refine pl_val (.int .i64 s54.1) (y_move rfl) ?_
    refine pl_val (.int .i64 s37.1) (y_move rfl) ?_
    refine pl_val (.bool (decide (s37.1 < s54.1))) (y_gtr rfl rfl) ?_
    refine c_nil ?_
    rcases bif_some hs with ⟨d2, hs⟩ | ⟨d2, hs⟩
    ·refine c_condT (congrArg Value.bool d2) ?_
     refine wp_skip ?_
     refine c_seq ?_
     refine wp_block ?_
     refine c_region ?_
     refine pl_val (.pointer (some ⟨a1, 1, none⟩)) (y_faddr rfl Fa122x1) ?_
     refine pl_val (.func (.func sf_) #[] sb_) (y_load rfl ((box_load Ag118 Sz118 a0 [(.func (.func g_) #[] lb_)] [(.func (.func sf_) #[] sb_)] [] rfl rfl (fun _ => rfl)) _ (Chg.refl _ _))) ?_
     refine pl_val (.int .i64 s54.1) (y_move rfl) ?_
     refine pl_val (.int .i64 s54.1) (y_move rfl) ?_
     refine pl_val (.int .i64 (w64 (s54.1 - 1))) (y_sub rfl rfl) ?_
     obtain ⟨y64, g0, hs⟩ := bind_some hs
     obtain ⟨g1, g2, d3, g3⟩ := hE_.swap e4 g0
     refine pl_val (w' := g1) (.tuple #[]) (y_callx rfl rfl g2) ?_
     have hO := hO.fr1
     have a0 := a0.ap d3 hO same_ (mem_l (List.mem_singleton.2 rfl))
     have hC := hC.st d3 hO same_
     have hO := hO.ext d3
     refine c_nil ?_
     refine c_region ?_
     refine pl_val (.int .i64 s54.1) (y_move rfl) ?_
     refine pl_val (.int .i64 (w64 (s54.1 - 1))) (y_sub rfl rfl) ?_
     refine pl_val (.int .i64 (w64 (s54.1 - 1))) (y_assign rfl) ?_
     refine c_nil ?_
     cases hs
     have hO := hO.fr1
     exact ⟨_, fr_ovl 177 ⟨rfl, rfl, rfl, rfl, rfl, rfl, trivial⟩, hC, hO, g3, a0⟩
    refine c_condF (congrArg Value.bool d2) ?_
    refine wp_exit ?_
    cases hs
    have hO := hO.fr1
    have hO := hO.fr1
    exact ⟨rfl, _, fr_ovl 177 ⟨rfl, rfl, rfl, rfl, trivial⟩, hC, hO, e4, a0⟩
   ·skip
    have hO := hO.fr1
    have hO := hO.fr1
    exact ⟨_, fr_ovl 177 ⟨rfl, rfl, rfl, rfl, rfl, rfl, trivial⟩, hC, hO, hI_, a0⟩
   cases o58 with
   | nx _ => exact True.intro
   | rt r_ =>
    have hs := after_rt hs
    intro a2 b1 hK
    cases hs
    exact hK
   | br s54 =>
    have hs := after_br hs
    rintro a2 a7 ⟨σ, rfl, hC, hO, g4, a0⟩
    refine wp_ret ?_
    cases hs
    exact ⟨_, fr_ovl 177 trivial, hC, g4⟩
 refine c_condF (congrArg Value.bool c9) ?_
 refine wp_skip ?_
 refine c_sr ?_
 refine pl_val (.int .i64 a_) (y_move rfl) ?_
 refine pl_val (.int .i64 b) (y_move rfl) ?_
 refine pl_val (.int .i64 (w64 (a_ + b))) (y_add rfl rfl) ?_
 refine pl_val (.int .u64 (IntKind.u64.wrap (w64 (a_ + b)))) (y_conv_int Try.underlying3 Try.underlying103 rfl) ?_
 refine pl_val (.int .u64 (ishr .u64 (IntKind.u64.wrap (w64 (a_ + b))) 1)) (y_shr rfl rfl (by decide)) ?_
 refine pl_val (.int .i64 (w64 (ishr .u64 (IntKind.u64.wrap (w64 (a_ + b))) 1))) (y_conv_int Try.underlying103 Try.underlying3 rfl) ?_
 refine pl_val (.int .i64 (w64 (ishr .u64 (IntKind.u64.wrap (w64 (a_ + b))) 1))) (y_assign rfl) ?_
 refine c_nil ?_
 refine c_sr ?_
 refine pl_val (.int .i64 (w64 (ishr .u64 (IntKind.u64.wrap (w64 (a_ + b))) 1))) (y_move rfl) ?_
 refine pl_val (.int .i64 m) (y_move rfl) ?_
 refine pl_val (.int .i64 (w64 ((w64 (ishr .u64 (IntKind.u64.wrap (w64 (a_ + b))) 1)) + m))) (y_add rfl rfl) ?_
 refine pl_val (.int .i64 (w64 ((w64 (ishr .u64 (IntKind.u64.wrap (w64 (a_ + b))) 1)) + m))) (y_assign rfl) ?_
 refine c_nil ?_
 refine c_sr ?_
 refine pl_val (.int .i64 0) (y_assign rfl) ?_
 refine pl_val (.int .i64 0) (y_assign rfl) ?_
 refine c_nil ?_
 refine c_seq ?_
 refine c_sr ?_
 refine pl_val (.int .i64 m) (y_move rfl) ?_
 refine pl_val (.int .i64 (w64 (ishr .u64 (IntKind.u64.wrap (w64 (a_ + b))) 1))) (y_move rfl) ?_
 refine pl_val (.bool (decide ((w64 (ishr .u64 (IntKind.u64.wrap (w64 (a_ + b))) 1)) < m))) (y_gtr rfl rfl) ?_
 refine c_nil ?_
 obtain ⟨s65, g5, hs⟩ := bind_some hs
 refine c_mid (I := fun a b4 => ∃ (σ : Nat → Value), a = fr 177 (ovl σ [(1, (.int .i64 a_)), (2, (.int .i64 m)), (3, (.int .i64 b)), (4, (.pointer (some ⟨a1, 0, none⟩))), (16, (.int .i64 (w64 (ishr .u64 (IntKind.u64.wrap (w64 (a_ + b))) 1)))), (17, (.int .i64 (w64 ((w64 (ishr .u64 (IntKind.u64.wrap (w64 (a_ + b))) 1)) + m)))), (18, (.int .i64 s65.1)), (19, (.int .i64 s65.2))]) ∧ Chg (G_ ++ ([])) w b4 ∧ Own (Nw w (G_ ++ ([]))) M b4 (([a1]) ++ (G_ ++ [])) ∧ I_ b4 d_ ∧ BoxV b4 a1 122 [(.func (.func g_) #[] lb_), (.func (.func sf_) #[] sb_)]) ?_ ?_
 ·replace hs := g5
  rcases bif_some hs with ⟨d4, hs⟩ | ⟨d4, hs⟩
  ·refine c_condT (congrArg Value.bool d4) ?_
   refine c_sr ?_
   refine pl_val (.int .i64 (w64 ((w64 (ishr .u64 (IntKind.u64.wrap (w64 (a_ + b))) 1)) + m))) (y_move rfl) ?_
   refine pl_val (.int .i64 b) (y_move rfl) ?_
   refine pl_val (.int .i64 (w64 ((w64 ((w64 (ishr .u64 (IntKind.u64.wrap (w64 (a_ + b))) 1)) + m)) - b))) (y_sub rfl rfl) ?_
   refine pl_val (.int .i64 (w64 ((w64 ((w64 (ishr .u64 (IntKind.u64.wrap (w64 (a_ + b))) 1)) + m)) - b))) (y_assign rfl) ?_
   refine c_nil ?_
   refine c_region ?_
   refine pl_val (.int .i64 (w64 (ishr .u64 (IntKind.u64.wrap (w64 (a_ + b))) 1))) (y_move rfl) ?_
   refine pl_val (.int .i64 (w64 (ishr .u64 (IntKind.u64.wrap (w64 (a_ + b))) 1))) (y_assign rfl) ?_
   refine c_nil ?_
   cases hs
   have hO := hO.fr1
   have hO := hO.fr1
   exact ⟨_, fr_ovl 177 ⟨rfl, rfl, rfl, rfl, rfl, rfl, rfl, rfl, trivial⟩, hC, hO, hI_, a0⟩
  refine c_condF (congrArg Value.bool d4) ?_
  refine c_sr ?_
  refine pl_val (.int .i64 a_) (y_move rfl) ?_
  refine pl_val (.int .i64 a_) (y_assign rfl) ?_
  refine c_nil ?_
  refine c_region ?_
  refine pl_val (.int .i64 m) (y_move rfl) ?_
  refine pl_val (.int .i64 m) (y_assign rfl) ?_
  refine c_nil ?_
  cases hs
  have hO := hO.fr1
  have hO := hO.fr1
  exact ⟨_, fr_ovl 177 ⟨rfl, rfl, rfl, rfl, rfl, rfl, rfl, rfl, trivial⟩, hC, hO, hI_, a0⟩
 rintro a2 b4 ⟨σ, rfl, hC, hO, hI_, a0⟩
 refine c_sr ?_
 refine pl_val (.int .i64 (w64 ((w64 (ishr .u64 (IntKind.u64.wrap (w64 (a_ + b))) 1)) + m))) (y_move rfl) ?_
 refine pl_val (.int .i64 (w64 ((w64 ((w64 (ishr .u64 (IntKind.u64.wrap (w64 (a_ + b))) 1)) + m)) - 1))) (y_sub rfl rfl) ?_
 refine pl_val (.int .i64 (w64 ((w64 ((w64 (ishr .u64 (IntKind.u64.wrap (w64 (a_ + b))) 1)) + m)) - 1))) (y_assign rfl) ?_
 refine c_nil ?_
 refine c_seq ?_
 obtain ⟨o77, g6, hs⟩ := bind_some hs
 refine wp_block ?_
 refine wp_iter (id := 8) (I := fun s73 a a3 => ∃ (σ : Nat → Value), a = fr 177 (ovl σ [(1, (.int .i64 a_)), (2, (.int .i64 m)), (3, (.int .i64 b)), (4, (.pointer (some ⟨a1, 0, none⟩))), (16, (.int .i64 (w64 (ishr .u64 (IntKind.u64.wrap (w64 (a_ + b))) 1)))), (17, (.int .i64 (w64 ((w64 (ishr .u64 (IntKind.u64.wrap (w64 (a_ + b))) 1)) + m)))), (18, (.int .i64 s73.1)), (19, (.int .i64 s73.2)), (20, (.int .i64 (w64 ((w64 ((w64 (ishr .u64 (IntKind.u64.wrap (w64 (a_ + b))) 1)) + m)) - 1))))]) ∧ Chg (G_ ++ ([])) w a3 ∧ Own (Nw w (G_ ++ ([]))) M a3 (([a1]) ++ (G_ ++ [])) ∧ I_ a3 d_ ∧ BoxV a3 a1 122 [(.func (.func g_) #[] lb_), (.func (.func sf_) #[] sb_)]) (J := fun s73 a a3 => ∃ (σ : Nat → Value), a = fr 177 (ovl σ [(1, (.int .i64 a_)), (2, (.int .i64 m)), (3, (.int .i64 b)), (4, (.pointer (some ⟨a1, 0, none⟩))), (16, (.int .i64 (w64 (ishr .u64 (IntKind.u64.wrap (w64 (a_ + b))) 1)))), (17, (.int .i64 (w64 ((w64 (ishr .u64 (IntKind.u64.wrap (w64 (a_ + b))) 1)) + m)))), (18, (.int .i64 s73.1))]) ∧ Chg (G_ ++ ([])) w a3 ∧ Own (Nw w (G_ ++ ([]))) M a3 (([a1]) ++ (G_ ++ [])) ∧ I_ a3 d_ ∧ BoxV a3 a1 122 [(.func (.func g_) #[] lb_), (.func (.func sf_) #[] sb_)]) (K := (k_sort_symMerge_func M w I_ G_)) ?_ FU (s65.1, s65.2) o77 _ _ ?_ g6 ?_
 ·rintro s73 o77 a a3 ⟨σ, rfl, hC, hO, hI_, a0⟩ hs
  refine c_seq ?_
  refine c_sr ?_
  refine pl_val (.int .i64 s73.1) (y_move rfl) ?_
  refine pl_val (.int .i64 s73.2) (y_move rfl) ?_
  refine pl_val (.bool (decide (s73.1 < s73.2))) (y_lss rfl rfl) ?_
  refine c_nil ?_
  rcases bif_some hs with ⟨d5, hs⟩ | ⟨d5, hs⟩
  ·refine c_condT (congrArg Value.bool d5) ?_
   refine wp_skip ?_
   refine wp_block ?_
   refine c_sr ?_
   refine pl_val (.int .i64 s73.1) (y_move rfl) ?_
   refine pl_val (.int .i64 s73.2) (y_move rfl) ?_
   refine pl_val (.int .i64 (w64 (s73.1 + s73.2))) (y_add rfl rfl) ?_
   refine pl_val (.int .u64 (IntKind.u64.wrap (w64 (s73.1 + s73.2)))) (y_conv_int Try.underlying3 Try.underlying103 rfl) ?_
   refine pl_val (.int .u64 (ishr .u64 (IntKind.u64.wrap (w64 (s73.1 + s73.2))) 1)) (y_shr rfl rfl (by decide)) ?_
   refine pl_val (.int .i64 (w64 (ishr .u64 (IntKind.u64.wrap (w64 (s73.1 + s73.2))) 1))) (y_conv_int Try.underlying103 Try.underlying3 rfl) ?_
   refine pl_val (.int .i64 (w64 (ishr .u64 (IntKind.u64.wrap (w64 (s73.1 + s73.2))) 1))) (y_assign rfl) ?_
   refine c_nil ?_
   refine c_sr ?_
   refine pl_val (.pointer (some ⟨a1, 0, none⟩)) (y_faddr rfl Fa122x0) ?_
   refine pl_val (.func (.func g_) #[] lb_) (y_load rfl ((box_load Ag111 Sz111 a0 [] [(.func (.func g_) #[] lb_)] [(.func (.func sf_) #[] sb_)] rfl rfl (fun _ => rfl)) _ (Chg.refl _ _))) ?_
   refine pl_val (.int .i64 (w64 ((w64 ((w64 (ishr .u64 (IntKind.u64.wrap (w64 (a_ + b))) 1)) + m)) - 1))) (y_move rfl) ?_
   refine pl_val (.int .i64 (w64 (ishr .u64 (IntKind.u64.wrap (w64 (s73.1 + s73.2))) 1))) (y_move rfl) ?_
   refine pl_val (.int .i64 (w64 ((w64 ((w64 ((w64 (ishr .u64 (IntKind.u64.wrap (w64 (a_ + b))) 1)) + m)) - 1)) - (w64 (ishr .u64 (IntKind.u64.wrap (w64 (s73.1 + s73.2))) 1))))) (y_sub rfl rfl) ?_
   refine pl_val (.int .i64 (w64 (ishr .u64 (IntKind.u64.wrap (w64 (s73.1 + s73.2))) 1))) (y_move rfl) ?_
   obtain ⟨r81, g7, hs⟩ := bind_some hs
   refine pl_callb rfl hE_.bod rfl (hE_.less hI_ g7) ?_
   rintro _ i1 ⟨rfl, b7⟩
   have hI_ := hE_.ext hI_ b7 (fun _ h => nomatch h)
   have a0 := a0.cn b7
   have hC := hC.ext b7
   have hO := hO.ext b7
   refine pl_val (.bool (!r81)) (y_not rfl) ?_
   refine c_nil ?_
   rcases bif_some hs with ⟨d6, hs⟩ | ⟨d6, hs⟩
   ·refine c_condT (congrArg Value.bool d6) ?_
    refine c_region ?_
    refine pl_val (.int .i64 (w64 (ishr .u64 (IntKind.u64.wrap (w64 (s73.1 + s73.2))) 1))) (y_move rfl) ?_
    refine pl_val (.int .i64 (w64 ((w64 (ishr .u64 (IntKind.u64.wrap (w64 (s73.1 + s73.2))) 1)) + 1))) (y_add rfl rfl) ?_
    refine pl_val (.int .i64 (w64 ((w64 (ishr .u64 (IntKind.u64.wrap (w64 (s73.1 + s73.2))) 1)) + 1))) (y_assign rfl) ?_
    refine c_nil ?_
    cases hs
    have hO := hO.fr1
    have hO := hO.fr1
    exact ⟨_, fr_ovl 177 ⟨rfl, rfl, rfl, rfl, rfl, rfl, rfl, rfl, rfl, trivial⟩, hC, hO, hI_, a0⟩
   refine c_condF (congrArg Value.bool d6) ?_
   refine c_region ?_
   refine pl_val (.int .i64 (w64 (ishr .u64 (IntKind.u64.wrap (w64 (s73.1 + s73.2))) 1))) (y_move rfl) ?_
   refine pl_val (.int .i64 (w64 (ishr .u64 (IntKind.u64.wrap (w64 (s73.1 + s73.2))) 1))) (y_assign rfl) ?_
   refine c_nil ?_
   cases hs
   have hO := hO.fr1
   have hO := hO.fr1
   exact ⟨_, fr_ovl 177 ⟨rfl, rfl, rfl, rfl, rfl, rfl, rfl, rfl, rfl, trivial⟩, hC, hO, hI_, a0⟩
  refine c_condF (congrArg Value.bool d5) ?_
  refine wp_exit ?_
  cases hs
  have hO := hO.fr1
  have hO := hO.fr1
  exact ⟨rfl, _, fr_ovl 177 ⟨rfl, rfl, rfl, rfl, rfl, rfl, rfl, trivial⟩, hC, hO, hI_, a0⟩
 ·skip
  have hO := hO.fr1
  have hO := hO.fr1
  exact ⟨_, fr_ovl 177 ⟨rfl, rfl, rfl, rfl, rfl, rfl, rfl, rfl, rfl, trivial⟩, hC, hO, hI_, a0⟩
 cases o77 with
 | nx _ => exact True.intro
 | rt r_ =>
  have hs := after_rt hs
  intro a2 b1 hK
  cases hs
  exact hK
 | br s73 =>
  have hs := after_br hs
  rintro a2 a3 ⟨σ, rfl, hC, hO, hI_, a0⟩
  refine c_sr ?_
  refine pl_val (.int .i64 (w64 ((w64 (ishr .u64 (IntKind.u64.wrap (w64 (a_ + b))) 1)) + m))) (y_move rfl) ?_
  refine pl_val (.int .i64 s73.1) (y_move rfl) ?_
  refine pl_val (.int .i64 (w64 ((w64 ((w64 (ishr .u64 (IntKind.u64.wrap (w64 (a_ + b))) 1)) + m)) - s73.1))) (y_sub rfl rfl) ?_
  refine pl_val (.int .i64 (w64 ((w64 ((w64 (ishr .u64 (IntKind.u64.wrap (w64 (a_ + b))) 1)) + m)) - s73.1))) (y_assign rfl) ?_
  refine c_nil ?_
  refine c_seq ?_
  refine c_seq ?_
  refine c_mid (I := fun a e5 => ∃ (σ : Nat → Value), a = fr 177 (ovl σ [(1, (.int .i64 a_)), (2, (.int .i64 m)), (3, (.int .i64 b)), (4, (.pointer (some ⟨a1, 0, none⟩))), (16, (.int .i64 (w64 (ishr .u64 (IntKind.u64.wrap (w64 (a_ + b))) 1)))), (18, (.int .i64 s73.1)), (22, (.int .i64 (w64 ((w64 ((w64 (ishr .u64 (IntKind.u64.wrap (w64 (a_ + b))) 1)) + m)) - s73.1)))), (145, (.bool ((decide (s73.1 < m)) && (decide (m < (w64 ((w64 ((w64 (ishr .u64 (IntKind.u64.wrap (w64 (a_ + b))) 1)) + m)) - s73.1)))))))]) ∧ Chg [] a3 e5) ?_ ?_
  ·have hMid := Chg.refl [] a3
   refine c_region ?_
   refine pl_val (.int .i64 s73.1) (y_move rfl) ?_
   refine pl_val (.int .i64 m) (y_move rfl) ?_
   refine pl_val (.bool (decide (s73.1 < m))) (y_lss rfl rfl) ?_
   refine pl_val (.bool (decide (s73.1 < m))) (y_move rfl) ?_
   rcases Bool.eq_false_or_eq_true ((decide (s73.1 < m))) with a8 | a8
   ·skip
    refine pl_yes (.int .i64 m) (tg := 141) (by kernel_rfl) (congrArg Value.bool a8) (y_move rfl) ?_
    refine pl_yes (.int .i64 (w64 ((w64 ((w64 (ishr .u64 (IntKind.u64.wrap (w64 (a_ + b))) 1)) + m)) - s73.1))) (tg := 141) (by kernel_rfl) (congrArg Value.bool a8) (y_move rfl) ?_
    refine pl_yes (.bool (decide (m < (w64 ((w64 ((w64 (ishr .u64 (IntKind.u64.wrap (w64 (a_ + b))) 1)) + m)) - s73.1))))) (tg := 141) (by kernel_rfl) (congrArg Value.bool a8) (y_lss rfl rfl) ?_
    refine pl_val (.bool ((decide (s73.1 < m)) && (decide (m < (w64 ((w64 ((w64 (ishr .u64 (IntKind.u64.wrap (w64 (a_ + b))) 1)) + m)) - s73.1)))))) (y_pick_t (congrArg Value.bool a8) (congrArg Value.bool (by rw [a8]; rfl))) ?_
    refine c_nil ?_
    exact ⟨_, fr_ovl 177 ⟨rfl, rfl, rfl, rfl, rfl, rfl, rfl, rfl, trivial⟩, hMid⟩
   refine pl_not (tg := 141) (by kernel_rfl) (congrArg Value.bool a8) ?_
   refine pl_not (tg := 141) (by kernel_rfl) (congrArg Value.bool a8) ?_
   refine pl_not (tg := 141) (by kernel_rfl) (congrArg Value.bool a8) ?_
   refine pl_val (.bool ((decide (s73.1 < m)) && (decide (m < (w64 ((w64 ((w64 (ishr .u64 (IntKind.u64.wrap (w64 (a_ + b))) 1)) + m)) - s73.1)))))) (y_pick_f (congrArg Value.bool a8) (congrArg Value.bool (by rw [a8]; rfl))) ?_
   refine c_nil ?_
   exact ⟨_, fr_ovl 177 ⟨rfl, rfl, rfl, rfl, rfl, rfl, rfl, rfl, trivial⟩, hMid⟩
  rintro a2 e5 ⟨σ, rfl, b8⟩
  have hI_ := hE_.ext hI_ b8 (fun _ h => nomatch h)
  have a0 := a0.cn b8
  have hC := hC.ext b8
  have hO := hO.ext b8
  obtain ⟨s91, g8, hs⟩ := bind_some hs
  refine c_mid (I := fun a b2 => ∃ (σ : Nat → Value), a = fr 177 (ovl σ [(1, (.int .i64 a_)), (3, (.int .i64 b)), (4, (.pointer (some ⟨a1, 0, none⟩))), (16, (.int .i64 (w64 (ishr .u64 (IntKind.u64.wrap (w64 (a_ + b))) 1)))), (18, (.int .i64 s73.1)), (22, (.int .i64 (w64 ((w64 ((w64 (ishr .u64 (IntKind.u64.wrap (w64 (a_ + b))) 1)) + m)) - s73.1))))]) ∧ Chg (G_ ++ ([])) w b2 ∧ Own (Nw w (G_ ++ ([]))) M b2 (([a1]) ++ (G_ ++ [])) ∧ I_ b2 s91 ∧ BoxV b2 a1 122 [(.func (.func g_) #[] lb_), (.func (.func sf_) #[] sb_)]) ?_ ?_
  ·replace hs := g8
   rcases bif_some hs with ⟨d7, hs⟩ | ⟨d7, hs⟩
   ·refine c_condT (congrArg Value.bool d7) ?_
    refine c_region ?_
    refine pl_val (.agg #[(.func (.func g_) #[] lb_), (.func (.func sf_) #[] sb_)]) (y_load rfl ((box_load Ag122 Sz122 a0 [] [(.func (.func g_) #[] lb_), (.func (.func sf_) #[] sb_)] [] rfl rfl (fun h => nomatch h)) _ (Chg.refl _ _))) ?_
    refine pl_val (.int .i64 s73.1) (y_move rfl) ?_
    refine pl_val (.int .i64 m) (y_move rfl) ?_
    refine pl_val (.int .i64 (w64 ((w64 ((w64 (ishr .u64 (IntKind.u64.wrap (w64 (a_ + b))) 1)) + m)) - s73.1))) (y_move rfl) ?_
    have hO := hO.fr1
    have g9 := Own.lend (F := (G_ ++ ([]))) (R := ([a1]) ++ ([])) (Own.perm hO (by simp))
    obtain ⟨r97, h0, hs⟩ := bind_some hs
    refine pl_call Bd115 rfl (c_sort_rotate_func (M := M) ls_ d_ s73.1 m (w64 ((w64 ((w64 (ishr .u64 (IntKind.u64.wrap (w64 (a_ + b))) 1)) + m)) - s73.1)) (Nat.le_trans hN_ hC.size) hE_ hI_ g9 hO.fut h0) ?_
    rintro _ i2 ⟨rfl, d8, h1⟩
    have a0 := a0.ap d8 hO nil_mem (mem_l (List.mem_singleton.2 rfl))
    have hC := hC.st d8 hO nil_mem
    have hO := hO.ext d8
    refine c_nil ?_
    cases hs
    have hO := hO.fr1
    exact ⟨_, fr_ovl 177 ⟨rfl, rfl, rfl, rfl, rfl, rfl, trivial⟩, hC, hO, h1, a0⟩
   refine c_condF (congrArg Value.bool d7) ?_
   refine wp_skip ?_
   cases hs
   have hO := hO.fr1
   have hO := hO.fr1
   exact ⟨_, fr_ovl 177 ⟨rfl, rfl, rfl, rfl, rfl, rfl, trivial⟩, hC, hO, hI_, a0⟩
  rintro a2 b2 ⟨σ, rfl, hC, hO, b9, a0⟩
  refine c_seq ?_
  refine c_seq ?_
  refine c_mid (I := fun a e6 => ∃ (σ : Nat → Value), a = fr 177 (ovl σ [(1, (.int .i64 a_)), (3, (.int .i64 b)), (4, (.pointer (some ⟨a1, 0, none⟩))), (16, (.int .i64 (w64 (ishr .u64 (IntKind.u64.wrap (w64 (a_ + b))) 1)))), (18, (.int .i64 s73.1)), (22, (.int .i64 (w64 ((w64 ((w64 (ishr .u64 (IntKind.u64.wrap (w64 (a_ + b))) 1)) + m)) - s73.1)))), (158, (.bool ((decide (a_ < s73.1)) && (decide (s73.1 < (w64 (ishr .u64 (IntKind.u64.wrap (w64 (a_ + b))) 1)))))))]) ∧ Chg [] b2 e6) ?_ ?_
  ·have hMid := Chg.refl [] b2
   refine c_region ?_
   refine pl_val (.int .i64 a_) (y_move rfl) ?_
   refine pl_val (.int .i64 s73.1) (y_move rfl) ?_
   refine pl_val (.bool (decide (a_ < s73.1))) (y_lss rfl rfl) ?_
   refine pl_val (.bool (decide (a_ < s73.1))) (y_move rfl) ?_
   rcases Bool.eq_false_or_eq_true ((decide (a_ < s73.1))) with a9 | a9
   ·skip
    refine pl_yes (.int .i64 s73.1) (tg := 154) (by kernel_rfl) (congrArg Value.bool a9) (y_move rfl) ?_
    refine pl_yes (.int .i64 (w64 (ishr .u64 (IntKind.u64.wrap (w64 (a_ + b))) 1))) (tg := 154) (by kernel_rfl) (congrArg Value.bool a9) (y_move rfl) ?_
    refine pl_yes (.bool (decide (s73.1 < (w64 (ishr .u64 (IntKind.u64.wrap (w64 (a_ + b))) 1))))) (tg := 154) (by kernel_rfl) (congrArg Value.bool a9) (y_lss rfl rfl) ?_
    refine pl_val (.bool ((decide (a_ < s73.1)) && (decide (s73.1 < (w64 (ishr .u64 (IntKind.u64.wrap (w64 (a_ + b))) 1)))))) (y_pick_t (congrArg Value.bool a9) (congrArg Value.bool (by rw [a9]; rfl))) ?_
    refine c_nil ?_
    exact ⟨_, fr_ovl 177 ⟨rfl, rfl, rfl, rfl, rfl, rfl, rfl, trivial⟩, hMid⟩
   refine pl_not (tg := 154) (by kernel_rfl) (congrArg Value.bool a9) ?_
   refine pl_not (tg := 154) (by kernel_rfl) (congrArg Value.bool a9) ?_
   refine pl_not (tg := 154) (by kernel_rfl) (congrArg Value.bool a9) ?_
   refine pl_val (.bool ((decide (a_ < s73.1)) && (decide (s73.1 < (w64 (ishr .u64 (IntKind.u64.wrap (w64 (a_ + b))) 1)))))) (y_pick_f (congrArg Value.bool a9) (congrArg Value.bool (by rw [a9]; rfl))) ?_
   refine c_nil ?_
   exact ⟨_, fr_ovl 177 ⟨rfl, rfl, rfl, rfl, rfl, rfl, rfl, trivial⟩, hMid⟩
  rintro a2 e6 ⟨σ, rfl, c0⟩
  have b9 := hE_.ext b9 c0 (fun _ h => nomatch h)
  have a0 := a0.cn c0
  have hC := hC.ext c0
  have hO := hO.ext c0
  obtain ⟨s106, h2, hs⟩ := bind_some hs
  refine c_mid (I := fun a b3 => ∃ (σ : Nat → Value), a = fr 177 (ovl σ [(3, (.int .i64 b)), (4, (.pointer (some ⟨a1, 0, none⟩))), (16, (.int .i64 (w64 (ishr .u64 (IntKind.u64.wrap (w64 (a_ + b))) 1)))), (22, (.int .i64 (w64 ((w64 ((w64 (ishr .u64 (IntKind.u64.wrap (w64 (a_ + b))) 1)) + m)) - s73.1))))]) ∧ Chg (G_ ++ ([])) w b3 ∧ Own (Nw w (G_ ++ ([]))) M b3 (([a1]) ++ (G_ ++ [])) ∧ I_ b3 s106 ∧ BoxV b3 a1 122 [(.func (.func g_) #[] lb_), (.func (.func sf_) #[] sb_)]) ?_ ?_
  ·replace hs := h2
   rcases bif_some hs with ⟨d9, hs⟩ | ⟨d9, hs⟩
   ·refine c_condT (congrArg Value.bool d9) ?_
    refine c_region ?_
    refine pl_val (.agg #[(.func (.func g_) #[] lb_), (.func (.func sf_) #[] sb_)]) (y_load rfl ((box_load Ag122 Sz122 a0 [] [(.func (.func g_) #[] lb_), (.func (.func sf_) #[] sb_)] [] rfl rfl (fun h => nomatch h)) _ (Chg.refl _ _))) ?_
    refine pl_val (.int .i64 a_) (y_move rfl) ?_
    refine pl_val (.int .i64 s73.1) (y_move rfl) ?_
    refine pl_val (.int .i64 (w64 (ishr .u64 (IntKind.u64.wrap (w64 (a_ + b))) 1))) (y_move rfl) ?_
    have hO := hO.fr1
    have h3 := Own.lend (F := (G_ ++ ([]))) (R := ([a1]) ++ ([])) (Own.perm hO (by simp))
    obtain ⟨r112, h4, hs⟩ := bind_some hs
    refine pl_call Bd114 rfl (c_ih (M := M) ls_ s91 a_ s73.1 (w64 (ishr .u64 (IntKind.u64.wrap (w64 (a_ + b))) 1)) (Nat.le_trans hN_ hC.size) hE_ b9 h3 hO.fut h4) ?_
    rintro _ i3 ⟨rfl, e0, h5⟩
    have a0 := a0.ap e0 hO nil_mem (mem_l (List.mem_singleton.2 rfl))
    have hC := hC.st e0 hO nil_mem
    have hO := hO.ext e0
    refine c_nil ?_
    cases hs
    have hO := hO.fr1
    exact ⟨_, fr_ovl 177 ⟨rfl, rfl, rfl, rfl, trivial⟩, hC, hO, h5, a0⟩
   refine c_condF (congrArg Value.bool d9) ?_
   refine wp_skip ?_
   cases hs
   have hO := hO.fr1
   have hO := hO.fr1
   exact ⟨_, fr_ovl 177 ⟨rfl, rfl, rfl, rfl, trivial⟩, hC, hO, b9, a0⟩
  rintro a2 b3 ⟨σ, rfl, hC, hO, c1, a0⟩
  refine c_seq ?_
  refine c_mid (I := fun a e7 => ∃ (σ : Nat → Value), a = fr 177 (ovl σ [(3, (.int .i64 b)), (4, (.pointer (some ⟨a1, 0, none⟩))), (16, (.int .i64 (w64 (ishr .u64 (IntKind.u64.wrap (w64 (a_ + b))) 1)))), (22, (.int .i64 (w64 ((w64 ((w64 (ishr .u64 (IntKind.u64.wrap (w64 (a_ + b))) 1)) + m)) - s73.1)))), (171, (.bool ((decide ((w64 (ishr .u64 (IntKind.u64.wrap (w64 (a_ + b))) 1)) < (w64 ((w64 ((w64 (ishr .u64 (IntKind.u64.wrap (w64 (a_ + b))) 1)) + m)) - s73.1)))) && (decide ((w64 ((w64 ((w64 (ishr .u64 (IntKind.u64.wrap (w64 (a_ + b))) 1)) + m)) - s73.1)) < b)))))]) ∧ Chg [] b3 e7) ?_ ?_
  ·have hMid := Chg.refl [] b3
   refine c_region ?_
   refine pl_val (.int .i64 (w64 (ishr .u64 (IntKind.u64.wrap (w64 (a_ + b))) 1))) (y_move rfl) ?_
   refine pl_val (.int .i64 (w64 ((w64 ((w64 (ishr .u64 (IntKind.u64.wrap (w64 (a_ + b))) 1)) + m)) - s73.1))) (y_move rfl) ?_
   refine pl_val (.bool (decide ((w64 (ishr .u64 (IntKind.u64.wrap (w64 (a_ + b))) 1)) < (w64 ((w64 ((w64 (ishr .u64 (IntKind.u64.wrap (w64 (a_ + b))) 1)) + m)) - s73.1))))) (y_lss rfl rfl) ?_
   refine pl_val (.bool (decide ((w64 (ishr .u64 (IntKind.u64.wrap (w64 (a_ + b))) 1)) < (w64 ((w64 ((w64 (ishr .u64 (IntKind.u64.wrap (w64 (a_ + b))) 1)) + m)) - s73.1))))) (y_move rfl) ?_
   rcases Bool.eq_false_or_eq_true ((decide ((w64 (ishr .u64 (IntKind.u64.wrap (w64 (a_ + b))) 1)) < (w64 ((w64 ((w64 (ishr .u64 (IntKind.u64.wrap (w64 (a_ + b))) 1)) + m)) - s73.1))))) with b0 | b0
   ·skip
    refine pl_yes (.int .i64 (w64 ((w64 ((w64 (ishr .u64 (IntKind.u64.wrap (w64 (a_ + b))) 1)) + m)) - s73.1))) (tg := 167) (by kernel_rfl) (congrArg Value.bool b0) (y_move rfl) ?_
    refine pl_yes (.int .i64 b) (tg := 167) (by kernel_rfl) (congrArg Value.bool b0) (y_move rfl) ?_
    refine pl_yes (.bool (decide ((w64 ((w64 ((w64 (ishr .u64 (IntKind.u64.wrap (w64 (a_ + b))) 1)) + m)) - s73.1)) < b))) (tg := 167) (by kernel_rfl) (congrArg Value.bool b0) (y_lss rfl rfl) ?_
    refine pl_val (.bool ((decide ((w64 (ishr .u64 (IntKind.u64.wrap (w64 (a_ + b))) 1)) < (w64 ((w64 ((w64 (ishr .u64 (IntKind.u64.wrap (w64 (a_ + b))) 1)) + m)) - s73.1)))) && (decide ((w64 ((w64 ((w64 (ishr .u64 (IntKind.u64.wrap (w64 (a_ + b))) 1)) + m)) - s73.1)) < b)))) (y_pick_t (congrArg Value.bool b0) (congrArg Value.bool (by rw [b0]; rfl))) ?_
    refine c_nil ?_
    exact ⟨_, fr_ovl 177 ⟨rfl, rfl, rfl, rfl, rfl, trivial⟩, hMid⟩
   refine pl_not (tg := 167) (by kernel_rfl) (congrArg Value.bool b0) ?_
   refine pl_not (tg := 167) (by kernel_rfl) (congrArg Value.bool b0) ?_
   refine pl_not (tg := 167) (by kernel_rfl) (congrArg Value.bool b0) ?_
   refine pl_val (.bool ((decide ((w64 (ishr .u64 (IntKind.u64.wrap (w64 (a_ + b))) 1)) < (w64 ((w64 ((w64 (ishr .u64 (IntKind.u64.wrap (w64 (a_ + b))) 1)) + m)) - s73.1)))) && (decide ((w64 ((w64 ((w64 (ishr .u64 (IntKind.u64.wrap (w64 (a_ + b))) 1)) + m)) - s73.1)) < b)))) (y_pick_f (congrArg Value.bool b0) (congrArg Value.bool (by rw [b0]; rfl))) ?_
   refine c_nil ?_
   exact ⟨_, fr_ovl 177 ⟨rfl, rfl, rfl, rfl, rfl, trivial⟩, hMid⟩
  rintro a2 e7 ⟨σ, rfl, c2⟩
  have c1 := hE_.ext c1 c2 (fun _ h => nomatch h)
  have a0 := a0.cn c2
  have hC := hC.ext c2
  have hO := hO.ext c2
  rcases bif_some hs with ⟨e1, hs⟩ | ⟨e1, hs⟩
  ·refine c_condT (congrArg Value.bool e1) ?_
   refine c_region ?_
   refine pl_val (.agg #[(.func (.func g_) #[] lb_), (.func (.func sf_) #[] sb_)]) (y_load rfl ((box_load Ag122 Sz122 a0 [] [(.func (.func g_) #[] lb_), (.func (.func sf_) #[] sb_)] [] rfl rfl (fun h => nomatch h)) _ (Chg.refl _ _))) ?_
   refine pl_val (.int .i64 (w64 (ishr .u64 (IntKind.u64.wrap (w64 (a_ + b))) 1))) (y_move rfl) ?_
   refine pl_val (.int .i64 (w64 ((w64 ((w64 (ishr .u64 (IntKind.u64.wrap (w64 (a_ + b))) 1)) + m)) - s73.1))) (y_move rfl) ?_
   refine pl_val (.int .i64 b) (y_move rfl) ?_
   have hO := hO.fr1
   have h6 := Own.lend (F := (G_ ++ ([]))) (R := ([a1]) ++ ([])) (Own.perm hO (by simp))
   obtain ⟨r119, h7, hs⟩ := bind_some hs
   refine pl_call Bd114 rfl (c_ih (M := M) ls_ s106 (w64 (ishr .u64 (IntKind.u64.wrap (w64 (a_ + b))) 1)) (w64 ((w64 ((w64 (ishr .u64 (IntKind.u64.wrap (w64 (a_ + b))) 1)) + m)) - s73.1)) b (Nat.le_trans hN_ hC.size) hE_ c1 h6 hO.fut h7) ?_
   rintro _ i4 ⟨rfl, e2, h8⟩
   have a0 := a0.ap e2 hO nil_mem (mem_l (List.mem_singleton.2 rfl))
   have hC := hC.st e2 hO nil_mem
   have hO := hO.ext e2
   refine c_nil ?_
   cases hs
   exact ⟨_, fr_ovl 177 trivial, hC, h8⟩
  refine c_condF (congrArg Value.bool e1) ?_
  refine wp_skip ?_
  cases hs
  exact ⟨_, fr_ovl 177 trivial, hC, c1⟩

theorem Bd113 : Bodied Try.prog 113 := bodied Try.func113 (by kernel_rfl) rfl

def k_sort_stable_func (M : Nat → Prop) (w0 : World) {α_ : Type} (I_ : World → List α_ → Prop) (G_ : List Nat) (r : (List α_)) (a : Act) (w : World) : Prop :=
  ∃ (σ : Nat → Value) , a = fr 57 (ovl σ []) ∧ Chg (G_ ++ ([])) w0 w ∧ I_ w r
def s_sort_stable_func {α_ : Type} (ls_ : α_ → α_ → Option Bool) (d_ : List α_) (n : Int) : Option ((List α_)) :=
  (iter (S := Int × Int × (List α_)) (R := (List α_)) (fun s9 =>
  (bif (decide (s9.2.1 ≤ n)) then (s_sort_insertionSort_func ls_ s9.2.2 s9.1 s9.2.1).bind fun r19 =>
  some (.nx (s9.2.1, w64 (s9.2.1 + 20), r19)) else some (.br (s9.1, s9.2.1, s9.2.2)))) FU (0, 20, d_)).bind fun o13 => after o13 (fun r_ => some r_) (fun s9 =>
  (s_sort_insertionSort_func ls_ s9.2.2 s9.1 n).bind fun r21 =>
  (iter (S := Int × Int × Int × (List α_)) (R := (List α_)) (fun s67 =>
  (bif (decide (s67.1 < n)) then (iter (S := Int × Int × (List α_)) (R := (List α_)) (fun s83 =>
  (bif (decide (s83.2.1 ≤ n)) then (s_sort_symMerge_func FU ls_ s83.2.2 s83.1 (w64 (s83.1 + s67.1)) s83.2.1).bind fun r93 =>
  some (.nx (s83.2.1, w64 (s83.2.1 + (w64 (2 * s67.1))), r93)) else some (.br (s83.1, s83.2.1, s83.2.2)))) FU (0, w64 (2 * s67.1), s67.2.2.2)).bind fun o87 => after o87 (fun r_ => some (.rt r_)) (fun s83 =>
  (bif (decide ((w64 (s83.1 + s67.1)) < n)) then (s_sort_symMerge_func FU ls_ s83.2.2 s83.1 (w64 (s83.1 + s67.1)) n).bind fun r96 =>
  some (.nx (w64 (s67.1 * 2), s83.1, s83.2.1, r96)) else some (.nx (w64 (s67.1 * 2), s83.1, s83.2.1, s83.2.2)))) else some (.br (s67.1, s67.2.1, s67.2.2.1, s67.2.2.2)))) FU (20, s9.1, s9.2.1, r21)).bind fun o71 => after o71 (fun r_ => some r_) (fun s67 =>
  some s67.2.2.2))
set_option maxHeartbeats 4000000 in
theorem c_sort_stable_func {M : Nat → Prop} {w : World} {α_ : Type} {n0_ : Nat} {I_ : World → List α_ → Prop} {G_ : List Nat} {g_ sf_ : Nat} {lb_ sb_ : Array Value} (ls_ : α_ → α_ → Option Bool) (d_ : List α_) (n : Int) (hN_ : n0_ ≤ w.heap.size) (hE_ : Env Try.prog n0_ I_ G_ ls_ g_ lb_ sf_ sb_) (hI_ : I_ w d_) (hI : Own (Nw w (G_ ++ ([]))) M w (G_ ++ ([]))) (hM : ∀ g, w.heap.size ≤ g → M g) {r : (List α_)} (hs : s_sort_stable_func ls_ d_ n = some r) :
    Gives Try.prog 101 [(.agg #[(.func (.func g_) #[] lb_), (.func (.func sf_) #[] sb_)]), (.int .i64 n)] w (fun v w' => v = (.tuple #[]) ∧ Chg (G_ ++ ([])) w w' ∧ I_ w' r) := by
 refine calls_fr Try.func101 rfl Try.ntmps101 (Nat.le_of_ble_eq_true rfl) ?_
 have hO := hI
 have hC := Chg.refl (G_ ++ ([])) w
 unfold s_sort_stable_func at hs
 refine wp_mono (Q := KPostN (k_sort_stable_func M w I_ G_ r)) ?_ (fun e a a5 h => ?_)
 rotate_left
 ·cases e
  case ret =>
   obtain ⟨σ, rfl, hrest⟩ := h
   exact ret0x Try.results101  ⟨rfl, hrest⟩
  case normal =>
   obtain ⟨σ, rfl, hrest⟩ := h
   exact ret0n Try.results101  ⟨rfl, hrest⟩
  all_goals exact (h : False).elim
 refine c_sr ?_
 obtain ⟨a5, a1, c1, b6, a7, a0⟩ := new_block w [(.func (.func g_) #[] lb_), (.func (.func sf_) #[] sb_)] 122
 refine pl_val (w' := a5) (.pointer (some ⟨a1, 0, none⟩)) (y_box rfl (by rw [c1, b6]; kernel_rfl)) ?_
 have hI_ := hE_.ext hI_ a7 (fun _ h => nomatch h)
 have hC := hC.ext a7
 have hO := hO.new1 a7 b6 a0.lt
 refine c_nil ?_
 refine c_sr ?_
 refine pl_val (.int .i64 20) (y_assign rfl) ?_
 refine c_nil ?_
 refine c_sr ?_
 refine pl_val (.int .i64 20) (y_move rfl) ?_
 refine pl_val (.int .i64 0) (y_assign rfl) ?_
 refine pl_val (.int .i64 20) (y_assign rfl) ?_
 refine c_nil ?_
 refine c_seq ?_
 obtain ⟨o13, c2, hs⟩ := bind_some hs
 refine wp_block ?_
 refine wp_iter (id := 0) (I := fun s9 a a2 => ∃ (σ : Nat → Value), a = fr 57 (ovl σ [(1, (.int .i64 n)), (2, (.pointer (some ⟨a1, 0, none⟩))), (4, (.int .i64 20)), (5, (.int .i64 s9.1)), (6, (.int .i64 s9.2.1))]) ∧ Chg (G_ ++ ([])) w a2 ∧ Own (Nw w (G_ ++ ([]))) M a2 (([a1]) ++ (G_ ++ [])) ∧ I_ a2 s9.2.2 ∧ BoxV a2 a1 122 [(.func (.func g_) #[] lb_), (.func (.func sf_) #[] sb_)]) (J := fun s9 a a2 => ∃ (σ : Nat → Value), a = fr 57 (ovl σ [(1, (.int .i64 n)), (2, (.pointer (some ⟨a1, 0, none⟩))), (4, (.int .i64 20)), (5, (.int .i64 s9.1)), (6, (.int .i64 s9.2.1))]) ∧ Chg (G_ ++ ([])) w a2 ∧ Own (Nw w (G_ ++ ([]))) M a2 (([a1]) ++ (G_ ++ [])) ∧ I_ a2 s9.2.2 ∧ BoxV a2 a1 122 [(.func (.func g_) #[] lb_), (.func (.func sf_) #[] sb_)]) (K := (k_sort_stable_func M w I_ G_)) ?_ FU (0, 20, d_) o13 _ _ ?_ c2 ?_
 ·rintro s9 o13 a a2 ⟨σ, rfl, hC, hO, b7, a0⟩ hs
  refine c_seq ?_
  refine c_sr ?_
  refine pl_val (.int .i64 s9.2.1) (y_move rfl) ?_
  refine pl_val (.int .i64 n) (y_move rfl) ?_
  refine pl_val (.bool (decide (s9.2.1 ≤ n))) (y_leq rfl rfl) ?_
  refine c_nil ?_
  rcases bif_some hs with ⟨a8, hs⟩ | ⟨a8, hs⟩
  ·refine c_condT (congrArg Value.bool a8) ?_
   refine wp_skip ?_
   refine wp_block ?_
   refine c_sr ?_
   refine pl_val (.agg #[(.func (.func g_) #[] lb_), (.func (.func sf_) #[] sb_)]) (y_load rfl ((box_load Ag122 Sz122 a0 [] [(.func (.func g_) #[] lb_), (.func (.func sf_) #[] sb_)] [] rfl rfl (fun h => nomatch h)) _ (Chg.refl _ _))) ?_
   refine pl_val (.int .i64 s9.1) (y_move rfl) ?_
   refine pl_val (.int .i64 s9.2.1) (y_move rfl) ?_
   have hO := hO.fr1
   have c3 := Own.lend (F := (G_ ++ ([]))) (R := ([a1]) ++ ([])) (Own.perm hO (by simp))
   obtain ⟨r19, c4, hs⟩ := bind_some hs
   refine pl_call Bd113 rfl (c_sort_insertionSort_func (M := M) ls_ s9.2.2 s9.1 s9.2.1 (Nat.le_trans hN_ hC.size) hE_ b7 c3 hO.fut c4) ?_
   rintro _ d9 ⟨rfl, a9, c5⟩
   have a0 := a0.ap a9 hO nil_mem (mem_l (List.mem_singleton.2 rfl))
   have hC := hC.st a9 hO nil_mem
   have hO := hO.ext a9
   refine c_nil ?_
   refine c_sr ?_
   refine pl_val (.int .i64 s9.2.1) (y_move rfl) ?_
   refine pl_val (.int .i64 s9.2.1) (y_assign rfl) ?_
   refine c_nil ?_
   refine c_region ?_
   refine pl_val (.int .i64 s9.2.1) (y_move rfl) ?_
   refine pl_val (.int .i64 20) (y_move rfl) ?_
   refine pl_val (.int .i64 (w64 (s9.2.1 + 20))) (y_add rfl rfl) ?_
   refine pl_val (.int .i64 (w64 (s9.2.1 + 20))) (y_assign rfl) ?_
   refine c_nil ?_
   cases hs
   have hO := hO.fr1
   exact ⟨_, fr_ovl 57 ⟨rfl, rfl, rfl, rfl, rfl, trivial⟩, hC, hO, c5, a0⟩
  refine c_condF (congrArg Value.bool a8) ?_
  refine wp_exit ?_
  cases hs
  have hO := hO.fr1
  have hO := hO.fr1
  exact ⟨rfl, _, fr_ovl 57 ⟨rfl, rfl, rfl, rfl, rfl, trivial⟩, hC, hO, b7, a0⟩
 ·skip
  have hO := hO.fr1
  have hO := hO.fr1
  exact ⟨_, fr_ovl 57 ⟨rfl, rfl, rfl, rfl, rfl, trivial⟩, hC, hO, hI_, a0⟩
 cases o13 with
 | nx _ => exact True.intro
 | rt r_ =>
  have hs := after_rt hs
  intro a6 a5 hK
  cases hs
  exact hK
 | br s9 =>
  have hs := after_br hs
  rintro a6 a2 ⟨σ, rfl, hC, hO, c6, a0⟩
  refine c_sr ?_
  refine pl_val (.agg #[(.func (.func g_) #[] lb_), (.func (.func sf_) #[] sb_)]) (y_load rfl ((box_load Ag122 Sz122 a0 [] [(.func (.func g_) #[] lb_), (.func (.func sf_) #[] sb_)] [] rfl rfl (fun h => nomatch h)) _ (Chg.refl _ _))) ?_
  refine pl_val (.int .i64 s9.1) (y_move rfl) ?_
  refine pl_val (.int .i64 n) (y_move rfl) ?_
  have hO := hO.fr1
  have c7 := Own.lend (F := (G_ ++ ([]))) (R := ([a1]) ++ ([])) (Own.perm hO (by simp))
  obtain ⟨r21, c8, hs⟩ := bind_some hs
  refine pl_call Bd113 rfl (c_sort_insertionSort_func (M := M) ls_ s9.2.2 s9.1 n (Nat.le_trans hN_ hC.size) hE_ c6 c7 hO.fut c8) ?_
  rintro _ e0 ⟨rfl, b0, c9⟩
  have a0 := a0.ap b0 hO nil_mem (mem_l (List.mem_singleton.2 rfl))
  have hC := hC.st b0 hO nil_mem
  have hO := hO.ext b0
  refine c_nil ?_
  obtain ⟨o71, d0, hs⟩ := bind_some hs
  refine wp_block ?_
  refine wp_iter (id := 2) (I := fun s67 a a3 => ∃ (σ : Nat → Value), a = fr 57 (ovl σ [(1, (.int .i64 n)), (2, (.pointer (some ⟨a1, 0, none⟩))), (4, (.int .i64 s67.1)), (5, (.int .i64 s67.2.1)), (6, (.int .i64 s67.2.2.1))]) ∧ Chg (G_ ++ ([])) w a3 ∧ Own (Nw w (G_ ++ ([]))) M a3 (G_ ++ (([a1]) ++ [])) ∧ I_ a3 s67.2.2.2 ∧ BoxV a3 a1 122 [(.func (.func g_) #[] lb_), (.func (.func sf_) #[] sb_)]) (J := fun s67 a a3 => ∃ (σ : Nat → Value), a = fr 57 (ovl σ []) ∧ Chg (G_ ++ ([])) w a3 ∧ Own (Nw w (G_ ++ ([]))) M a3 (G_ ++ (([a1]) ++ [])) ∧ I_ a3 s67.2.2.2 ∧ BoxV a3 a1 122 [(.func (.func g_) #[] lb_), (.func (.func sf_) #[] sb_)]) (K := (k_sort_stable_func M w I_ G_)) ?_ FU (20, s9.1, s9.2.1, r21) o71 _ _ ?_ d0 ?_
  ·rintro s67 o71 a a3 ⟨σ, rfl, hC, hO, b8, a0⟩ hs
   refine c_seq ?_
   refine c_sr ?_
   refine pl_val (.int .i64 s67.1) (y_move rfl) ?_
   refine pl_val (.int .i64 n) (y_move rfl) ?_
   refine pl_val (.bool (decide (s67.1 < n))) (y_lss rfl rfl) ?_
   refine c_nil ?_
   rcases bif_some hs with ⟨b1, hs⟩ | ⟨b1, hs⟩
   ·refine c_condT (congrArg Value.bool b1) ?_
    refine wp_skip ?_
    refine wp_block ?_
    refine c_sr ?_
    refine pl_val (.int .i64 s67.1) (y_move rfl) ?_
    refine pl_val (.int .i64 (w64 (2 * s67.1))) (y_mul rfl rfl) ?_
    refine pl_val (.int .i64 0) (y_assign rfl) ?_
    refine pl_val (.int .i64 (w64 (2 * s67.1))) (y_assign rfl) ?_
    refine c_nil ?_
    refine c_seq ?_
    obtain ⟨o87, d1, hs⟩ := bind_some hs
    refine wp_block ?_
    refine wp_iter (id := 4) (I := fun s83 a a4 => ∃ (σ : Nat → Value), a = fr 57 (ovl σ [(1, (.int .i64 n)), (2, (.pointer (some ⟨a1, 0, none⟩))), (4, (.int .i64 s67.1)), (5, (.int .i64 s83.1)), (6, (.int .i64 s83.2.1))]) ∧ Chg (G_ ++ ([])) w a4 ∧ Own (Nw w (G_ ++ ([]))) M a4 (G_ ++ (([a1]) ++ [])) ∧ I_ a4 s83.2.2 ∧ BoxV a4 a1 122 [(.func (.func g_) #[] lb_), (.func (.func sf_) #[] sb_)]) (J := fun s83 a a4 => ∃ (σ : Nat → Value), a = fr 57 (ovl σ [(1, (.int .i64 n)), (2, (.pointer (some ⟨a1, 0, none⟩))), (4, (.int .i64 s67.1)), (5, (.int .i64 s83.1)), (6, (.int .i64 s83.2.1))]) ∧ Chg (G_ ++ ([])) w a4 ∧ Own (Nw w (G_ ++ ([]))) M a4 (G_ ++ (([a1]) ++ [])) ∧ I_ a4 s83.2.2 ∧ BoxV a4 a1 122 [(.func (.func g_) #[] lb_), (.func (.func sf_) #[] sb_)]) (K := (k_sort_stable_func M w I_ G_)) ?_ FU (0, w64 (2 * s67.1), s67.2.2.2) o87 _ _ ?_ d1 ?_
    ·rintro s83 o87 a a4 ⟨σ, rfl, hC, hO, b9, a0⟩ hs
     refine c_seq ?_
     refine c_sr ?_
     refine pl_val (.int .i64 s83.2.1) (y_move rfl) ?_
     refine pl_val (.int .i64 n) (y_move rfl) ?_
     refine pl_val (.bool (decide (s83.2.1 ≤ n))) (y_leq rfl rfl) ?_
     refine c_nil ?_
     rcases bif_some hs with ⟨b2, hs⟩ | ⟨b2, hs⟩
     ·refine c_condT (congrArg Value.bool b2) ?_
      refine wp_skip ?_
      refine wp_block ?_
      refine c_sr ?_
      refine pl_val (.agg #[(.func (.func g_) #[] lb_), (.func (.func sf_) #[] sb_)]) (y_load rfl ((box_load Ag122 Sz122 a0 [] [(.func (.func g_) #[] lb_), (.func (.func sf_) #[] sb_)] [] rfl rfl (fun h => nomatch h)) _ (Chg.refl _ _))) ?_
      refine pl_val (.int .i64 s83.1) (y_move rfl) ?_
      refine pl_val (.int .i64 s83.1) (y_move rfl) ?_
      refine pl_val (.int .i64 s67.1) (y_move rfl) ?_
      refine pl_val (.int .i64 (w64 (s83.1 + s67.1))) (y_add rfl rfl) ?_
      refine pl_val (.int .i64 s83.2.1) (y_move rfl) ?_
      have d2 := Own.lend (F := (G_ ++ ([]))) (R := ([a1]) ++ ([])) (Own.perm hO (by simp))
      obtain ⟨r93, d3, hs⟩ := bind_some hs
      refine pl_call Bd114 rfl (c_sort_symMerge_func (M := M) FU ls_ s83.2.2 s83.1 (w64 (s83.1 + s67.1)) s83.2.1 (Nat.le_trans hN_ hC.size) hE_ b9 d2 hO.fut d3) ?_
      rintro _ e1 ⟨rfl, b3, d4⟩
      have a0 := a0.ap b3 hO nil_mem (mem_l (List.mem_singleton.2 rfl))
      have hC := hC.st b3 hO nil_mem
      have hO := hO.ext b3
      refine c_nil ?_
      refine c_sr ?_
      refine pl_val (.int .i64 s83.2.1) (y_move rfl) ?_
      refine pl_val (.int .i64 s83.2.1) (y_assign rfl) ?_
      refine c_nil ?_
      refine c_region ?_
      refine pl_val (.int .i64 s83.2.1) (y_move rfl) ?_
      refine pl_val (.int .i64 s67.1) (y_move rfl) ?_
      refine pl_val (.int .i64 (w64 (2 * s67.1))) (y_mul rfl rfl) ?_
      refine pl_val (.int .i64 (w64 (s83.2.1 + (w64 (2 * s67.1))))) (y_add rfl rfl) ?_
      refine pl_val (.int .i64 (w64 (s83.2.1 + (w64 (2 * s67.1))))) (y_assign rfl) ?_
      refine c_nil ?_
      cases hs
      have hO := hO.fr1
      have hO := hO.fr1
      exact ⟨_, fr_ovl 57 ⟨rfl, rfl, rfl, rfl, rfl, trivial⟩, hC, hO, d4, a0⟩
     refine c_condF (congrArg Value.bool b2) ?_
     refine wp_exit ?_
     cases hs
     have hO := hO.fr1
     have hO := hO.fr1
     exact ⟨rfl, _, fr_ovl 57 ⟨rfl, rfl, rfl, rfl, rfl, trivial⟩, hC, hO, b9, a0⟩
    ·skip
     have hO := hO.fr1
     have hO := hO.fr1
     exact ⟨_, fr_ovl 57 ⟨rfl, rfl, rfl, rfl, rfl, trivial⟩, hC, hO, b8, a0⟩
    cases o87 with
    | nx _ => exact True.intro
    | rt r_ =>
     have hs := after_rt hs
     intro a6 a5 hK
     cases hs
     exact hK
    | br s83 =>
     have hs := after_br hs
     rintro a6 a4 ⟨σ, rfl, hC, hO, c0, a0⟩
     refine c_seq ?_
     refine c_sr ?_
     refine pl_val (.int .i64 s83.1) (y_move rfl) ?_
     refine pl_val (.int .i64 s67.1) (y_move rfl) ?_
     refine pl_val (.int .i64 (w64 (s83.1 + s67.1))) (y_add rfl rfl) ?_
     refine pl_val (.int .i64 (w64 (s83.1 + s67.1))) (y_assign rfl) ?_
     refine c_nil ?_
     refine c_sr ?_
     refine pl_val (.int .i64 (w64 (s83.1 + s67.1))) (y_move rfl) ?_
     refine pl_val (.int .i64 n) (y_move rfl) ?_
     refine pl_val (.bool (decide ((w64 (s83.1 + s67.1)) < n))) (y_lss rfl rfl) ?_
     refine c_nil ?_
     rcases bif_some hs with ⟨b4, hs⟩ | ⟨b4, hs⟩
     ·refine c_condT (congrArg Value.bool b4) ?_
      refine c_region ?_
      refine pl_val (.agg #[(.func (.func g_) #[] lb_), (.func (.func sf_) #[] sb_)]) (y_load rfl ((box_load Ag122 Sz122 a0 [] [(.func (.func g_) #[] lb_), (.func (.func sf_) #[] sb_)] [] rfl rfl (fun h => nomatch h)) _ (Chg.refl _ _))) ?_
      refine pl_val (.int .i64 s83.1) (y_move rfl) ?_
      refine pl_val (.int .i64 (w64 (s83.1 + s67.1))) (y_move rfl) ?_
      refine pl_val (.int .i64 n) (y_move rfl) ?_
      have d5 := Own.lend (F := (G_ ++ ([]))) (R := ([a1]) ++ ([])) (Own.perm hO (by simp))
      obtain ⟨r96, d6, hs⟩ := bind_some hs
      refine pl_call Bd114 rfl (c_sort_symMerge_func (M := M) FU ls_ s83.2.2 s83.1 (w64 (s83.1 + s67.1)) n (Nat.le_trans hN_ hC.size) hE_ c0 d5 hO.fut d6) ?_
      rintro _ e2 ⟨rfl, b5, d7⟩
      have a0 := a0.ap b5 hO nil_mem (mem_l (List.mem_singleton.2 rfl))
      have hC := hC.st b5 hO nil_mem
      have hO := hO.ext b5
      refine c_nil ?_
      refine c_region ?_
      refine pl_val (.int .i64 s67.1) (y_move rfl) ?_
      refine pl_val (.int .i64 (w64 (s67.1 * 2))) (y_mul rfl rfl) ?_
      refine pl_val (.int .i64 (w64 (s67.1 * 2))) (y_assign rfl) ?_
      refine c_nil ?_
      cases hs
      have hO := hO.fr1
      have hO := hO.fr1
      exact ⟨_, fr_ovl 57 ⟨rfl, rfl, rfl, rfl, rfl, trivial⟩, hC, hO, d7, a0⟩
     refine c_condF (congrArg Value.bool b4) ?_
     refine wp_skip ?_
     refine c_region ?_
     refine pl_val (.int .i64 s67.1) (y_move rfl) ?_
     refine pl_val (.int .i64 (w64 (s67.1 * 2))) (y_mul rfl rfl) ?_
     refine pl_val (.int .i64 (w64 (s67.1 * 2))) (y_assign rfl) ?_
     refine c_nil ?_
     cases hs
     have hO := hO.fr1
     have hO := hO.fr1
     exact ⟨_, fr_ovl 57 ⟨rfl, rfl, rfl, rfl, rfl, trivial⟩, hC, hO, c0, a0⟩
   refine c_condF (congrArg Value.bool b1) ?_
   refine wp_exit ?_
   cases hs
   have hO := hO.fr1
   have hO := hO.fr1
   exact ⟨rfl, _, fr_ovl 57 trivial, hC, hO, b8, a0⟩
  ·skip
   have hO := hO.fr1
   have hO := hO.fr1
   exact ⟨_, fr_ovl 57 ⟨rfl, rfl, rfl, rfl, rfl, trivial⟩, hC, hO, c9, a0⟩
  cases o71 with
  | nx _ => exact True.intro
  | rt r_ =>
   have hs := after_rt hs
   intro a6 a5 hK
   cases hs
   exact hK
  | br s67 =>
   have hs := after_br hs
   rintro a6 a3 ⟨σ, rfl, hC, hO, d8, a0⟩
   cases hs
   exact ⟨_, fr_ovl 57 trivial, hC, d8⟩

def k_impl_compareLists (M : Nat → Prop) (w0 : World) (r : Int) (a : Act) (w : World) : Prop :=
  ∃ (σ : Nat → Value) , a = fr 48 (ovl σ [(4, (.int .i64 r))]) ∧ Chg [] w0 w
def s_impl_compareLists (s_ : List Int) (t : List Int) : Option (Int) :=
  (iter (S := Int) (R := Int) (fun s25 =>
  (bif ((decide (s25 < (s_.length : Int))) && (decide (s25 < (t.length : Int)))) then (idx s_ s25).bind fun x42 =>
  (idx t s25).bind fun x44 =>
  (bif (x42 != x44) then (idx s_ s25).bind fun x48 =>
  (idx t s25).bind fun x50 =>
  (bif (decide (x48 < x50)) then some (.rt (-1)) else some (.rt 1)) else some (.nx (w64 (s25 + 1)))) else some (.br s25))) FU 0).bind fun o29 => after o29 (fun r_ => some r_) (fun s25 =>
  (bif (decide ((s_.length : Int) < (t.length : Int))) then some (-1) else (bif (decide ((t.length : Int) < (s_.length : Int))) then some 1 else some 0)))
set_option maxHeartbeats 4000000 in
theorem c_impl_compareLists {M : Nat → Prop} {w : World} {pa0 : Option Addr} {pn0 pc0 : Nat} {pa1 : Option Addr} {pn1 pc1 : Nat} (s_ : List Int) (t : List Int) (h0 : (RT.rs (RT.int .i64)).val M w (.slice pa0 pn0 pc0) s_ ([])) (h1 : (RT.rs (RT.int .i64)).val M w (.slice pa1 pn1 pc1) t ([])) (hM : ∀ g, w.heap.size ≤ g → M g) {r : Int} (hs : s_impl_compareLists s_ t = some r) :
    Gives Try.prog 96 [(.slice pa0 pn0 pc0), (.slice pa1 pn1 pc1)] w (fun v w' => v = (.int .i64 r) ∧ Chg [] w w') := by
 refine calls_fr Try.func96 rfl Try.ntmps96 (Nat.le_of_ble_eq_true rfl) ?_
 have hO := Own.start (N := Nw w []) hM Nw.fut
 have hC := Chg.refl [] w
 unfold s_impl_compareLists at hs
 refine wp_mono (Q := KPost (k_impl_compareLists M w r)) ?_ (fun e a b3 h => ?_)
 rotate_left
 ·cases e
  case ret =>
   obtain ⟨σ, rfl, hrest⟩ := h
   exact ret1x Try.results96 (res_tmp rfl) ⟨rfl, hrest⟩
  all_goals exact (h : False).elim
 refine c_sr ?_
 refine pl_val (.int .i64 0) (y_assign rfl) ?_
 refine c_nil ?_
 refine c_seq ?_
 refine c_sr ?_
 refine pl_val (.int .i64 0) (y_assign rfl) ?_
 refine c_nil ?_
 obtain ⟨o29, b4, hs⟩ := bind_some hs
 refine wp_block ?_
 refine wp_iter (id := 0) (I := fun s25 a a0 => ∃ (σ : Nat → Value), a = fr 48 (ovl σ [(0, (.slice pa0 pn0 pc0)), (1, (.slice pa1 pn1 pc1)), (5, (.int .i64 s25))]) ∧ Chg [] w a0 ∧ Own (Nw w []) M a0 ([]) ∧ (RT.rs (RT.int .i64)).val M a0 (.slice pa0 pn0 pc0) s_ ([]) ∧ (RT.rs (RT.int .i64)).val M a0 (.slice pa1 pn1 pc1) t ([])) (J := fun s25 a a0 => ∃ (σ : Nat → Value), a = fr 48 (ovl σ [(0, (.slice pa0 pn0 pc0)), (1, (.slice pa1 pn1 pc1))]) ∧ Chg [] w a0 ∧ Own (Nw w []) M a0 ([]) ∧ (RT.rs (RT.int .i64)).val M a0 (.slice pa0 pn0 pc0) s_ ([]) ∧ (RT.rs (RT.int .i64)).val M a0 (.slice pa1 pn1 pc1) t ([])) (K := (k_impl_compareLists M w)) ?_ FU 0 o29 _ _ ?_ b4 ?_
 ·rintro s25 o29 a a0 ⟨σ, rfl, hC, hO, h0, h1⟩ hs
  refine c_seq ?_
  refine c_seq ?_
  refine c_mid (I := fun a a4 => ∃ (σ : Nat → Value), a = fr 48 (ovl σ [(0, (.slice pa0 pn0 pc0)), (1, (.slice pa1 pn1 pc1)), (5, (.int .i64 s25)), (15, (.bool ((decide (s25 < (s_.length : Int))) && (decide (s25 < (t.length : Int))))))]) ∧ Chg [] a0 a4) ?_ ?_
  ·have hMid := Chg.refl [] a0
   refine c_region ?_
   refine pl_val (.int .i64 s25) (y_move rfl) ?_
   refine pl_val (.slice pa0 pn0 pc0) (y_move rfl) ?_
   refine pl_val (.int .i64 (s_.length : Int)) (y_len' Sl25 (rs_len h0) rfl) ?_
   refine pl_val (.bool (decide (s25 < (s_.length : Int)))) (y_lss rfl rfl) ?_
   refine pl_val (.bool (decide (s25 < (s_.length : Int)))) (y_move rfl) ?_
   rcases Bool.eq_false_or_eq_true ((decide (s25 < (s_.length : Int)))) with a1 | a1
   ·skip
    refine pl_yes (.int .i64 s25) (tg := 10) (by kernel_rfl) (congrArg Value.bool a1) (y_move rfl) ?_
    refine pl_yes (.slice pa1 pn1 pc1) (tg := 10) (by kernel_rfl) (congrArg Value.bool a1) (y_move rfl) ?_
    refine pl_yes (.int .i64 (t.length : Int)) (tg := 10) (by kernel_rfl) (congrArg Value.bool a1) (y_len' Sl25 (rs_len h1) rfl) ?_
    refine pl_yes (.bool (decide (s25 < (t.length : Int)))) (tg := 10) (by kernel_rfl) (congrArg Value.bool a1) (y_lss rfl rfl) ?_
    refine pl_val (.bool ((decide (s25 < (s_.length : Int))) && (decide (s25 < (t.length : Int))))) (y_pick_t (congrArg Value.bool a1) (congrArg Value.bool (by rw [a1]; rfl))) ?_
    refine c_nil ?_
    exact ⟨_, fr_ovl 48 ⟨rfl, rfl, rfl, rfl, trivial⟩, hMid⟩
   refine pl_not (tg := 10) (by kernel_rfl) (congrArg Value.bool a1) ?_
   refine pl_not (tg := 10) (by kernel_rfl) (congrArg Value.bool a1) ?_
   refine pl_not (tg := 10) (by kernel_rfl) (congrArg Value.bool a1) ?_
   refine pl_not (tg := 10) (by kernel_rfl) (congrArg Value.bool a1) ?_
   refine pl_val (.bool ((decide (s25 < (s_.length : Int))) && (decide (s25 < (t.length : Int))))) (y_pick_f (congrArg Value.bool a1) (congrArg Value.bool (by rw [a1]; rfl))) ?_
   refine c_nil ?_
   exact ⟨_, fr_ovl 48 ⟨rfl, rfl, rfl, rfl, trivial⟩, hMid⟩
  rintro b2 a4 ⟨σ, rfl, a5⟩
  have h0 := h0.ext a5
  have h1 := h1.ext a5
  have hC := hC.ext a5
  have hO := hO.ext a5
  rcases bif_some hs with ⟨a6, hs⟩ | ⟨a6, hs⟩
  ·refine c_condT (congrArg Value.bool a6) ?_
   refine wp_skip ?_
   refine c_seq ?_
   refine wp_block ?_
   refine c_seq ?_
   refine x_start [] Mx rfl ?_
   have a2 := Chg.drew a4
   generalize World.drew a4 = a7 at a2 ⊢
   have h0 := h0.ext a2
   have h1 := h1.ext a2
   have hC := hC.ext a2
   have hO := hO.ext a2
   have hS := Chg.refl [] a7
   refine x_p 0 (.slice pa0 pn0 pc0) rfl (by kernel_rfl)  (fun _ => y_move rfl) (fun _ => hS) ?_
   refine x_p 1 (.int .i64 s25) rfl (by kernel_rfl)  (fun _ => y_move rfl) (fun _ => hS) ?_
   obtain ⟨x42, b5, hs⟩ := bind_some hs
   obtain ⟨b6, b7, b8, b9⟩ := rs_idx Sl25 Sz3 h0 b5
   refine x_p 2 (.pointer (some ⟨b6, b7, none⟩)) rfl (by kernel_rfl)  (fun _ => b8 _ _ _ _ _ _ _ _ _ rfl rfl) (fun _ => hS) ?_
   refine x_l 3 (.int .i64 x42) rfl (by kernel_rfl)  (fun w' hw' => y_load rfl ((at_load_int Ag3 Sz3 b9) w' hw')) hS ?_
   refine x_p 4 (.slice pa1 pn1 pc1) rfl (by kernel_rfl)  (fun _ => y_move rfl) (fun _ => hS) ?_
   refine x_p 5 (.int .i64 s25) rfl (by kernel_rfl)  (fun _ => y_move rfl) (fun _ => hS) ?_
   obtain ⟨x44, c0, hs⟩ := bind_some hs
   obtain ⟨c1, c2, c3, c4⟩ := rs_idx Sl25 Sz3 h1 c0
   refine x_p 6 (.pointer (some ⟨c1, c2, none⟩)) rfl (by kernel_rfl)  (fun _ => c3 _ _ _ _ _ _ _ _ _ rfl rfl) (fun _ => hS) ?_
   refine x_l 7 (.int .i64 x44) rfl (by kernel_rfl)  (fun w' hw' => y_load rfl ((at_load_int Ag3 Sz3 c4) w' hw')) hS ?_
   refine x_p 8 (.bool (x42 != x44)) rfl (by kernel_rfl)  (fun _ => y_neq rfl rfl) (fun _ => hS) ?_
   refine x_end (by kernel_rfl) ?_
   clear hS
   rcases bif_some hs with ⟨a8, hs⟩ | ⟨a8, hs⟩
   ·refine c_condT (congrArg Value.bool a8) ?_
    refine c_seq ?_
    refine c_seq ?_
    refine x_start [] Mx rfl ?_
    have a3 := Chg.drew a7
    generalize World.drew a7 = c5 at a3 ⊢
    have h0 := h0.ext a3
    have h1 := h1.ext a3
    have hC := hC.ext a3
    have hO := hO.ext a3
    have hS := Chg.refl [] c5
    refine x_p 0 (.slice pa0 pn0 pc0) rfl (by kernel_rfl)  (fun _ => y_move rfl) (fun _ => hS) ?_
    refine x_p 1 (.int .i64 s25) rfl (by kernel_rfl)  (fun _ => y_move rfl) (fun _ => hS) ?_
    obtain ⟨x48, c6, hs⟩ := bind_some hs
    obtain ⟨c7, c8, c9, d0⟩ := rs_idx Sl25 Sz3 h0 c6
    refine x_p 2 (.pointer (some ⟨c7, c8, none⟩)) rfl (by kernel_rfl)  (fun _ => c9 _ _ _ _ _ _ _ _ _ rfl rfl) (fun _ => hS) ?_
    refine x_l 3 (.int .i64 x48) rfl (by kernel_rfl)  (fun w' hw' => y_load rfl ((at_load_int Ag3 Sz3 d0) w' hw')) hS ?_
    refine x_p 4 (.slice pa1 pn1 pc1) rfl (by kernel_rfl)  (fun _ => y_move rfl) (fun _ => hS) ?_
    refine x_p 5 (.int .i64 s25) rfl (by kernel_rfl)  (fun _ => y_move rfl) (fun _ => hS) ?_
    obtain ⟨x50, d1, hs⟩ := bind_some hs
    obtain ⟨d2, d3, d4, d5⟩ := rs_idx Sl25 Sz3 h1 d1
    refine x_p 6 (.pointer (some ⟨d2, d3, none⟩)) rfl (by kernel_rfl)  (fun _ => d4 _ _ _ _ _ _ _ _ _ rfl rfl) (fun _ => hS) ?_
    refine x_l 7 (.int .i64 x50) rfl (by kernel_rfl)  (fun w' hw' => y_load rfl ((at_load_int Ag3 Sz3 d5) w' hw')) hS ?_
    refine x_p 8 (.bool (decide (x48 < x50))) rfl (by kernel_rfl)  (fun _ => y_lss rfl rfl) (fun _ => hS) ?_
    refine x_end (by kernel_rfl) ?_
    clear hS
    rcases bif_some hs with ⟨a9, hs⟩ | ⟨a9, hs⟩
    ·refine c_condT (congrArg Value.bool a9) ?_
     refine c_sr ?_
     refine pl_val (.int .i64 (-1)) (y_assign rfl) ?_
     refine c_nil ?_
     refine wp_ret ?_
     cases hs
     exact ⟨_, fr_ovl 48 ⟨rfl, trivial⟩, hC⟩
    refine c_condF (congrArg Value.bool a9) ?_
    refine wp_skip ?_
    refine c_sr ?_
    refine pl_val (.int .i64 1) (y_assign rfl) ?_
    refine c_nil ?_
    refine wp_ret ?_
    cases hs
    exact ⟨_, fr_ovl 48 ⟨rfl, trivial⟩, hC⟩
   refine c_condF (congrArg Value.bool a8) ?_
   refine wp_skip ?_
   refine c_region ?_
   refine pl_val (.int .i64 s25) (y_move rfl) ?_
   refine pl_val (.int .i64 (w64 (s25 + 1))) (y_add rfl rfl) ?_
   refine pl_val (.int .i64 (w64 (s25 + 1))) (y_assign rfl) ?_
   refine c_nil ?_
   cases hs
   exact ⟨_, fr_ovl 48 ⟨rfl, rfl, rfl, trivial⟩, hC, hO, h0, h1⟩
  refine c_condF (congrArg Value.bool a6) ?_
  refine wp_exit ?_
  cases hs
  exact ⟨rfl, _, fr_ovl 48 ⟨rfl, rfl, trivial⟩, hC, hO, h0, h1⟩
 ·skip
  exact ⟨_, fr_ovl 48 ⟨rfl, rfl, rfl, trivial⟩, hC, hO, h0, h1⟩
 cases o29 with
 | nx _ => exact True.intro
 | rt r_ =>
  have hs := after_rt hs
  intro b2 b3 hK
  cases hs
  exact hK
 | br s25 =>
  have hs := after_br hs
  rintro b2 a0 ⟨σ, rfl, hC, hO, h0, h1⟩
  refine c_seq ?_
  refine wp_block ?_
  refine c_sr ?_
  refine pl_val (.slice pa0 pn0 pc0) (y_move rfl) ?_
  refine pl_val (.int .i64 (s_.length : Int)) (y_len' Sl25 (rs_len h0) rfl) ?_
  refine pl_val (.slice pa1 pn1 pc1) (y_move rfl) ?_
  refine pl_val (.int .i64 (t.length : Int)) (y_len' Sl25 (rs_len h1) rfl) ?_
  refine pl_val (.bool (decide ((s_.length : Int) < (t.length : Int)))) (y_lss rfl rfl) ?_
  refine pl_val (.bool (decide ((s_.length : Int) < (t.length : Int)))) (y_assign rfl) ?_
  refine c_nil ?_
  rcases bif_some hs with ⟨b0, hs⟩ | ⟨b0, hs⟩
  ·refine c_condT (congrArg Value.bool b0) ?_
   refine c_sr ?_
   refine pl_val (.int .i64 (-1)) (y_assign rfl) ?_
   refine c_nil ?_
   refine wp_ret ?_
   cases hs
   exact ⟨_, fr_ovl 48 ⟨rfl, trivial⟩, hC⟩
  refine c_condF (congrArg Value.bool b0) ?_
  refine c_sr ?_
  refine pl_val (.slice pa0 pn0 pc0) (y_move rfl) ?_
  refine pl_val (.int .i64 (s_.length : Int)) (y_len' Sl25 (rs_len h0) rfl) ?_
  refine pl_val (.slice pa1 pn1 pc1) (y_move rfl) ?_
  refine pl_val (.int .i64 (t.length : Int)) (y_len' Sl25 (rs_len h1) rfl) ?_
  refine pl_val (.bool (decide ((t.length : Int) < (s_.length : Int)))) (y_gtr rfl rfl) ?_
  refine pl_val (.bool (decide ((t.length : Int) < (s_.length : Int)))) (y_assign rfl) ?_
  refine c_nil ?_
  rcases bif_some hs with ⟨b1, hs⟩ | ⟨b1, hs⟩
  ·refine c_condT (congrArg Value.bool b1) ?_
   refine c_sr ?_
   refine pl_val (.int .i64 1) (y_assign rfl) ?_
   refine c_nil ?_
   refine wp_ret ?_
   cases hs
   exact ⟨_, fr_ovl 48 ⟨rfl, trivial⟩, hC⟩
  refine c_condF (congrArg Value.bool b1) ?_
  refine wp_skip ?_
  refine c_sr ?_
  refine pl_val (.int .i64 0) (y_assign rfl) ?_
  refine c_nil ?_
  refine wp_ret ?_
  cases hs
  exact ⟨_, fr_ovl 48 ⟨rfl, trivial⟩, hC⟩

theorem Bd96 : Bodied Try.prog 96 := bodied Try.func96 (by kernel_rfl) rfl

def k_impl_compareTerms (M : Nat → Prop) (w0 : World) (r : Int) (a : Act) (w : World) : Prop :=
  ∃ (σ : Nat → Value) , a = fr 20 (ovl σ [(4, (.int .i64 r))]) ∧ Chg [] w0 w
def s_impl_compareTerms (s_ : List Int) (t : List Int) : Option (Int) :=
  (bif (decide ((s_.length : Int) < (t.length : Int))) then some (-1) else (bif (decide ((t.length : Int) < (s_.length : Int))) then some 1 else (s_impl_compareLists s_ t).bind fun r6 =>
  some r6))
set_option maxHeartbeats 4000000 in
theorem c_impl_compareTerms {M : Nat → Prop} {w : World} {pa0 : Option Addr} {pn0 pc0 : Nat} {pa1 : Option Addr} {pn1 pc1 : Nat} (s_ : List Int) (t : List Int) (h0 : (RT.rs (RT.int .i64)).val M w (.slice pa0 pn0 pc0) s_ ([])) (h1 : (RT.rs (RT.int .i64)).val M w (.slice pa1 pn1 pc1) t ([])) (hM : ∀ g, w.heap.size ≤ g → M g) {r : Int} (hs : s_impl_compareTerms s_ t = some r) :
    Gives Try.prog 78 [(.slice pa0 pn0 pc0), (.slice pa1 pn1 pc1)] w (fun v w' => v = (.int .i64 r) ∧ Chg [] w w') := by
 refine calls_fr Try.func78 rfl Try.ntmps78 (Nat.le_of_ble_eq_true rfl) ?_
 have hO := Own.start (N := Nw w []) hM Nw.fut
 have hC := Chg.refl [] w
 unfold s_impl_compareTerms at hs
 refine wp_mono (Q := KPost (k_impl_compareTerms M w r)) ?_ (fun e a a4 h => ?_)
 rotate_left
 ·cases e
  case ret =>
   obtain ⟨σ, rfl, hrest⟩ := h
   exact ret1x Try.results78 (res_tmp rfl) ⟨rfl, hrest⟩
  all_goals exact (h : False).elim
 refine c_sr ?_
 refine pl_val (.int .i64 0) (y_assign rfl) ?_
 refine c_nil ?_
 refine c_seq ?_
 refine wp_block ?_
 refine c_sr ?_
 refine pl_val (.slice pa0 pn0 pc0) (y_move rfl) ?_
 refine pl_val (.int .i64 (s_.length : Int)) (y_len' Sl25 (rs_len h0) rfl) ?_
 refine pl_val (.slice pa1 pn1 pc1) (y_move rfl) ?_
 refine pl_val (.int .i64 (t.length : Int)) (y_len' Sl25 (rs_len h1) rfl) ?_
 refine pl_val (.bool (decide ((s_.length : Int) < (t.length : Int)))) (y_lss rfl rfl) ?_
 refine pl_val (.bool (decide ((s_.length : Int) < (t.length : Int)))) (y_assign rfl) ?_
 refine c_nil ?_
 rcases bif_some hs with ⟨a1, hs⟩ | ⟨a1, hs⟩
 ·refine c_condT (congrArg Value.bool a1) ?_
  refine c_sr ?_
  refine pl_val (.int .i64 (-1)) (y_assign rfl) ?_
  refine c_nil ?_
  refine wp_ret ?_
  cases hs
  exact ⟨_, fr_ovl 20 ⟨rfl, trivial⟩, hC⟩
 refine c_condF (congrArg Value.bool a1) ?_
 refine c_sr ?_
 refine pl_val (.slice pa0 pn0 pc0) (y_move rfl) ?_
 refine pl_val (.int .i64 (s_.length : Int)) (y_len' Sl25 (rs_len h0) rfl) ?_
 refine pl_val (.slice pa1 pn1 pc1) (y_move rfl) ?_
 refine pl_val (.int .i64 (t.length : Int)) (y_len' Sl25 (rs_len h1) rfl) ?_
 refine pl_val (.bool (decide ((t.length : Int) < (s_.length : Int)))) (y_gtr rfl rfl) ?_
 refine pl_val (.bool (decide ((t.length : Int) < (s_.length : Int)))) (y_assign rfl) ?_
 refine c_nil ?_
 rcases bif_some hs with ⟨a2, hs⟩ | ⟨a2, hs⟩
 ·refine c_condT (congrArg Value.bool a2) ?_
  refine c_sr ?_
  refine pl_val (.int .i64 1) (y_assign rfl) ?_
  refine c_nil ?_
  refine wp_ret ?_
  cases hs
  exact ⟨_, fr_ovl 20 ⟨rfl, trivial⟩, hC⟩
 refine c_condF (congrArg Value.bool a2) ?_
 refine wp_skip ?_
 refine c_sr ?_
 refine pl_val (.slice pa0 pn0 pc0) (y_move rfl) ?_
 refine pl_val (.slice pa1 pn1 pc1) (y_move rfl) ?_
 obtain ⟨r6, a3, hs⟩ := bind_some hs
 refine pl_call Bd96 rfl (c_impl_compareLists (M := M) s_ t h0 h1 hO.fut a3) ?_
 rintro _ a5 ⟨rfl, a0⟩
 have h0 := h0.ext a0
 have h1 := h1.ext a0
 have hC := hC.ext a0
 have hO := hO.ext a0
 refine pl_val (.int .i64 r6) (y_assign rfl) ?_
 refine c_nil ?_
 refine wp_ret ?_
 cases hs
 exact ⟨_, fr_ovl 20 ⟨rfl, trivial⟩, hC⟩

theorem Bd74 : Bodied Try.prog 74 := bodied Try.func74 (by kernel_rfl) rfl

theorem Bd68 : Bodied Try.prog 68 := bodied Try.func68 (by kernel_rfl) rfl

theorem Bd75 : Bodied Try.prog 75 := bodied Try.func75 (by kernel_rfl) rfl

theorem Bd76 : Bodied Try.prog 76 := bodied Try.func76 (by kernel_rfl) rfl

theorem Zv4 : ∀ w, (zeroValue 4).run Try.prog w = .ok (Value.bool false) w := fun _ => by kernel_rfl

theorem Ag100 : AggT Try.prog 100 false := fun _ => by kernel_rfl

theorem Sz100 : SzT Try.prog 100 1 := ⟨_, rfl, rfl⟩

theorem Bd78 : Bodied Try.prog 78 := bodied Try.func78 (by kernel_rfl) rfl

def k_impl_sortRows_1__impl_compareTerms (M : Nat → Prop) (w0 : World) (r : Bool) (a : Act) (w : World) : Prop :=
  ∃ (σ : Nat → Value) , a = fr 18 (ovl σ [(6, (.bool r))]) ∧ Chg [] w0 w
def s_impl_sortRows_1__impl_compareTerms (tab1 : List (List Int)) (i : Int) (j : Int) : Option (Bool) :=
  (idx tab1 i).bind fun x5 =>
  (idx tab1 j).bind fun x9 =>
  (s_impl_compareTerms x5 x9).bind fun r14 =>
  some (decide (r14 < 0))
set_option maxHeartbeats 4000000 in
theorem c_impl_sortRows_1__impl_compareTerms {M : Nat → Prop} {w : World} {gv0 : Nat} {pa1 : Option Addr} {pn1 pc1 : Nat} {gv1 : Nat} (tab1 : List (List Int)) (i : Int) (j : Int) (hbgv0 : BoxV w gv0 100 [(.func (.func 78) #[] #[])]) (h1 : (RT.rs (RT.rs (RT.int .i64))).val M w (.slice pa1 pn1 pc1) tab1 ([])) (hbgv1 : BoxV w gv1 49 [(.slice pa1 pn1 pc1)]) (hM : ∀ g, w.heap.size ≤ g → M g) {r : Bool} (hs : s_impl_sortRows_1__impl_compareTerms tab1 i j = some r) :
    Gives Try.prog 95 [(.int .i64 i), (.int .i64 j), (.pointer (some ⟨gv0, 0, none⟩)), (.pointer (some ⟨gv1, 0, none⟩))] w (fun v w' => v = (.bool r) ∧ Chg [] w w') := by
 refine calls_fr Try.func95 rfl Try.ntmps95 (Nat.le_of_ble_eq_true rfl) ?_
 have hO := Own.start (N := Nw w []) hM Nw.fut
 have hC := Chg.refl [] w
 unfold s_impl_sortRows_1__impl_compareTerms at hs
 refine wp_mono (Q := KPost (k_impl_sortRows_1__impl_compareTerms M w r)) ?_ (fun e a c4 h => ?_)
 rotate_left
 ·cases e
  case ret =>
   obtain ⟨σ, rfl, hrest⟩ := h
   exact ret1x Try.results95 (res_tmp rfl) ⟨rfl, hrest⟩
  all_goals exact (h : False).elim
 refine c_sr ?_
 refine pl_val (.bool false) (y_assign rfl) ?_
 refine c_nil ?_
 refine c_seq ?_
 refine x_start [9] Mx rfl ?_
 have a1 := Chg.drew w
 generalize World.drew w = a4 at a1 ⊢
 have hbgv0 := hbgv0.cn a1
 have h1 := h1.ext a1
 have hbgv1 := hbgv1.cn a1
 have hC := hC.ext a1
 have hO := hO.ext a1
 have hS := Chg.refl [] a4
 refine x_l 0 (.func (.func 78) #[] #[]) rfl (by kernel_rfl)  (fun w' hw' => y_load rfl ((box_load Ag100 Sz100 hbgv0 [] [(.func (.func 78) #[] #[])] [] rfl rfl (fun _ => rfl)) w' hw')) hS ?_
 refine x_l 1 (.slice pa1 pn1 pc1) rfl (by kernel_rfl)  (fun w' hw' => y_load rfl ((box_load Ag49 Sz49 hbgv1 [] [(.slice pa1 pn1 pc1)] [] rfl rfl (fun _ => rfl)) w' hw')) hS ?_
 refine x_p 2 (.int .i64 i) rfl (by kernel_rfl)  (fun _ => y_move rfl) (fun _ => hS) ?_
 obtain ⟨x5, a5, hs⟩ := bind_some hs
 obtain ⟨a6, a7, a8, a9⟩ := rs_idx Sl49 Sz25 h1 a5
 refine x_p 3 (.pointer (some ⟨a6, a7, none⟩)) rfl (by kernel_rfl)  (fun _ => a8 _ _ _ _ _ _ _ _ _ rfl rfl) (fun _ => hS) ?_
 obtain ⟨c5, b0, a2⟩ := at_load Ag25 Sz25 (fun _ => rfl) a9
 obtain ⟨b1, b2, b3, rfl⟩ := rs_sl a2
 refine x_l 4 (.slice b1 b2 b3) rfl (by kernel_rfl)  (fun w' hw' => y_load rfl (b0 w' hw')) hS ?_
 refine x_l 5 (.slice pa1 pn1 pc1) rfl (by kernel_rfl)  (fun w' hw' => y_load rfl ((box_load Ag49 Sz49 hbgv1 [] [(.slice pa1 pn1 pc1)] [] rfl rfl (fun _ => rfl)) w' hw')) hS ?_
 refine x_p 6 (.int .i64 j) rfl (by kernel_rfl)  (fun _ => y_move rfl) (fun _ => hS) ?_
 obtain ⟨x9, b4, hs⟩ := bind_some hs
 obtain ⟨b5, b6, b7, b8⟩ := rs_idx Sl49 Sz25 h1 b4
 refine x_p 7 (.pointer (some ⟨b5, b6, none⟩)) rfl (by kernel_rfl)  (fun _ => b7 _ _ _ _ _ _ _ _ _ rfl rfl) (fun _ => hS) ?_
 obtain ⟨c6, b9, a3⟩ := at_load Ag25 Sz25 (fun _ => rfl) b8
 obtain ⟨c0, c1, c2, rfl⟩ := rs_sl a3
 refine x_l 8 (.slice c0 c1 c2) rfl (by kernel_rfl)  (fun w' hw' => y_load rfl (b9 w' hw')) hS ?_
 refine x_one (i := 9) (by kernel_rfl) ?_
 obtain ⟨r14, c3, hs⟩ := bind_some hs
 refine xk_callv (b := true) rfl  (h := rfl) Bd78 rfl (c_impl_compareTerms (M := M) x5 x9 a2 a3 hO.fut c3) rfl (fun h => nomatch h) ?_
 rintro _ c7 ⟨rfl, a0⟩
 have hbgv0 := hbgv0.cn a0
 have h1 := h1.ext a0
 have hbgv1 := hbgv1.cn a0
 have a2 := a2.ext a0
 have a3 := a3.ext a0
 have hC := hC.ext a0
 have hO := hO.ext a0
 refine x_p 10 (.bool (decide (r14 < 0))) rfl (by kernel_rfl)  (fun _ => y_lss rfl rfl) (fun h => nomatch h) ?_
 refine x_p 11 (.bool (decide (r14 < 0))) rfl (by kernel_rfl)  (fun _ => y_assign rfl) (fun h => nomatch h) ?_
 refine x_end (by kernel_rfl) ?_
 clear hS
 refine wp_ret ?_
 cases hs
 exact ⟨_, fr_ovl 18 ⟨rfl, trivial⟩, hC⟩

theorem Fx99 : ∀ args W, (callFunc 99 args).run Try.prog W = (((fun args : Array Value => Extern.ReflectliteValue.unpack (args.getD 0 (.tuple #[]))) args).run Try.prog W).andThen fun v w' => .ok (.value v) w' := fun args W => run_callFunc_extern Try.func99 (by kernel_rfl) (by kernel_rfl) (by kernel_rfl) (e := (fun args : Array Value => Extern.ReflectliteValue.unpack (args.getD 0 (.tuple #[])))) (by kernel_rfl) args W

theorem Ti49 : ∃ i, Try.prog.info? 49 = some i ∧ i.desc = .slice 25 := ⟨(Try.prog.info? 49).get (by kernel_rfl), by kernel_rfl, by kernel_rfl⟩

theorem Sz116 : SzT Try.prog 116 3 := ⟨_, rfl, rfl⟩

theorem Fx100 : ∀ args W, (callFunc 100 args).run Try.prog W = (((Extern.ReflectliteSwapper.swapper "internal/reflectlite" (Extern.ReflectliteValue.valueError "Swapper")) args).run Try.prog W).andThen fun v w' => .ok (.value v) w' := fun args W => run_callFunc_extern Try.func100 (by kernel_rfl) (by kernel_rfl) (by kernel_rfl) (e := (Extern.ReflectliteSwapper.swapper "internal/reflectlite" (Extern.ReflectliteValue.valueError "Swapper"))) (by kernel_rfl) args W

theorem Ke25 : ∀ w, (Extern.Rtype.kind 25).run Try.prog w = .ok 23 w := fun _ => by kernel_rfl

theorem Ag116 : AggT Try.prog 116 true := fun _ => by kernel_rfl

theorem Fx102 : ∀ args W, (callFunc 102 args).run Try.prog W = (((Extern.ReflectliteValue.method (Extern.ReflectliteValue.valueError "reflectlite.Value.Len" 0) Extern.ReflectliteValue.len) args).run Try.prog W).andThen fun v w' => .ok (.value v) w' := fun args W => run_callFunc_extern Try.func102 (by kernel_rfl) (by kernel_rfl) (by kernel_rfl) (e := (Extern.ReflectliteValue.method (Extern.ReflectliteValue.valueError "reflectlite.Value.Len" 0) Extern.ReflectliteValue.len)) (by kernel_rfl) args W

theorem Pk49 : Try.prog.packed 49 = false := by kernel_rfl

theorem Bd101 : Bodied Try.prog 101 := bodied Try.func101 (by kernel_rfl) rfl

def k_sort_SliceStable (M : Nat → Prop) (w0 : World) {α_ : Type} (I_ : World → List α_ → Prop) (G_ : List Nat) (r : (List α_)) (a : Act) (w : World) : Prop :=
  ∃ (σ : Nat → Value) , a = fr 16 (ovl σ []) ∧ Chg (G_ ++ ([])) w0 w ∧ I_ w r
def s_sort_SliceStable {α_ : Type} (ls_ : α_ → α_ → Option Bool) (d_ : List α_) (n_ : Nat) : Option ((List α_)) :=
  (s_sort_stable_func ls_ d_ (n_ : Int)).bind fun r7 =>
  some r7
set_option maxHeartbeats 4000000 in
theorem c_sort_SliceStable {M : Nat → Prop} {w : World} {a_ : Option Addr} {c_ : Nat} {ie_ : TypeInfo} {α_ : Type} {n0_ : Nat} {I_ : World → List α_ → Prop} {G_ : List Nat} {g_ sf_ : Nat} {lb_ : Array Value} (ls_ : α_ → α_ → Option Bool) (d_ : List α_) (n_ : Nat) (hN_ : n0_ ≤ w.heap.size) (hie_ : Try.prog.info? 25 = some ie_) (hf_ : Try.prog.funcs.findIdx? (·.name == "internal/reflectlite" ++ ".Swapper$" ++ toString (Go.Lib.swapperK n_ ie_ 23)) = some sf_) (hE_ : Env Try.prog n0_ I_ G_ ls_ g_ lb_ sf_ (if Go.Lib.swapperK n_ ie_ 23 ≤ 2 then #[] else #[.slice a_ n_ c_, typeHandle Try.prog 25])) (hI_ : I_ w d_) (hI : Own (Nw w (G_ ++ ([]))) M w (G_ ++ ([]))) (hM : ∀ g, w.heap.size ≤ g → M g) {r : (List α_)} (hs : s_sort_SliceStable ls_ d_ n_ = some r) :
    Gives Try.prog 94 [(.iface 49 (.slice a_ n_ c_)), (.func (.func g_) #[] lb_)] w (fun v w' => v = (.tuple #[]) ∧ Chg (G_ ++ ([])) w w' ∧ I_ w' r) := by
 refine calls_fr Try.func94 rfl Try.ntmps94 (Nat.le_of_ble_eq_true rfl) ?_
 have hO := hI
 have hC := Chg.refl (G_ ++ ([])) w
 unfold s_sort_SliceStable at hs
 refine wp_mono (Q := KPostN (k_sort_SliceStable M w I_ G_ r)) ?_ (fun e a a6 h => ?_)
 rotate_left
 ·cases e
  case ret =>
   obtain ⟨σ, rfl, hrest⟩ := h
   exact ret0x Try.results94  ⟨rfl, hrest⟩
  case normal =>
   obtain ⟨σ, rfl, hrest⟩ := h
   exact ret0n Try.results94  ⟨rfl, hrest⟩
  all_goals exact (h : False).elim
 refine c_sr ?_
 refine pl_val (.iface 49 (.slice a_ n_ c_)) (y_move rfl) ?_
 obtain ⟨b3, b4, b5⟩ := Ti49
 obtain ⟨a6, a1, b6, a9, a7, a0⟩ := new_block w [(.slice a_ n_ c_)] 49
 refine pl_val (w' := a6) (.agg #[(typeHandle Try.prog 49), (.pointer (some ⟨a1, 0, none⟩)), (.int .u64 151)]) (y_callg rfl rfl (by rw [Fx99]; show Result.andThen (Sem.run Try.prog (Extern.ReflectliteValue.unpack (.iface 49 (.slice a_ n_ c_))) _) _ = _; rw [Go.Lib.run_valueOf_slice 49 25 b3 b4 b5, b6, a9]; rfl)) ?_
 have hI_ := hE_.ext hI_ a7 (fun _ h => nomatch h)
 have hC := hC.ext a7
 have hO := hO.new1 a7 a9 a0.lt
 obtain ⟨b7, a8, b8, b0, a3, b1⟩ := new_block a6 [(.pointer none), (.pointer none), (.int .u64 0)] 116
 refine pl_val (w' := b7) (.pointer (some ⟨a8, 0, none⟩)) (y_alloc (by rw [b8, b0]; kernel_rfl)) ?_
 have hI_ := hE_.ext hI_ a3 (fun _ h => nomatch h)
 have a0 := a0.cn a3
 have hC := hC.ext a3
 have hO := hO.new1 a3 b0 b1.lt
 obtain ⟨b2, b9, a4, a2⟩ := box_store (P := Try.prog) b1 [] [(.pointer none), (.pointer none), (.int .u64 0)] [] [(typeHandle Try.prog 49), (.pointer (some ⟨a1, 0, none⟩)), (.int .u64 151)] rfl rfl (by intro u hu; simp only [List.mem_cons, List.not_mem_nil, or_false] at hu; rcases hu with rfl | rfl | rfl <;> rfl)
 refine pl_skip (w' := b2) (ys_store rfl rfl (b9 _ _ rfl Sz116)) ?_
 have hI_ := hE_.ext hI_ a4 (fun q hq => Nat.le_trans hN_ ((hO.inN q ((fun _ h => h) q hq)).resolve_left (fun e => hO.apart q ((fun _ h => h) q hq) (mem_r (mem_l (nil_mem q e))))))
 have a0 := a0.ap a4 hO same_ (mem_l (List.mem_singleton.2 rfl))
 have hC := hC.st a4 hO same_
 have hO := hO.ext a4
 have a2 : BoxV b2 a8 116 [(typeHandle Try.prog 49), (.pointer (some ⟨a1, 0, none⟩)), (.int .u64 151)] := a2
 refine c_nil ?_
 refine c_sr ?_
 refine pl_val (.iface 49 (.slice a_ n_ c_)) (y_move rfl) ?_
 obtain ⟨c0, c1, c2⟩ := Ti49
 refine pl_val (.func (.func sf_) #[] (if Go.Lib.swapperK n_ ie_ 23 ≤ 2 then #[] else #[.slice a_ n_ c_, typeHandle Try.prog 25])) ((y_callg rfl rfl (by rw [Fx100]; show Result.andThen (Sem.run Try.prog (Extern.ReflectliteSwapper.swapper "internal/reflectlite" (Extern.ReflectliteValue.valueError "Swapper") #[(.iface 49 (.slice a_ n_ c_))]) _) _ = _; rw [Go.Lib.run_swapper_slice 49 25 c0 ie_ c1 c2 hie_ 23 Ke25 a_ n_ c_ sf_ hf_]; rfl))) ?_
 refine pl_val (.func (.func sf_) #[] (if Go.Lib.swapperK n_ ie_ 23 ≤ 2 then #[] else #[.slice a_ n_ c_, typeHandle Try.prog 25])) (y_assign rfl) ?_
 refine c_nil ?_
 refine c_region ?_
 refine pl_val (.func (.func g_) #[] lb_) (y_move rfl) ?_
 refine pl_val (.func (.func sf_) #[] (if Go.Lib.swapperK n_ ie_ 23 ≤ 2 then #[] else #[.slice a_ n_ c_, typeHandle Try.prog 25])) (y_move rfl) ?_
 refine pl_val (.agg #[(.func (.func g_) #[] lb_), (.func (.func sf_) #[] (if Go.Lib.swapperK n_ ie_ 23 ≤ 2 then #[] else #[.slice a_ n_ c_, typeHandle Try.prog 25]))]) (y_build rfl (by kernel_rfl)) ?_
 refine pl_val (.agg #[(typeHandle Try.prog 49), (.pointer (some ⟨a1, 0, none⟩)), (.int .u64 151)]) (y_load rfl ((box_load Ag116 Sz116 a2 [] [(typeHandle Try.prog 49), (.pointer (some ⟨a1, 0, none⟩)), (.int .u64 151)] [] rfl rfl (fun h => nomatch h)) _ (Chg.refl _ _))) ?_
 obtain ⟨c3, c4, c5⟩ := Ti49
 refine pl_val (.int .i64 (n_ : Int)) ((y_callg rfl rfl (by rw [Fx102]; show Result.andThen (Sem.run Try.prog (Extern.ReflectliteValue.method (Extern.ReflectliteValue.valueError "reflectlite.Value.Len" 0) Extern.ReflectliteValue.len #[(.agg #[(typeHandle Try.prog 49), (.pointer (some ⟨a1, 0, none⟩)), (.int .u64 151)])]) _) _ = _; rw [Go.Lib.run_valueLen_slice 49 25 c3 c4 c5 Pk49 _ _ _ _ _ (box_cell a0)]; rfl))) ?_
 have hO := hO.fr2
 have c6 := Own.lend (F := (G_ ++ ([]))) (R := ([a8]) ++ (([a1]) ++ ([]))) (Own.perm hO (by simp))
 obtain ⟨r7, c7, hs⟩ := bind_some hs
 refine pl_call Bd101 rfl (c_sort_stable_func (M := M) ls_ d_ (n_ : Int) (Nat.le_trans hN_ hC.size) hE_ hI_ c6 hO.fut c7) ?_
 rintro _ c9 ⟨rfl, a5, c8⟩
 have a0 := a0.ap a5 hO nil_mem (mem_r (mem_l (List.mem_singleton.2 rfl)))
 have a2 := a2.ap a5 hO nil_mem (mem_l (List.mem_singleton.2 rfl))
 have hC := hC.st a5 hO nil_mem
 have hO := hO.ext a5
 refine c_nil ?_
 cases hs
 exact ⟨_, fr_ovl 16 trivial, hC, c8⟩

theorem Ei25 : ∃ ie, Try.prog.info? 25 = some ie ∧ ie.size = 1 ∧ ie.hasPointers = true ∧ (ie.bytes == 8) = false := ⟨(Try.prog.info? 25).get (by kernel_rfl), by kernel_rfl, by kernel_rfl, by kernel_rfl, by kernel_rfl⟩

theorem Fs2 : ∀ W, (callFunc 105 #[.int .i64 0, .int .i64 0]).run Try.prog W = .ok (.value (.tuple #[])) W := fun W => (run_callFunc_extern Try.func105 (by kernel_rfl) (by kernel_rfl) (by kernel_rfl) (e := (Extern.find Try.f105).get (by kernel_rfl)) (by kernel_rfl) _ W).trans (by kernel_rfl)

theorem Fx112 : ∀ args W, (callFunc 112 args).run Try.prog W = (((Extern.ReflectliteSwapper.swap false) args).run Try.prog W).andThen fun v w' => .ok (.value v) w' := fun args W => run_callFunc_extern Try.func112 (by kernel_rfl) (by kernel_rfl) (by kernel_rfl) (e := (Extern.ReflectliteSwapper.swap false)) (by kernel_rfl) args W

theorem Sn1 : Try.prog.funcs.findIdx? (·.name == "internal/reflectlite" ++ ".Swapper$" ++ toString 1) = some 104 := by kernel_rfl

theorem Sn2 : Try.prog.funcs.findIdx? (·.name == "internal/reflectlite" ++ ".Swapper$" ++ toString 2) = some 105 := by kernel_rfl

theorem Sn9 : Try.prog.funcs.findIdx? (·.name == "internal/reflectlite" ++ ".Swapper$" ++ toString 9) = some 112 := by kernel_rfl

theorem Bd95 : Bodied Try.prog 95 := bodied Try.func95 (by kernel_rfl) rfl

theorem Bd94 : Bodied Try.prog 94 := bodied Try.func94 (by kernel_rfl) rfl

def k_impl_sortRows__impl_compareTerms (M : Nat → Prop) (w0 : World) (qa0 : Option Addr) (qn0 qc0 : Nat) (qf0 : List Nat) (r : (List (List Int))) (a : Act) (w : World) : Prop :=
  ∃ (σ : Nat → Value) (rfi0 : List Nat), a = fr 8 (ovl σ []) ∧ Chg (qf0 ++ ([])) w0 w ∧ (RT.os 25 (RT.os 3 (RT.int .i64))).val M w (.slice qa0 qn0 qc0) r rfi0 ∧ Own (Nw w0 (qf0 ++ ([]))) (fun _ => True) w (rfi0 ++ ([]))
def s_impl_sortRows__impl_compareTerms (rows : List (List Int)) : Option ((List (List Int))) :=
  (s_sort_SliceStable (fun x_ y_ => (s_impl_compareTerms x_ y_).bind fun r_ => some (decide (r_ < 0))) rows (rows.length)).bind fun r5 =>
  some r5
set_option maxHeartbeats 4000000 in
theorem c_impl_sortRows__impl_compareTerms {M : Nat → Prop} {w : World} {pa0 : Option Addr} {pn0 pc0 : Nat} {pf0 : List Nat} (rows : List (List Int)) (h0 : (RT.os 25 (RT.os 3 (RT.int .i64))).val M w (.slice pa0 pn0 pc0) rows pf0) (hI : Own (Nw w (pf0 ++ ([]))) M w (pf0 ++ ([]))) (hM : ∀ g, w.heap.size ≤ g → M g) {r : (List (List Int))} (hs : s_impl_sortRows__impl_compareTerms rows = some r) :
    Gives Try.prog 77 [(.slice pa0 pn0 pc0), (.func (.func 78) #[] #[])] w (fun v w' => ∃ (rfi0 : List Nat), v = (.tuple #[]) ∧ Chg (pf0 ++ ([])) w w' ∧ (RT.os 25 (RT.os 3 (RT.int .i64))).val M w' (.slice pa0 pn0 pc0) r rfi0 ∧ Own (Nw w (pf0 ++ ([]))) (fun _ => True) w' (rfi0 ++ ([]))) := by
 refine calls_fr Try.func77 rfl Try.ntmps77 (Nat.le_of_ble_eq_true rfl) ?_
 have hO := hI
 have hC := Chg.refl (pf0 ++ ([])) w
 unfold s_impl_sortRows__impl_compareTerms at hs
 refine wp_mono (Q := KPostN (k_impl_sortRows__impl_compareTerms M w pa0 pn0 pc0 pf0 r)) ?_ (fun e a c5 h => ?_)
 rotate_left
 ·cases e
  case ret =>
   obtain ⟨σ, rfi0, rfl, hrest⟩ := h
   exact ret0x Try.results77  ⟨rfi0, rfl, hrest⟩
  case normal =>
   obtain ⟨σ, rfi0, rfl, hrest⟩ := h
   exact ret0n Try.results77  ⟨rfi0, rfl, hrest⟩
  all_goals exact (h : False).elim
 refine c_sr ?_
 obtain ⟨b0, a1, b4, b1, a6, a0⟩ := new_block w [(.slice pa0 pn0 pc0)] 49
 refine pl_val (w' := b0) (.pointer (some ⟨a1, 0, none⟩)) (y_box rfl (by rw [b4, b1]; kernel_rfl)) ?_
 have h0 := h0.ext a6
 have hC := hC.ext a6
 have hO := hO.new1 a6 b1 a0.lt
 obtain ⟨a7, a2, b5, b2, a4, a3⟩ := new_block b0 [(.func (.func 78) #[] #[])] 100
 refine pl_val (w' := a7) (.pointer (some ⟨a2, 0, none⟩)) (y_box rfl (by rw [b5, b2]; kernel_rfl)) ?_
 have h0 := h0.ext a4
 have a0 := a0.cn a4
 have hC := hC.ext a4
 have hO := hO.new1 a4 b2 a3.lt
 refine c_nil ?_
 refine c_region ?_
 refine pl_val (.slice pa0 pn0 pc0) (y_load rfl ((box_load Ag49 Sz49 a0 [] [(.slice pa0 pn0 pc0)] [] rfl rfl (fun _ => rfl)) _ (Chg.refl _ _))) ?_
 refine pl_val (.iface 49 (.slice pa0 pn0 pc0)) (y_iface Try.underlying49 rfl) ?_
 refine pl_val (.func (.func 95) #[] #[(.pointer (some ⟨a2, 0, none⟩)), (.pointer (some ⟨a1, 0, none⟩))]) (y_func rfl rfl) ?_
 have hO := hO.fr2
 obtain ⟨c6, b3, b6, a8, b7⟩ := Ei25
 have b8 := os_n h0
 obtain ⟨c7, b9, c0⟩ := sort_env (P := Try.prog) (ke := 23) (M := M) (gO := a2) (gR := a1) (tO := 100) (tR := 49) (fv := (.func (.func 78) #[] #[])) (ls := (fun x_ y_ => (s_impl_compareTerms x_ y_).bind fun r_ => some (decide (r_ < 0)))) (g := 95) (lb := #[(.pointer (some ⟨a2, 0, none⟩)), (.pointer (some ⟨a1, 0, none⟩))]) rfl b3 b6 Ag25 a8 b7 rfl Sn1 Sn2 Sn9 Fs2 Fx112 Bd95 hO.inM (fun hg => hO.apart _ hg (mem_l (List.mem_singleton.2 rfl))) (fun hg => hO.apart _ hg (mem_r (mem_l (List.mem_singleton.2 rfl)))) (fun h hm ho hr hf hl => c_impl_sortRows_1__impl_compareTerms (M := Less M _) _ _ _ ho (((Frz.os (Frz.os Frz.int))).val h Less.sub Less.not) hr (less_fut hf h.fpl) (show s_impl_sortRows_1__impl_compareTerms _ _ _ = some _ from hl)) h0 (n0 := (a7).heap.size) hO.lt a3.lt a0.lt hO.fut
 have c1 : SortI (RT.os 3 (RT.int .i64)) 25 M pa0 pn0 pc0 pf0 a2 a1 100 49 (.func (.func 78) #[] #[]) a7 rows := ⟨⟨_, h0, List.Perm.refl _⟩, a3, a0, hO.fut⟩
 have c2 := Own.lend (F := (pf0 ++ ([]))) (R := ([a2]) ++ (([a1]) ++ ([]))) (Own.perm hO (by simp))
 obtain ⟨r5, c3, hs⟩ := bind_some hs
 refine pl_call Bd94 rfl (c_sort_SliceStable (M := M) (fun x_ y_ => (s_impl_compareTerms x_ y_).bind fun r_ => some (decide (r_ < 0))) rows pn0 (Nat.le_refl _) b3 b9 c0 c1 c2 hO.fut (by rw [b8]; exact c3)) ?_
 rintro _ c8 ⟨rfl, a5, ⟨⟨c4, a9, a8⟩, _, _, _⟩⟩
 have a0 := a0.ap a5 hO nil_mem (mem_r (mem_l (List.mem_singleton.2 rfl)))
 have a3 := a3.ap a5 hO nil_mem (mem_l (List.mem_singleton.2 rfl))
 have hC := hC.st a5 hO nil_mem
 have hO := hO.grow a5 (fun q hq => .inl (a8.mem_iff.1 hq)) (os_nodup a9) a9.fpl
 refine c_nil ?_
 cases hs
 have hO := hO.fr1
 have hO := hO.drop
 have hO := hO.fr1
 have hO := hO.drop
 exact ⟨_, c4, fr_ovl 8 trivial, hC, a9, hO.top⟩

theorem Bd77 : Bodied Try.prog 77 := bodied Try.func77 (by kernel_rfl) rfl

theorem Rw43 : RowT Try.prog 43 51 2 [(.int .i64 0), (.slice none 0 0)] := ⟨Try.underlying43, ⟨_, _, rfl, rfl, rfl, rfl, by decide⟩, rfl, by decide⟩

end Go.Proofs
