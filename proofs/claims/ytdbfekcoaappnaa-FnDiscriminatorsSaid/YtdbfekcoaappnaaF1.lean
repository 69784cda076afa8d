/- What functions of the program compute, as plain functions, and that a call gives just that. Conditions: those named in each theorem. -/
import Derived.Test.YtdbfekcoaappnaaF0
set_option linter.unusedVariables false
namespace Go.Proofs
open Go.G Go.RowKit
set_option maxRecDepth 100000

def k_impl_valuesAt (M : Nat → Prop) (w0 : World) (r : (List Int)) (a : Act) (w : World) : Prop :=
  ∃ (σ : Nat → Value) (ra0 : Option Addr) (rn0 rc0 : Nat) (rf0 : List Nat), a = fr 31 (ovl σ [(6, (.slice ra0 rn0 rc0))]) ∧ Chg [] w0 w ∧ (RT.os 3 (RT.int .i64)).val M w (.slice ra0 rn0 rc0) r rf0 ∧ Own (Nw w0 []) (fun _ => True) w (rf0 ++ ([]))
def s_impl_valuesAt (n : Int) (table : List Int) (pattern : List Int) : Option ((List Int)) :=
  (forC (S := (List Int)) (R := (List Int)) (fun k24 s22 =>
  (s_impl_argsAt k24 2 n).bind fun r33 =>
  (s_impl_compose pattern r33).bind fun r36 =>
  (s_impl_indexOf r36 n).bind fun r39 =>
  (idx table r39).bind fun x40 =>
  (app s22 ([x40])).bind fun y45 =>
  some (.nx y45)) 0 (w64 (n * n)) ([])).bind fun o26 => after o26 (fun r_ => some r_) (fun s22 =>
  some s22)
set_option maxHeartbeats 4000000 in
theorem c_impl_valuesAt {M : Nat → Prop} {w : World} {pa0 : Option Addr} {pn0 pc0 : Nat} {pa1 : Option Addr} {pn1 pc1 : Nat} (n : Int) (table : List Int) (pattern : List Int) (h0 : (RT.rs (RT.int .i64)).val M w (.slice pa0 pn0 pc0) table ([])) (h1 : (RT.rs (RT.int .i64)).val M w (.slice pa1 pn1 pc1) pattern ([])) (hM : ∀ g, w.heap.size ≤ g → M g) {r : (List Int)} (hs : s_impl_valuesAt n table pattern = some r) :
    Gives Try.prog 69 [(.int .i64 n), (.slice pa0 pn0 pc0), (.slice pa1 pn1 pc1)] w (fun v w' => ∃ (ra0 : Option Addr) (rn0 rc0 : Nat) (rf0 : List Nat), v = (.slice ra0 rn0 rc0) ∧ Chg [] w w' ∧ (RT.os 3 (RT.int .i64)).val M w' (.slice ra0 rn0 rc0) r rf0 ∧ Own (Nw w []) (fun _ => True) w' (rf0 ++ ([]))) := by
 refine calls_fr Try.func69 rfl Try.ntmps69 (Nat.le_of_ble_eq_true rfl) ?_
 have hO := Own.start (N := Nw w []) hM Nw.fut
 have hC := Chg.refl [] w
 unfold s_impl_valuesAt at hs
 refine wp_mono (Q := KPost (k_impl_valuesAt M w r)) ?_ (fun e a d5 h => ?_)
 rotate_left
 ·cases e
  case ret =>
   obtain ⟨σ, ra0, rn0, rc0, rf0, rfl, hrest⟩ := h
   exact ret1x Try.results69 (res_tmp rfl) ⟨ra0, rn0, rc0, rf0, rfl, hrest⟩
  all_goals exact (h : False).elim
 refine c_sr ?_
 refine pl_val (.slice none 0 0) (y_assign rfl) ?_
 refine c_nil ?_
 refine c_sr ?_
 obtain ⟨c8, a7, d6, c9, b8, d0⟩ := new_block w [] 3
 refine pl_val (w' := c8) (.slice (some ⟨a7, 0, none⟩) 0 0) (y_bslice rfl (by rw [d6, c9]; kernel_rfl)) ?_
 have h0 := h0.ext b8
 have h1 := h1.ext b8
 have hC := hC.ext b8
 have hO := hO.new1 b8 c9 d0.lt
 have c0 := os_of_box (r := (RT.int .i64)) (M := M) (css := []) (fps := []) (xs := ([] : List Int)) d0 trivial (Nat.zero_le _) (List.nodup_cons.2 ⟨(fun h => nomatch h), List.nodup_nil⟩)
 have c0 : (RT.os 3 (RT.int .i64)).val M c8 (.slice (some ⟨a7, 0, none⟩) 0 0) [] [a7] := c0
 refine pl_val (.slice (some ⟨a7, 0, none⟩) 0 0) (y_assign rfl) ?_
 refine c_nil ?_
 refine c_seq ?_
 refine c_sr ?_
 refine pl_val (.int .i64 0) (y_assign rfl) ?_
 refine c_nil ?_
 obtain ⟨o26, d7, hs⟩ := bind_some hs
 refine wp_block ?_
 refine wp_forC (id := 0) (w64 (n * n)) (I := fun k24 s22 a a0 => ∃ (σ : Nat → Value) (a8 : Option Addr) (a9 : Nat) (b0 : Nat) (a4 : List Nat), a = fr 31 (ovl σ [(0, (.int .i64 n)), (1, (.slice pa0 pn0 pc0)), (2, (.slice pa1 pn1 pc1)), (7, (.slice a8 a9 b0)), (8, (.int .i64 k24))]) ∧ Chg [] w a0 ∧ Own (Nw w []) M a0 (a4 ++ []) ∧ (RT.rs (RT.int .i64)).val M a0 (.slice pa0 pn0 pc0) table ([]) ∧ (RT.rs (RT.int .i64)).val M a0 (.slice pa1 pn1 pc1) pattern ([]) ∧ (RT.os 3 (RT.int .i64)).val M a0 (.slice a8 a9 b0) s22 a4) (J := fun s22 a a0 => ∃ (σ : Nat → Value) (b1 : Option Addr) (b2 : Nat) (b3 : Nat) (b9 : List Nat), a = fr 31 (ovl σ [(7, (.slice b1 b2 b3))]) ∧ Chg [] w a0 ∧ Own (Nw w []) M a0 (b9 ++ []) ∧ (RT.rs (RT.int .i64)).val M a0 (.slice pa0 pn0 pc0) table ([]) ∧ (RT.rs (RT.int .i64)).val M a0 (.slice pa1 pn1 pc1) pattern ([]) ∧ (RT.os 3 (RT.int .i64)).val M a0 (.slice b1 b2 b3) s22 b9) (K := (k_impl_valuesAt M w)) ?_ ?_ 0 ([]) o26 _ _ ?_ d7 ?_
 ·rintro k24 s22 a a0 ⟨σ, a8, a9, b0, a4, rfl, hC, hO, h0, h1, a1⟩ hlt
  refine c_seq ?_
  refine c_sr ?_
  refine pl_val (.int .i64 k24) (y_move rfl) ?_
  refine pl_val (.int .i64 n) (y_move rfl) ?_
  refine pl_val (.int .i64 n) (y_move rfl) ?_
  refine pl_val (.int .i64 (w64 (n * n))) (y_mul rfl rfl) ?_
  refine pl_val (.bool (decide (k24 < (w64 (n * n))))) (y_lss rfl rfl) ?_
  refine c_nil ?_
  refine c_condF (congrArg Value.bool (decide_eq_false hlt)) ?_
  refine wp_exit ?_
  exact ⟨rfl, _, a8, a9, b0, a4, fr_ovl 31 ⟨rfl, trivial⟩, hC, hO, h0, h1, a1⟩
 ·rintro k24 s22 o26 a a0 ⟨σ, a8, a9, b0, a4, rfl, hC, hO, h0, h1, a1⟩ hlt hw hs
  refine c_seq ?_
  refine c_sr ?_
  refine pl_val (.int .i64 k24) (y_move rfl) ?_
  refine pl_val (.int .i64 n) (y_move rfl) ?_
  refine pl_val (.int .i64 n) (y_move rfl) ?_
  refine pl_val (.int .i64 (w64 (n * n))) (y_mul rfl rfl) ?_
  refine pl_val (.bool (decide (k24 < (w64 (n * n))))) (y_lss rfl rfl) ?_
  refine c_nil ?_
  refine c_condT (congrArg Value.bool (decide_eq_true hlt)) ?_
  refine wp_skip ?_
  refine c_seq ?_
  refine wp_block ?_
  refine c_region ?_
  refine pl_val (.slice a8 a9 b0) (y_move rfl) ?_
  refine pl_val (.slice pa0 pn0 pc0) (y_move rfl) ?_
  refine pl_val (.slice pa1 pn1 pc1) (y_move rfl) ?_
  refine pl_val (.int .i64 k24) (y_move rfl) ?_
  refine pl_val (.int .i64 n) (y_move rfl) ?_
  obtain ⟨r33, d8, hs⟩ := bind_some hs
  refine pl_call Bd89 rfl (c_impl_argsAt (M := M) k24 2 n  hO.fut d8) ?_
  rintro _ f7 ⟨f8, f9, g0, c1, rfl, b6, a2, d9⟩
  have h0 := h0.ext b6
  have h1 := h1.ext b6
  have a1 := a1.ext b6
  have hC := hC.ext b6
  have hO := Own.join0 hO b6 d9
  have hO := hO.perm (R := c1 ++ (a4 ++ ([]))) (by simp)
  obtain ⟨r36, e0, hs⟩ := bind_some hs
  refine pl_call Bd91 rfl (c_impl_compose (M := (Less M c1)) pattern r33 (h1.sub Less.sub) (((Frz.os Frz.int)).val a2 Less.sub Less.not) hO.less.fut e0) ?_
  rintro _ g1 ⟨g2, g3, g4, d1, rfl, b4, a3, e1⟩
  have h0 := h0.ext b4
  have h1 := h1.ext b4
  have a1 := a1.ext b4
  have a2 := a2.ext b4
  have hC := hC.ext b4
  have hO := Own.join0 hO b4 e1
  have hO := hO.perm (R := d1 ++ (c1 ++ (a4 ++ ([])))) (by simp)
  have a3 := a3.free (M' := M) (Free.os Free.int)
  refine pl_val (.int .i64 n) (y_move rfl) ?_
  obtain ⟨r39, e2, hs⟩ := bind_some hs
  refine pl_call Bd90 rfl (c_impl_indexOf (M := (Less M d1)) r36 n (((Frz.os Frz.int)).val a3 Less.sub Less.not) hO.less.fut e2) ?_
  rintro _ e3 ⟨rfl, a5⟩
  have h0 := h0.ext a5
  have h1 := h1.ext a5
  have a1 := a1.ext a5
  have a2 := a2.ext a5
  have a3 := a3.ext a5
  have hC := hC.ext a5
  have hO := hO.ext a5
  obtain ⟨x40, e4, hs⟩ := bind_some hs
  obtain ⟨e5, e6, e7, e8⟩ := rs_idx Sl25 Sz3 h0 e4
  refine pl_val (.pointer (some ⟨e5, e6, none⟩)) (e7 _ _ _ _ _ _ _ _ _ rfl rfl) ?_
  refine pl_val (.int .i64 x40) (y_load rfl ((at_load_int Ag3 Sz3 e8) _ (Chg.refl _ _))) ?_
  obtain ⟨d2, c2, e9, d3, a6, d4⟩ := new_block e3 [(.int .i64 x40)] 3
  refine pl_val (w' := d2) (.slice (some ⟨c2, 0, none⟩) 1 1) (y_bslice rfl (by rw [e9, d3]; kernel_rfl)) ?_
  have h0 := h0.ext a6
  have h1 := h1.ext a6
  have a1 := a1.ext a6
  have a2 := a2.ext a6
  have a3 := a3.ext a6
  have hC := hC.ext a6
  have hO := hO.new1 a6 d3 d4.lt
  have c3 := os_of_box (r := (RT.int .i64)) (M := M) (css := [[(.int .i64 x40)]]) (fps := [([] : List Nat)]) (xs := ([x40] : List Int)) d4 ⟨⟨rfl, rfl⟩, trivial⟩ (Nat.le_of_ble_eq_true rfl) (List.nodup_cons.2 ⟨(fun h => nomatch h), List.nodup_nil⟩)
  have c3 : (RT.os 3 (RT.int .i64)).val M d2 (.slice (some ⟨c2, 0, none⟩) 1 1) [x40] [c2] := c3
  obtain ⟨y45, f0, hs⟩ := bind_some hs
  have hO := hO.fr3
  obtain ⟨c4, c5, c6, f1, f2, f3, b5, f4, c7⟩ := app_os Rw25 f0 a1 c3 hO.inM (fun g hg hq => hO.apart g hq (mem_l hg))
  have b7 := os_block a1
  refine pl_val (w' := f1) (.slice c4 c5 c6) (y_append rfl rfl (f3 _)) ?_
  have hO := hO.fr1
  have hO := hO.fr1
  have h0 := h0.mt b5 hO b7
  have h1 := h1.mt b5 hO b7
  have a2 := a2.ma b5 hO b7 (fun _ e => (mem_r (mem_r (mem_l (e)))))
  have a3 := a3.ma b5 hO b7 (fun _ e => (mem_r (mem_l (e))))
  have hC := hC.st b5 hO b7
  have hO := hO.eat b5 f4 (os_nodup c7) c7.fpl
  refine pl_val (.slice c4 c5 c6) (y_assign rfl) ?_
  refine c_nil ?_
  refine c_region ?_
  refine pl_val (.int .i64 k24) (y_move rfl) ?_
  refine pl_val (.int .i64 (w64 (k24 + 1))) (y_add rfl rfl) ?_
  refine pl_val (.int .i64 (w64 (k24 + 1))) (y_assign rfl) ?_
  refine c_nil ?_
  cases hs
  have hO := hO.fr1
  have hO := hO.drop
  have hO := hO.fr1
  have hO := hO.drop
  exact ⟨_, c4, c5, c6, f2, fr_ovl 31 ⟨rfl, rfl, rfl, rfl, congrArg (Value.int .i64) hw, trivial⟩, hC, hO, h0, h1, c7⟩
 ·skip
  exact ⟨_, (some ⟨a7, 0, none⟩), 0, 0, ([a7]), fr_ovl 31 ⟨rfl, rfl, rfl, rfl, rfl, trivial⟩, hC, hO, h0, h1, c0⟩
 cases o26 with
 | nx _ => exact True.intro
 | rt r_ =>
  have hs := after_rt hs
  intro f5 d5 hK
  cases hs
  exact hK
 | br s22 =>
  have hs := after_br hs
  rintro f5 a0 ⟨σ, b1, b2, b3, b9, rfl, hC, hO, h0, h1, f6⟩
  refine c_sr ?_
  refine pl_val (.slice b1 b2 b3) (y_move rfl) ?_
  refine pl_val (.slice b1 b2 b3) (y_assign rfl) ?_
  refine c_nil ?_
  refine wp_ret ?_
  cases hs
  exact ⟨_, b1, b2, b3, b9, fr_ovl 31 ⟨rfl, trivial⟩, hC, f6, hO.top⟩

def k_impl_sameList (M : Nat → Prop) (w0 : World) (r : Bool) (a : Act) (w : World) : Prop :=
  ∃ (σ : Nat → Value) , a = fr 26 (ovl σ [(4, (.bool r))]) ∧ Chg [] w0 w
def s_impl_sameList (a_ : List Int) (b : List Int) : Option (Bool) :=
  (bif ((a_.length : Int) != (b.length : Int)) then some false else (forC (S := Unit) (R := Bool) (fun k11 s9 =>
  (idx a_ k11).bind fun x15 =>
  (idx b k11).bind fun x17 =>
  (bif (x17 != x15) then some (.rt false) else some (.nx ()))) 0 (a_.length : Int) ()).bind fun o13 => after o13 (fun r_ => some r_) (fun s9 =>
  some true))
set_option maxHeartbeats 4000000 in
theorem c_impl_sameList {M : Nat → Prop} {w : World} {pa0 : Option Addr} {pn0 pc0 : Nat} {pa1 : Option Addr} {pn1 pc1 : Nat} (a_ : List Int) (b : List Int) (h0 : (RT.rs (RT.int .i64)).val M w (.slice pa0 pn0 pc0) a_ ([])) (h1 : (RT.rs (RT.int .i64)).val M w (.slice pa1 pn1 pc1) b ([])) (hM : ∀ g, w.heap.size ≤ g → M g) {r : Bool} (hs : s_impl_sameList a_ b = some r) :
    Gives Try.prog 42 [(.slice pa0 pn0 pc0), (.slice pa1 pn1 pc1)] w (fun v w' => v = (.bool r) ∧ Chg [] w w') := by
 refine calls_fr Try.func42 rfl Try.ntmps42 (Nat.le_of_ble_eq_true rfl) ?_
 have hO := Own.start (N := Nw w []) hM Nw.fut
 have hC := Chg.refl [] w
 unfold s_impl_sameList at hs
 refine wp_mono (Q := KPost (k_impl_sameList M w r)) ?_ (fun e a a3 h => ?_)
 rotate_left
 ·cases e
  case ret =>
   obtain ⟨σ, rfl, hrest⟩ := h
   exact ret1x Try.results42 (res_tmp rfl) ⟨rfl, hrest⟩
  all_goals exact (h : False).elim
 refine c_sr ?_
 refine pl_val (.bool false) (y_assign rfl) ?_
 refine c_nil ?_
 refine c_seq ?_
 refine c_sr ?_
 refine pl_val (.slice pa0 pn0 pc0) (y_move rfl) ?_
 refine pl_val (.int .i64 (a_.length : Int)) (y_len' Sl25 (rs_len h0) rfl) ?_
 refine pl_val (.slice pa1 pn1 pc1) (y_move rfl) ?_
 refine pl_val (.int .i64 (b.length : Int)) (y_len' Sl25 (rs_len h1) rfl) ?_
 refine pl_val (.bool ((a_.length : Int) != (b.length : Int))) (y_neq rfl rfl) ?_
 refine c_nil ?_
 rcases bif_some hs with ⟨a1, hs⟩ | ⟨a1, hs⟩
 ·refine c_condT (congrArg Value.bool a1) ?_
  refine c_sr ?_
  refine pl_val (.bool false) (y_assign rfl) ?_
  refine c_nil ?_
  refine wp_ret ?_
  cases hs
  exact ⟨_, fr_ovl 26 ⟨rfl, trivial⟩, hC⟩
 refine c_condF (congrArg Value.bool a1) ?_
 refine wp_skip ?_
 refine c_seq ?_
 refine c_sr ?_
 refine pl_val (.slice pa0 pn0 pc0) (y_move rfl) ?_
 refine pl_val (.int .i64 (a_.length : Int)) (y_len' Sl25 (rs_len h0) rfl) ?_
 refine pl_val (.int .i64 0) (y_move rfl) ?_
 refine c_nil ?_
 obtain ⟨o13, a4, hs⟩ := bind_some hs
 refine wp_block ?_
 refine wp_forC (id := 0) (a_.length : Int) (I := fun k11 s9 a a0 => ∃ (σ : Nat → Value), a = fr 26 (ovl σ [(1, (.slice pa1 pn1 pc1)), (12, (.slice pa0 pn0 pc0)), (13, (.int .i64 (a_.length : Int))), (14, (.int .i64 k11))]) ∧ Chg [] w a0 ∧ Own (Nw w []) M a0 ([]) ∧ (RT.rs (RT.int .i64)).val M a0 (.slice pa0 pn0 pc0) a_ ([]) ∧ (RT.rs (RT.int .i64)).val M a0 (.slice pa1 pn1 pc1) b ([])) (J := fun s9 a a0 => ∃ (σ : Nat → Value), a = fr 26 (ovl σ []) ∧ Chg [] w a0 ∧ Own (Nw w []) M a0 ([]) ∧ (RT.rs (RT.int .i64)).val M a0 (.slice pa0 pn0 pc0) a_ ([]) ∧ (RT.rs (RT.int .i64)).val M a0 (.slice pa1 pn1 pc1) b ([])) (K := (k_impl_sameList M w)) ?_ ?_ 0 () o13 _ _ ?_ a4 ?_
 ·rintro k11 s9 a a0 ⟨σ, rfl, hC, hO, h0, h1⟩ hlt
  refine c_sr ?_
  refine pl_val (.bool (decide (k11 < (a_.length : Int)))) (y_lss rfl rfl) ?_
  refine c_nil ?_
  refine c_seq ?_
  refine c_condF (congrArg Value.bool (decide_eq_false hlt)) ?_
  refine wp_exit ?_
  exact ⟨rfl, _, fr_ovl 26 trivial, hC, hO, h0, h1⟩
 ·rintro k11 s9 o13 a a0 ⟨σ, rfl, hC, hO, h0, h1⟩ hlt hw hs
  refine c_sr ?_
  refine pl_val (.bool (decide (k11 < (a_.length : Int)))) (y_lss rfl rfl) ?_
  refine c_nil ?_
  refine c_seq ?_
  refine c_condT (congrArg Value.bool (decide_eq_true hlt)) ?_
  refine wp_skip ?_
  refine c_seq ?_
  refine wp_block ?_
  refine c_sr ?_
  refine pl_val (.int .i64 k11) (y_move rfl) ?_
  obtain ⟨x15, a5, hs⟩ := bind_some hs
  obtain ⟨a6, a7, a8, a9⟩ := rs_idx Sl25 Sz3 h0 a5
  refine pl_val (.pointer (some ⟨a6, a7, none⟩)) (a8 _ _ _ _ _ _ _ _ _ rfl rfl) ?_
  refine pl_val (.int .i64 x15) (y_load rfl ((at_load_int Ag3 Sz3 a9) _ (Chg.refl _ _))) ?_
  refine pl_val (.int .i64 k11) (y_assign rfl) ?_
  refine pl_val (.int .i64 x15) (y_assign rfl) ?_
  refine c_nil ?_
  refine c_sr ?_
  refine pl_val (.slice pa1 pn1 pc1) (y_move rfl) ?_
  refine pl_val (.int .i64 k11) (y_move rfl) ?_
  obtain ⟨x17, b0, hs⟩ := bind_some hs
  obtain ⟨b1, b2, b3, b4⟩ := rs_idx Sl25 Sz3 h1 b0
  refine pl_val (.pointer (some ⟨b1, b2, none⟩)) (b3 _ _ _ _ _ _ _ _ _ rfl rfl) ?_
  refine pl_val (.int .i64 x17) (y_load rfl ((at_load_int Ag3 Sz3 b4) _ (Chg.refl _ _))) ?_
  refine pl_val (.int .i64 x15) (y_move rfl) ?_
  refine pl_val (.bool (x17 != x15)) (y_neq rfl rfl) ?_
  refine c_nil ?_
  rcases bif_some hs with ⟨a2, hs⟩ | ⟨a2, hs⟩
  ·refine c_condT (congrArg Value.bool a2) ?_
   refine c_sr ?_
   refine pl_val (.bool false) (y_assign rfl) ?_
   refine c_nil ?_
   refine wp_ret ?_
   cases hs
   exact ⟨_, fr_ovl 26 ⟨rfl, trivial⟩, hC⟩
  refine c_condF (congrArg Value.bool a2) ?_
  refine wp_skip ?_
  refine c_region ?_
  refine pl_val (.int .i64 (w64 (k11 + 1))) (y_add rfl rfl) ?_
  refine pl_val (.int .i64 (w64 (k11 + 1))) (y_move rfl) ?_
  refine c_nil ?_
  cases hs
  exact ⟨_, fr_ovl 26 ⟨rfl, rfl, rfl, congrArg (Value.int .i64) hw, trivial⟩, hC, hO, h0, h1⟩
 ·skip
  exact ⟨_, fr_ovl 26 ⟨rfl, rfl, rfl, rfl, trivial⟩, hC, hO, h0, h1⟩
 cases o13 with
 | nx _ => exact True.intro
 | rt r_ =>
  have hs := after_rt hs
  intro b5 a3 hK
  cases hs
  exact hK
 | br s9 =>
  have hs := after_br hs
  rintro b5 a0 ⟨σ, rfl, hC, hO, h0, h1⟩
  refine c_sr ?_
  refine pl_val (.bool true) (y_assign rfl) ?_
  refine c_nil ?_
  refine wp_ret ?_
  cases hs
  exact ⟨_, fr_ovl 26 ⟨rfl, trivial⟩, hC⟩

theorem Sl43 : SlT Try.prog 43 25 := Try.underlying43

theorem Bd69 : Bodied Try.prog 69 := bodied Try.func69 (by kernel_rfl) rfl

theorem Bd42 : Bodied Try.prog 42 := bodied Try.func42 (by kernel_rfl) rfl

def k_impl_hasValuesAt (M : Nat → Prop) (w0 : World) (r : Bool) (a : Act) (w : World) : Prop :=
  ∃ (σ : Nat → Value) , a = fr 33 (ovl σ [(8, (.bool r))]) ∧ Chg [] w0 w
def s_impl_hasValuesAt (n : Int) (op : Int × (List Int)) (patterns : List (List Int)) (wants : List (List Int)) : Option (Bool) :=
  (bif (op.1 != 3) then some false else (forC (S := Unit) (R := Bool) (fun k23 s21 =>
  (idx patterns k23).bind fun x27 =>
  (idx wants k23).bind fun x32 =>
  (s_impl_valuesAt n op.2 x27).bind fun r37 =>
  (s_impl_sameList r37 x32).bind fun r40 =>
  (bif (!r40) then some (.rt false) else some (.nx ()))) 0 (patterns.length : Int) ()).bind fun o25 => after o25 (fun r_ => some r_) (fun s21 =>
  some true))
set_option maxHeartbeats 4000000 in
theorem c_impl_hasValuesAt {M : Nat → Prop} {w : World} {pa0 : Option Addr} {pn0 pc0 : Nat} {pa1 : Option Addr} {pn1 pc1 : Nat} {pa2 : Option Addr} {pn2 pc2 : Nat} (n : Int) (op : Int × (List Int)) (patterns : List (List Int)) (wants : List (List Int)) (h0 : (RT.rs (RT.int .i64)).val M w (.slice pa0 pn0 pc0) op.2 ([])) (h1 : (RT.rs (RT.rs (RT.int .i64))).val M w (.slice pa1 pn1 pc1) patterns ([])) (h2 : (RT.rs (RT.rs (RT.int .i64))).val M w (.slice pa2 pn2 pc2) wants ([])) (hM : ∀ g, w.heap.size ≤ g → M g) {r : Bool} (hs : s_impl_hasValuesAt n op patterns wants = some r) :
    Gives Try.prog 41 [(.int .i64 n), (.agg #[(.int .i64 op.1), (.slice pa0 pn0 pc0)]), (.slice pa1 pn1 pc1), (.slice pa2 pn2 pc2)] w (fun v w' => v = (.bool r) ∧ Chg [] w w') := by
 refine calls_fr Try.func41 rfl Try.ntmps41 (Nat.le_of_ble_eq_true rfl) ?_
 have hO := Own.start (N := Nw w []) hM Nw.fut
 have hC := Chg.refl [] w
 unfold s_impl_hasValuesAt at hs
 refine wp_mono (Q := KPost (k_impl_hasValuesAt M w r)) ?_ (fun e a b8 h => ?_)
 rotate_left
 ·cases e
  case ret =>
   obtain ⟨σ, rfl, hrest⟩ := h
   exact ret1x Try.results41 (res_tmp rfl) ⟨rfl, hrest⟩
  all_goals exact (h : False).elim
 refine c_sr ?_
 obtain ⟨b9, a4, c0, b6, a8, a1⟩ := new_block w [(.int .i64 op.1), (.slice pa0 pn0 pc0)] 27
 refine pl_val (w' := b9) (.pointer (some ⟨a4, 0, none⟩)) (y_box rfl (by rw [c0, b6]; kernel_rfl)) ?_
 have h0 := h0.ext a8
 have h1 := h1.ext a8
 have h2 := h2.ext a8
 have hC := hC.ext a8
 have hO := hO.new1 a8 b6 a1.lt
 refine pl_val (.bool false) (y_assign rfl) ?_
 refine c_nil ?_
 refine c_seq ?_
 refine c_sr ?_
 refine pl_val (.pointer (some ⟨a4, 0, none⟩)) (y_faddr rfl Fa27x0) ?_
 refine pl_val (.int .i64 op.1) (y_load rfl ((box_load Ag3 Sz3 a1 [] [(.int .i64 op.1)] [(.slice pa0 pn0 pc0)] rfl rfl (fun _ => rfl)) _ (Chg.refl _ _))) ?_
 refine pl_val (.bool (op.1 != 3)) (y_neq rfl rfl) ?_
 refine c_nil ?_
 rcases bif_some hs with ⟨b0, hs⟩ | ⟨b0, hs⟩
 ·refine c_condT (congrArg Value.bool b0) ?_
  refine c_sr ?_
  refine pl_val (.bool false) (y_assign rfl) ?_
  refine c_nil ?_
  refine wp_ret ?_
  cases hs
  exact ⟨_, fr_ovl 33 ⟨rfl, trivial⟩, hC⟩
 refine c_condF (congrArg Value.bool b0) ?_
 refine wp_skip ?_
 refine c_seq ?_
 refine c_sr ?_
 refine pl_val (.slice pa1 pn1 pc1) (y_move rfl) ?_
 refine pl_val (.int .i64 (patterns.length : Int)) (y_len' Sl43 (rs_len h1) rfl) ?_
 refine pl_val (.int .i64 0) (y_move rfl) ?_
 refine c_nil ?_
 obtain ⟨o25, c1, hs⟩ := bind_some hs
 refine wp_block ?_
 refine wp_forC (id := 0) (patterns.length : Int) (I := fun k23 s21 a a0 => ∃ (σ : Nat → Value), a = fr 33 (ovl σ [(0, (.int .i64 n)), (3, (.slice pa2 pn2 pc2)), (5, (.pointer (some ⟨a4, 0, none⟩))), (14, (.slice pa1 pn1 pc1)), (15, (.int .i64 (patterns.length : Int))), (16, (.int .i64 k23))]) ∧ Chg [] w a0 ∧ Own (Nw w []) M a0 (([a4]) ++ []) ∧ (RT.rs (RT.int .i64)).val M a0 (.slice pa0 pn0 pc0) op.2 ([]) ∧ (RT.rs (RT.rs (RT.int .i64))).val M a0 (.slice pa1 pn1 pc1) patterns ([]) ∧ (RT.rs (RT.rs (RT.int .i64))).val M a0 (.slice pa2 pn2 pc2) wants ([]) ∧ BoxV a0 a4 27 [(.int .i64 op.1), (.slice pa0 pn0 pc0)]) (J := fun s21 a a0 => ∃ (σ : Nat → Value), a = fr 33 (ovl σ []) ∧ Chg [] w a0 ∧ Own (Nw w []) M a0 (([a4]) ++ []) ∧ (RT.rs (RT.int .i64)).val M a0 (.slice pa0 pn0 pc0) op.2 ([]) ∧ (RT.rs (RT.rs (RT.int .i64))).val M a0 (.slice pa1 pn1 pc1) patterns ([]) ∧ (RT.rs (RT.rs (RT.int .i64))).val M a0 (.slice pa2 pn2 pc2) wants ([]) ∧ BoxV a0 a4 27 [(.int .i64 op.1), (.slice pa0 pn0 pc0)]) (K := (k_impl_hasValuesAt M w)) ?_ ?_ 0 () o25 _ _ ?_ c1 ?_
 ·rintro k23 s21 a a0 ⟨σ, rfl, hC, hO, h0, h1, h2, a1⟩ hlt
  refine c_sr ?_
  refine pl_val (.bool (decide (k23 < (patterns.length : Int)))) (y_lss rfl rfl) ?_
  refine c_nil ?_
  refine c_seq ?_
  refine c_condF (congrArg Value.bool (decide_eq_false hlt)) ?_
  refine wp_exit ?_
  exact ⟨rfl, _, fr_ovl 33 trivial, hC, hO, h0, h1, h2, a1⟩
 ·rintro k23 s21 o25 a a0 ⟨σ, rfl, hC, hO, h0, h1, h2, a1⟩ hlt hw hs
  refine c_sr ?_
  refine pl_val (.bool (decide (k23 < (patterns.length : Int)))) (y_lss rfl rfl) ?_
  refine c_nil ?_
  refine c_seq ?_
  refine c_condT (congrArg Value.bool (decide_eq_true hlt)) ?_
  refine wp_skip ?_
  refine c_seq ?_
  refine wp_block ?_
  refine c_sr ?_
  refine pl_val (.int .i64 k23) (y_move rfl) ?_
  obtain ⟨x27, c2, hs⟩ := bind_some hs
  obtain ⟨c3, c4, c5, c6⟩ := rs_idx Sl43 Sz25 h1 c2
  refine pl_val (.pointer (some ⟨c3, c4, none⟩)) (c5 _ _ _ _ _ _ _ _ _ rfl rfl) ?_
  obtain ⟨e4, c7, a5⟩ := at_load Ag25 Sz25 (fun _ => rfl) c6
  obtain ⟨b1, b2, b3, rfl⟩ := rs_sl a5
  refine pl_val (.slice b1 b2 b3) (y_load rfl (c7 _ (Chg.refl _ _))) ?_
  refine pl_val (.int .i64 k23) (y_assign rfl) ?_
  refine pl_val (.slice b1 b2 b3) (y_assign rfl) ?_
  refine c_nil ?_
  refine c_seq ?_
  refine x_start [] Mx rfl ?_
  have a6 := Chg.drew a0
  generalize World.drew a0 = c8 at a6 ⊢
  have h0 := h0.ext a6
  have h1 := h1.ext a6
  have h2 := h2.ext a6
  have a1 := a1.cn a6
  have a5 := a5.ext a6
  have hC := hC.ext a6
  have hO := hO.ext a6
  have hS := Chg.refl [] c8
  refine x_p 0 (.int .i64 n) rfl (by kernel_rfl)  (fun _ => y_move rfl) (fun _ => hS) ?_
  refine x_p 1 (.pointer (some ⟨a4, 1, none⟩)) rfl (by kernel_rfl)  (fun _ => y_faddr rfl Fa27x1) (fun _ => hS) ?_
  refine x_l 2 (.slice pa0 pn0 pc0) rfl (by kernel_rfl)  (fun w' hw' => y_load rfl ((box_load Ag25 Sz25 a1 [(.int .i64 op.1)] [(.slice pa0 pn0 pc0)] [] rfl rfl (fun _ => rfl)) w' hw')) hS ?_
  refine x_p 3 (.slice b1 b2 b3) rfl (by kernel_rfl)  (fun _ => y_move rfl) (fun _ => hS) ?_
  refine x_p 5 (.slice pa2 pn2 pc2) rfl (by kernel_rfl)  (fun _ => y_move rfl) (fun _ => hS) ?_
  refine x_p 6 (.int .i64 k23) rfl (by kernel_rfl)  (fun _ => y_move rfl) (fun _ => hS) ?_
  obtain ⟨x32, c9, hs⟩ := bind_some hs
  obtain ⟨d0, d1, d2, d3⟩ := rs_idx Sl43 Sz25 h2 c9
  refine x_p 7 (.pointer (some ⟨d0, d1, none⟩)) rfl (by kernel_rfl)  (fun _ => d2 _ _ _ _ _ _ _ _ _ rfl rfl) (fun _ => hS) ?_
  obtain ⟨e5, d4, a7⟩ := at_load Ag25 Sz25 (fun _ => rfl) d3
  obtain ⟨d5, d6, d7, rfl⟩ := rs_sl a7
  refine x_l 8 (.slice d5 d6 d7) rfl (by kernel_rfl)  (fun w' hw' => y_load rfl (d4 w' hw')) hS ?_
  refine x_one (i := 4) (by kernel_rfl) ?_
  obtain ⟨r37, d8, hs⟩ := bind_some hs
  refine xk_call (b := false) rfl  Bd69 rfl (c_impl_valuesAt (M := M) n op.2 x27 h0 a5 hO.fut d8) rfl (by rintro _ _ _ ⟨d9, e0, e1, b4, rfl, a3, a9, b7⟩; exact hS.ext a3) ?_
  rintro _ e6 ⟨d9, e0, e1, b4, rfl, a3, a9, b7⟩
  have h0 := h0.ext a3
  have h1 := h1.ext a3
  have h2 := h2.ext a3
  have a1 := a1.cn a3
  have a5 := a5.ext a3
  have a7 := a7.ext a3
  have hC := hC.ext a3
  have hO := Own.join0 hO a3 b7
  have hO := hO.perm (R := b4 ++ (([a4]) ++ ([]))) (by simp)
  have hS := hS.ext a3
  refine x_one (i := 9) (by kernel_rfl) ?_
  obtain ⟨r40, e2, hs⟩ := bind_some hs
  refine xk_call (b := false) rfl  Bd42 rfl (c_impl_sameList (M := (Less M b4)) r37 x32 (((Frz.os Frz.int)).val a9 Less.sub Less.not) (a7.sub Less.sub) hO.less.fut e2) rfl (by rintro _ _ _ ⟨rfl, a2⟩; exact hS.ext a2) ?_
  rintro _ e7 ⟨rfl, a2⟩
  have h0 := h0.ext a2
  have h1 := h1.ext a2
  have h2 := h2.ext a2
  have a1 := a1.cn a2
  have a5 := a5.ext a2
  have a7 := a7.ext a2
  have a9 := a9.ext a2
  have hC := hC.ext a2
  have hO := hO.ext a2
  have hS := hS.ext a2
  refine x_p 10 (.bool (!r40)) rfl (by kernel_rfl)  (fun _ => y_not rfl) (fun _ => hS) ?_
  refine x_end (by kernel_rfl) ?_
  clear hS
  rcases bif_some hs with ⟨b5, hs⟩ | ⟨b5, hs⟩
  ·refine c_condT (congrArg Value.bool b5) ?_
   refine c_sr ?_
   refine pl_val (.bool false) (y_assign rfl) ?_
   refine c_nil ?_
   refine wp_ret ?_
   cases hs
   exact ⟨_, fr_ovl 33 ⟨rfl, trivial⟩, hC⟩
  refine c_condF (congrArg Value.bool b5) ?_
  refine wp_skip ?_
  refine c_region ?_
  refine pl_val (.int .i64 (w64 (k23 + 1))) (y_add rfl rfl) ?_
  refine pl_val (.int .i64 (w64 (k23 + 1))) (y_move rfl) ?_
  refine c_nil ?_
  cases hs
  have hO := hO.drop
  exact ⟨_, fr_ovl 33 ⟨rfl, rfl, rfl, rfl, rfl, congrArg (Value.int .i64) hw, trivial⟩, hC, hO, h0, h1, h2, a1⟩
 ·skip
  exact ⟨_, fr_ovl 33 ⟨rfl, rfl, rfl, rfl, rfl, rfl, trivial⟩, hC, hO, h0, h1, h2, a1⟩
 cases o25 with
 | nx _ => exact True.intro
 | rt r_ =>
  have hs := after_rt hs
  intro e3 b8 hK
  cases hs
  exact hK
 | br s21 =>
  have hs := after_br hs
  rintro e3 a0 ⟨σ, rfl, hC, hO, h0, h1, h2, a1⟩
  refine c_sr ?_
  refine pl_val (.bool true) (y_assign rfl) ?_
  refine c_nil ?_
  refine wp_ret ?_
  cases hs
  exact ⟨_, fr_ovl 33 ⟨rfl, trivial⟩, hC⟩

theorem Bd38 : Bodied Try.prog 38 := bodied Try.func38 (by kernel_rfl) rfl

theorem Bd39 : Bodied Try.prog 39 := bodied Try.func39 (by kernel_rfl) rfl

theorem Bd40 : Bodied Try.prog 40 := bodied Try.func40 (by kernel_rfl) rfl

theorem Bd41 : Bodied Try.prog 41 := bodied Try.func41 (by kernel_rfl) rfl

def k_impl_IsPixleyOp (M : Nat → Prop) (w0 : World) (r : Bool × Bool) (a : Act) (w : World) : Prop :=
  ∃ (σ : Nat → Value) , a = fr 32 (ovl σ [(4, (.bool r.1)), (5, (.bool r.2))]) ∧ Chg [] w0 w
def s_impl_IsPixleyOp (n : Int) (op : Int × (List Int)) : Option (Bool × Bool) :=
  ((s_impl_isSize n).bind fun r7 =>
  (bif (!r7) then some true else (s_impl_isOp (op.1, op.2) n).bind fun r10 =>
  some (!r10))).bind fun s3 =>
  (bif s3 then some (false, false) else (s_impl_firsts n).bind fun r13 =>
  (s_impl_seconds n).bind fun r16 =>
  (s_impl_hasValuesAt n (op.1, op.2) ([[0, 1, 1], [0, 1, 0], [0, 0, 1]]) ([r13, r13, r16])).bind fun r31 =>
  some (r31, true))
set_option maxHeartbeats 4000000 in
theorem c_impl_IsPixleyOp {M : Nat → Prop} {w : World} {pa0 : Option Addr} {pn0 pc0 : Nat} (n : Int) (op : Int × (List Int)) (h0 : (RT.rs (RT.int .i64)).val M w (.slice pa0 pn0 pc0) op.2 ([])) (hM : ∀ g, w.heap.size ≤ g → M g) {r : Bool × Bool} (hs : s_impl_IsPixleyOp n op = some r) :
    Gives Try.prog 12 [(.int .i64 n), (.agg #[(.int .i64 op.1), (.slice pa0 pn0 pc0)])] w (fun v w' => v = (.tuple #[(.bool r.1), (.bool r.2)]) ∧ Chg [] w w') := by
 refine calls_fr Try.func12 rfl Try.ntmps12 (Nat.le_of_ble_eq_true rfl) ?_
 have hO := Own.start (N := Nw w []) hM Nw.fut
 have hC := Chg.refl [] w
 unfold s_impl_IsPixleyOp at hs
 refine wp_mono (Q := KPost (k_impl_IsPixleyOp M w r)) ?_ (fun e a h9 h => ?_)
 rotate_left
 ·cases e
  case ret =>
   obtain ⟨σ, rfl, hrest⟩ := h
   exact ret2x Try.results12 (res_tmp rfl) (res_tmp rfl) ⟨rfl, hrest⟩
  all_goals exact (h : False).elim
 refine c_sr ?_
 obtain ⟨d5, c1, g0, e6, d6, a0⟩ := new_block w [(.int .i64 op.1), (.slice pa0 pn0 pc0)] 27
 refine pl_val (w' := d5) (.pointer (some ⟨c1, 0, none⟩)) (y_box rfl (by rw [g0, e6]; kernel_rfl)) ?_
 have h0 := h0.ext d6
 have hC := hC.ext d6
 have hO := hO.new1 d6 e6 a0.lt
 refine pl_val (.bool false) (y_assign rfl) ?_
 refine pl_val (.bool false) (y_assign rfl) ?_
 refine c_nil ?_
 refine c_seq ?_
 refine c_seq ?_
 obtain ⟨s3, g1, hs⟩ := bind_some hs
 refine c_mid (I := fun a e7 => ∃ (σ : Nat → Value), a = fr 32 (ovl σ [(0, (.int .i64 n)), (3, (.pointer (some ⟨c1, 0, none⟩))), (4, (.bool false)), (5, (.bool false)), (16, (.bool s3))]) ∧ Chg [] d5 e7) ?_ ?_
 ·replace hs := g1
  have hMid := Chg.refl [] d5
  refine c_region ?_
  refine pl_val (.int .i64 n) (y_move rfl) ?_
  obtain ⟨r7, g2, hs⟩ := bind_some hs
  refine pl_call Bd32 rfl (c_impl_isSize (M := M) n  hO.fut g2) ?_
  rintro _ i0 ⟨rfl, c2⟩
  have h0 := h0.ext c2
  have a0 := a0.cn c2
  have hMid := hMid.ext c2
  have hC := hC.ext c2
  have hO := hO.ext c2
  refine pl_val (.bool (!r7)) (y_not rfl) ?_
  refine pl_val (.bool (!r7)) (y_move rfl) ?_
  rcases bif_some hs with ⟨a1, hs⟩ | ⟨a1, hs⟩
  ·skip
   refine pl_not (tg := 11) (by kernel_rfl) (congrArg Value.bool a1) ?_
   refine pl_not (tg := 11) (by kernel_rfl) (congrArg Value.bool a1) ?_
   refine pl_not (tg := 11) (by kernel_rfl) (congrArg Value.bool a1) ?_
   refine pl_not (tg := 11) (by kernel_rfl) (congrArg Value.bool a1) ?_
   refine pl_val (.bool true) (y_pick_t (congrArg Value.bool a1) rfl) ?_
   refine c_nil ?_
   cases hs
   exact ⟨_, fr_ovl 32 ⟨rfl, rfl, rfl, rfl, rfl, trivial⟩, hMid⟩
  refine pl_yes (.agg #[(.int .i64 op.1), (.slice pa0 pn0 pc0)]) (tg := 11) (by kernel_rfl) (congrArg Value.bool a1) (y_load rfl ((box_load Ag27 Sz27 a0 [] [(.int .i64 op.1), (.slice pa0 pn0 pc0)] [] rfl rfl (fun h => nomatch h)) _ (Chg.refl _ _))) ?_
  refine pl_yes (.int .i64 n) (tg := 11) (by kernel_rfl) (congrArg Value.bool a1) (y_move rfl) ?_
  obtain ⟨r10, g3, hs⟩ := bind_some hs
  refine pl_cally (tg := 11) (by kernel_rfl) (congrArg Value.bool a1) Bd38 rfl (c_impl_isOp (M := M) (op.1, op.2) n h0 hO.fut g3) ?_
  rintro _ i1 ⟨rfl, c3⟩
  have h0 := h0.ext c3
  have a0 := a0.cn c3
  have hMid := hMid.ext c3
  have hC := hC.ext c3
  have hO := hO.ext c3
  refine pl_yes (.bool (!r10)) (tg := 11) (by kernel_rfl) (congrArg Value.bool a1) (y_not rfl) ?_
  refine pl_val (.bool (!r10)) (y_pick_f (congrArg Value.bool a1) rfl) ?_
  refine c_nil ?_
  cases hs
  exact ⟨_, fr_ovl 32 ⟨rfl, rfl, rfl, rfl, rfl, trivial⟩, hMid⟩
 rintro i2 e7 ⟨σ, rfl, c9⟩
 have h0 := h0.ext c9
 have a0 := a0.cn c9
 have hC := hC.ext c9
 have hO := hO.ext c9
 rcases bif_some hs with ⟨d7, hs⟩ | ⟨d7, hs⟩
 ·refine c_condT (congrArg Value.bool d7) ?_
  refine c_sr ?_
  refine pl_val (.bool false) (y_assign rfl) ?_
  refine pl_val (.bool false) (y_assign rfl) ?_
  refine c_nil ?_
  refine wp_ret ?_
  cases hs
  exact ⟨_, fr_ovl 32 ⟨rfl, rfl, trivial⟩, hC⟩
 refine c_condF (congrArg Value.bool d7) ?_
 refine wp_skip ?_
 refine c_sr ?_
 refine pl_val (.int .i64 n) (y_move rfl) ?_
 obtain ⟨r13, g4, hs⟩ := bind_some hs
 refine pl_call Bd39 rfl (c_impl_firsts (M := M) n  hO.fut g4) ?_
 rintro _ i3 ⟨b3, b4, b5, d8, rfl, d0, a2, g5⟩
 have h0 := h0.ext d0
 have a0 := a0.cn d0
 have hC := hC.ext d0
 have hO := Own.join0 hO d0 g5
 have hO := hO.perm (R := d8 ++ (([c1]) ++ ([]))) (by simp)
 refine pl_val (.int .i64 n) (y_move rfl) ?_
 obtain ⟨r16, g6, hs⟩ := bind_some hs
 refine pl_call Bd40 rfl (c_impl_seconds (M := M) n  hO.fut g6) ?_
 rintro _ g7 ⟨d1, d2, d3, e8, rfl, c4, a3, g8⟩
 have h0 := h0.ext c4
 have a0 := a0.cn c4
 have a2 := a2.ext c4
 have hC := hC.ext c4
 have hO := Own.join0 hO c4 g8
 have hO := hO.perm (R := e8 ++ (d8 ++ (([c1]) ++ ([])))) (by simp)
 refine pl_val (.slice b3 b4 b5) (y_assign rfl) ?_
 refine pl_val (.slice d1 d2 d3) (y_assign rfl) ?_
 refine c_nil ?_
 refine c_sr ?_
 refine pl_val (.int .i64 n) (y_move rfl) ?_
 refine pl_val (.agg #[(.int .i64 op.1), (.slice pa0 pn0 pc0)]) (y_load rfl ((box_load Ag27 Sz27 a0 [] [(.int .i64 op.1), (.slice pa0 pn0 pc0)] [] rfl rfl (fun h => nomatch h)) _ (Chg.refl _ _))) ?_
 obtain ⟨d9, a5, g9, e9, b9, f0⟩ := new_block g7 [(.int .i64 0), (.int .i64 1), (.int .i64 1)] 3
 refine pl_val (w' := d9) (.slice (some ⟨a5, 0, none⟩) 3 3) (y_bslice rfl (by rw [g9, e9]; kernel_rfl)) ?_
 have h0 := h0.ext b9
 have a0 := a0.cn b9
 have a2 := a2.ext b9
 have a3 := a3.ext b9
 have hC := hC.ext b9
 have hO := hO.new1 b9 e9 f0.lt
 have a6 := os_of_box (r := (RT.int .i64)) (M := M) (css := [[(.int .i64 0)], [(.int .i64 1)], [(.int .i64 1)]]) (fps := [([] : List Nat), ([] : List Nat), ([] : List Nat)]) (xs := ([0, 1, 1] : List Int)) f0 ⟨⟨rfl, rfl⟩, ⟨⟨rfl, rfl⟩, ⟨⟨rfl, rfl⟩, trivial⟩⟩⟩ (Nat.le_of_ble_eq_true rfl) (List.nodup_cons.2 ⟨(fun h => nomatch h), List.nodup_nil⟩)
 have a6 : (RT.os 3 (RT.int .i64)).val M d9 (.slice (some ⟨a5, 0, none⟩) 3 3) [0, 1, 1] [a5] := a6
 obtain ⟨e0, a7, h1, f1, b6, f2⟩ := new_block d9 [(.int .i64 0), (.int .i64 1), (.int .i64 0)] 3
 refine pl_val (w' := e0) (.slice (some ⟨a7, 0, none⟩) 3 3) (y_bslice rfl (by rw [h1, f1]; kernel_rfl)) ?_
 have h0 := h0.ext b6
 have a0 := a0.cn b6
 have a2 := a2.ext b6
 have a3 := a3.ext b6
 have a6 := a6.ext b6
 have hC := hC.ext b6
 have hO := hO.new1 b6 f1 f2.lt
 have b7 := os_of_box (r := (RT.int .i64)) (M := M) (css := [[(.int .i64 0)], [(.int .i64 1)], [(.int .i64 0)]]) (fps := [([] : List Nat), ([] : List Nat), ([] : List Nat)]) (xs := ([0, 1, 0] : List Int)) f2 ⟨⟨rfl, rfl⟩, ⟨⟨rfl, rfl⟩, ⟨⟨rfl, rfl⟩, trivial⟩⟩⟩ (Nat.le_of_ble_eq_true rfl) (List.nodup_cons.2 ⟨(fun h => nomatch h), List.nodup_nil⟩)
 have b7 : (RT.os 3 (RT.int .i64)).val M e0 (.slice (some ⟨a7, 0, none⟩) 3 3) [0, 1, 0] [a7] := b7
 obtain ⟨e1, a8, h2, f3, b0, f4⟩ := new_block e0 [(.int .i64 0), (.int .i64 0), (.int .i64 1)] 3
 refine pl_val (w' := e1) (.slice (some ⟨a8, 0, none⟩) 3 3) (y_bslice rfl (by rw [h2, f3]; kernel_rfl)) ?_
 have h0 := h0.ext b0
 have a0 := a0.cn b0
 have a2 := a2.ext b0
 have a3 := a3.ext b0
 have a6 := a6.ext b0
 have b7 := b7.ext b0
 have hC := hC.ext b0
 have hO := hO.new1 b0 f3 f4.lt
 have c5 := os_of_box (r := (RT.int .i64)) (M := M) (css := [[(.int .i64 0)], [(.int .i64 0)], [(.int .i64 1)]]) (fps := [([] : List Nat), ([] : List Nat), ([] : List Nat)]) (xs := ([0, 0, 1] : List Int)) f4 ⟨⟨rfl, rfl⟩, ⟨⟨rfl, rfl⟩, ⟨⟨rfl, rfl⟩, trivial⟩⟩⟩ (Nat.le_of_ble_eq_true rfl) (List.nodup_cons.2 ⟨(fun h => nomatch h), List.nodup_nil⟩)
 have c5 : (RT.os 3 (RT.int .i64)).val M e1 (.slice (some ⟨a8, 0, none⟩) 3 3) [0, 0, 1] [a8] := c5
 obtain ⟨e2, c6, h3, f5, a9, f6⟩ := new_block e1 [(.slice (some ⟨a5, 0, none⟩) 3 3), (.slice (some ⟨a7, 0, none⟩) 3 3), (.slice (some ⟨a8, 0, none⟩) 3 3)] 25
 refine pl_val (w' := e2) (.slice (some ⟨c6, 0, none⟩) 3 3) (y_bslice rfl (by rw [h3, f5]; kernel_rfl)) ?_
 have h0 := h0.ext a9
 have a0 := a0.cn a9
 have a2 := a2.ext a9
 have a3 := a3.ext a9
 have a6 := a6.ext a9
 have b7 := b7.ext a9
 have c5 := c5.ext a9
 have hC := hC.ext a9
 have hO := hO.fr1
 have hO := hO.fr2
 have hO := hO.new1 a9 f5 f6.lt
 have hO := hO.perm (R := (c6 :: ((([a5])) ++ ((([a7])) ++ ((([a8])) ++ ([]))))) ++ (e8 ++ (d8 ++ (([c1]) ++ ([]))))) (by simp)
 have h4 := hO.nd
 have a4 := os_of_box (r := (RT.os 3 (RT.int .i64))) (M := M) (css := [[(.slice (some ⟨a5, 0, none⟩) 3 3)], [(.slice (some ⟨a7, 0, none⟩) 3 3)], [(.slice (some ⟨a8, 0, none⟩) 3 3)]]) (fps := [([a5] : List Nat), ([a7] : List Nat), ([a8] : List Nat)]) (xs := ([[0, 1, 1], [0, 1, 0], [0, 0, 1]] : List (List Int))) f6 ⟨(os_unval a6), ⟨(os_unval b7), ⟨(os_unval c5), trivial⟩⟩⟩ (Nat.le_of_ble_eq_true rfl) h4
 have a4 : (RT.os 25 (RT.os 3 (RT.int .i64))).val M e2 (.slice (some ⟨c6, 0, none⟩) 3 3) [[0, 1, 1], [0, 1, 0], [0, 0, 1]] (c6 :: ((([a5])) ++ ((([a7])) ++ ((([a8])) ++ ([]))))) := a4
 refine pl_val (.slice b3 b4 b5) (y_move rfl) ?_
 refine pl_val (.slice b3 b4 b5) (y_move rfl) ?_
 refine pl_val (.slice d1 d2 d3) (y_move rfl) ?_
 have hO := hO.fr2
 obtain ⟨e3, i4, e4, h5, hO, b1⟩ := frz_own (Frz.os Frz.int) a2 hO
 have h0 := h0.sub (M' := e3) e4
 have a3 := a3.sub (M' := e3) e4
 have a4 := a4.sub (M' := e3) e4
 have hK := h5
 have hO := hO.fr1
 obtain ⟨c0, i5, e5, h6, hO, c7⟩ := frz_own (Frz.os Frz.int) a3 hO
 have h0 := h0.sub (M' := c0) e5
 have b1 := b1.sub (M' := c0) e5
 have a4 := a4.sub (M' := c0) e5
 have hK := hK.trans h6
 obtain ⟨f7, d4, h7, f8, b8, f9⟩ := new_block e2 [(.slice b3 b4 b5), (.slice b3 b4 b5), (.slice d1 d2 d3)] 25
 refine pl_val (w' := f7) (.slice (some ⟨d4, 0, none⟩) 3 3) (y_bslice rfl (by rw [h7, f8]; kernel_rfl)) ?_
 have h0 := h0.ext b8
 have a0 := a0.cn b8
 have b1 := b1.ext b8
 have c7 := c7.ext b8
 have a4 := a4.ext b8
 have hC := hC.ext b8
 have hO := hO.new1 b8 f8 f9.lt
 have c8 := os_of_box (r := (RT.rs (RT.int .i64))) (M := c0) (css := [[(.slice b3 b4 b5)], [(.slice b3 b4 b5)], [(.slice d1 d2 d3)]]) (fps := [([] : List Nat), ([] : List Nat), ([] : List Nat)]) (xs := ([r13, r13, r16] : List (List Int))) f9 ⟨(rs_unval b1), ⟨(rs_unval b1), ⟨(rs_unval c7), trivial⟩⟩⟩ (Nat.le_of_ble_eq_true rfl) (List.nodup_cons.2 ⟨(fun h => nomatch h), List.nodup_nil⟩)
 have c8 : (RT.os 25 (RT.rs (RT.int .i64))).val c0 f7 (.slice (some ⟨d4, 0, none⟩) 3 3) [r13, r13, r16] [d4] := c8
 have hO := hO.fr1
 obtain ⟨r31, h8, hs⟩ := bind_some hs
 refine pl_call Bd41 rfl (c_impl_hasValuesAt (M := (Less (Less c0 (c6 :: ((([a5])) ++ ((([a7])) ++ ((([a8])) ++ ([])))))) ([d4]))) n (op.1, op.2) ([[0, 1, 1], [0, 1, 0], [0, 0, 1]]) ([r13, r13, r16]) ((h0.sub Less.sub).sub Less.sub) ((((Frz.os (Frz.os Frz.int))).val a4 Less.sub Less.not).sub Less.sub) (((Frz.os (Frz.rs Frz.int))).val (c8.sub Less.sub) Less.sub Less.not) (hO.less).less.fut h8) ?_
 rintro _ i6 ⟨rfl, b2⟩
 have h0 := h0.ext b2
 have a0 := a0.cn b2
 have b1 := b1.ext b2
 have c7 := c7.ext b2
 have a4 := a4.ext b2
 have c8 := c8.ext b2
 have hC := hC.ext b2
 have hO := hO.ext b2
 refine pl_val (.bool r31) (y_assign rfl) ?_
 refine pl_val (.bool true) (y_assign rfl) ?_
 refine c_nil ?_
 refine wp_ret ?_
 cases hs
 exact ⟨_, fr_ovl 32 ⟨rfl, rfl, trivial⟩, hC⟩

def k_impl_IsUnanimityOp (M : Nat → Prop) (w0 : World) (r : Bool × Bool) (a : Act) (w : World) : Prop :=
  ∃ (σ : Nat → Value) , a = fr 29 (ovl σ [(4, (.bool r.1)), (5, (.bool r.2))]) ∧ Chg [] w0 w
def s_impl_IsUnanimityOp (n : Int) (op : Int × (List Int)) : Option (Bool × Bool) :=
  ((s_impl_isSize n).bind fun r7 =>
  (bif (!r7) then some true else (s_impl_isOp (op.1, op.2) n).bind fun r10 =>
  some (!r10))).bind fun s3 =>
  (bif s3 then some (false, false) else (s_impl_firsts n).bind fun r13 =>
  (s_impl_hasValuesAt n (op.1, op.2) ([[0, 0, 1], [0, 1, 0], [1, 0, 0]]) ([r13, r13, r13])).bind fun r27 =>
  some (r27, true))
set_option maxHeartbeats 4000000 in
theorem c_impl_IsUnanimityOp {M : Nat → Prop} {w : World} {pa0 : Option Addr} {pn0 pc0 : Nat} (n : Int) (op : Int × (List Int)) (h0 : (RT.rs (RT.int .i64)).val M w (.slice pa0 pn0 pc0) op.2 ([])) (hM : ∀ g, w.heap.size ≤ g → M g) {r : Bool × Bool} (hs : s_impl_IsUnanimityOp n op = some r) :
    Gives Try.prog 13 [(.int .i64 n), (.agg #[(.int .i64 op.1), (.slice pa0 pn0 pc0)])] w (fun v w' => v = (.tuple #[(.bool r.1), (.bool r.2)]) ∧ Chg [] w w') := by
 refine calls_fr Try.func13 rfl Try.ntmps13 (Nat.le_of_ble_eq_true rfl) ?_
 have hO := Own.start (N := Nw w []) hM Nw.fut
 have hC := Chg.refl [] w
 unfold s_impl_IsUnanimityOp at hs
 refine wp_mono (Q := KPost (k_impl_IsUnanimityOp M w r)) ?_ (fun e a g6 h => ?_)
 rotate_left
 ·cases e
  case ret =>
   obtain ⟨σ, rfl, hrest⟩ := h
   exact ret2x Try.results13 (res_tmp rfl) (res_tmp rfl) ⟨rfl, hrest⟩
  all_goals exact (h : False).elim
 refine c_sr ?_
 obtain ⟨c9, c5, f1, d6, d0, a0⟩ := new_block w [(.int .i64 op.1), (.slice pa0 pn0 pc0)] 27
 refine pl_val (w' := c9) (.pointer (some ⟨c5, 0, none⟩)) (y_box rfl (by rw [f1, d6]; kernel_rfl)) ?_
 have h0 := h0.ext d0
 have hC := hC.ext d0
 have hO := hO.new1 d0 d6 a0.lt
 refine pl_val (.bool false) (y_assign rfl) ?_
 refine pl_val (.bool false) (y_assign rfl) ?_
 refine c_nil ?_
 refine c_seq ?_
 refine c_seq ?_
 obtain ⟨s3, f2, hs⟩ := bind_some hs
 refine c_mid (I := fun a d7 => ∃ (σ : Nat → Value), a = fr 29 (ovl σ [(0, (.int .i64 n)), (3, (.pointer (some ⟨c5, 0, none⟩))), (4, (.bool false)), (5, (.bool false)), (15, (.bool s3))]) ∧ Chg [] c9 d7) ?_ ?_
 ·replace hs := f2
  have hMid := Chg.refl [] c9
  refine c_region ?_
  refine pl_val (.int .i64 n) (y_move rfl) ?_
  obtain ⟨r7, f3, hs⟩ := bind_some hs
  refine pl_call Bd32 rfl (c_impl_isSize (M := M) n  hO.fut f3) ?_
  rintro _ g7 ⟨rfl, b8⟩
  have h0 := h0.ext b8
  have a0 := a0.cn b8
  have hMid := hMid.ext b8
  have hC := hC.ext b8
  have hO := hO.ext b8
  refine pl_val (.bool (!r7)) (y_not rfl) ?_
  refine pl_val (.bool (!r7)) (y_move rfl) ?_
  rcases bif_some hs with ⟨a1, hs⟩ | ⟨a1, hs⟩
  ·skip
   refine pl_not (tg := 10) (by kernel_rfl) (congrArg Value.bool a1) ?_
   refine pl_not (tg := 10) (by kernel_rfl) (congrArg Value.bool a1) ?_
   refine pl_not (tg := 10) (by kernel_rfl) (congrArg Value.bool a1) ?_
   refine pl_not (tg := 10) (by kernel_rfl) (congrArg Value.bool a1) ?_
   refine pl_val (.bool true) (y_pick_t (congrArg Value.bool a1) rfl) ?_
   refine c_nil ?_
   cases hs
   exact ⟨_, fr_ovl 29 ⟨rfl, rfl, rfl, rfl, rfl, trivial⟩, hMid⟩
  refine pl_yes (.agg #[(.int .i64 op.1), (.slice pa0 pn0 pc0)]) (tg := 10) (by kernel_rfl) (congrArg Value.bool a1) (y_load rfl ((box_load Ag27 Sz27 a0 [] [(.int .i64 op.1), (.slice pa0 pn0 pc0)] [] rfl rfl (fun h => nomatch h)) _ (Chg.refl _ _))) ?_
  refine pl_yes (.int .i64 n) (tg := 10) (by kernel_rfl) (congrArg Value.bool a1) (y_move rfl) ?_
  obtain ⟨r10, f4, hs⟩ := bind_some hs
  refine pl_cally (tg := 10) (by kernel_rfl) (congrArg Value.bool a1) Bd38 rfl (c_impl_isOp (M := M) (op.1, op.2) n h0 hO.fut f4) ?_
  rintro _ g8 ⟨rfl, b9⟩
  have h0 := h0.ext b9
  have a0 := a0.cn b9
  have hMid := hMid.ext b9
  have hC := hC.ext b9
  have hO := hO.ext b9
  refine pl_yes (.bool (!r10)) (tg := 10) (by kernel_rfl) (congrArg Value.bool a1) (y_not rfl) ?_
  refine pl_val (.bool (!r10)) (y_pick_f (congrArg Value.bool a1) rfl) ?_
  refine c_nil ?_
  cases hs
  exact ⟨_, fr_ovl 29 ⟨rfl, rfl, rfl, rfl, rfl, trivial⟩, hMid⟩
 rintro g9 d7 ⟨σ, rfl, c6⟩
 have h0 := h0.ext c6
 have a0 := a0.cn c6
 have hC := hC.ext c6
 have hO := hO.ext c6
 rcases bif_some hs with ⟨d1, hs⟩ | ⟨d1, hs⟩
 ·refine c_condT (congrArg Value.bool d1) ?_
  refine c_sr ?_
  refine pl_val (.bool false) (y_assign rfl) ?_
  refine pl_val (.bool false) (y_assign rfl) ?_
  refine c_nil ?_
  refine wp_ret ?_
  cases hs
  exact ⟨_, fr_ovl 29 ⟨rfl, rfl, trivial⟩, hC⟩
 refine c_condF (congrArg Value.bool d1) ?_
 refine wp_skip ?_
 refine c_sr ?_
 refine pl_val (.int .i64 n) (y_move rfl) ?_
 obtain ⟨r13, f5, hs⟩ := bind_some hs
 refine pl_call Bd39 rfl (c_impl_firsts (M := M) n  hO.fut f5) ?_
 rintro _ f6 ⟨a2, a3, a4, d8, rfl, c7, a5, f7⟩
 have h0 := h0.ext c7
 have a0 := a0.cn c7
 have hC := hC.ext c7
 have hO := Own.join0 hO c7 f7
 have hO := hO.perm (R := d8 ++ (([c5]) ++ ([]))) (by simp)
 refine pl_val (.slice a2 a3 a4) (y_assign rfl) ?_
 refine c_nil ?_
 refine c_sr ?_
 refine pl_val (.int .i64 n) (y_move rfl) ?_
 refine pl_val (.agg #[(.int .i64 op.1), (.slice pa0 pn0 pc0)]) (y_load rfl ((box_load Ag27 Sz27 a0 [] [(.int .i64 op.1), (.slice pa0 pn0 pc0)] [] rfl rfl (fun h => nomatch h)) _ (Chg.refl _ _))) ?_
 obtain ⟨d2, a6, f8, d9, c0, e0⟩ := new_block f6 [(.int .i64 0), (.int .i64 0), (.int .i64 1)] 3
 refine pl_val (w' := d2) (.slice (some ⟨a6, 0, none⟩) 3 3) (y_bslice rfl (by rw [f8, d9]; kernel_rfl)) ?_
 have h0 := h0.ext c0
 have a0 := a0.cn c0
 have a5 := a5.ext c0
 have hC := hC.ext c0
 have hO := hO.new1 c0 d9 e0.lt
 have a7 := os_of_box (r := (RT.int .i64)) (M := M) (css := [[(.int .i64 0)], [(.int .i64 0)], [(.int .i64 1)]]) (fps := [([] : List Nat), ([] : List Nat), ([] : List Nat)]) (xs := ([0, 0, 1] : List Int)) e0 ⟨⟨rfl, rfl⟩, ⟨⟨rfl, rfl⟩, ⟨⟨rfl, rfl⟩, trivial⟩⟩⟩ (Nat.le_of_ble_eq_true rfl) (List.nodup_cons.2 ⟨(fun h => nomatch h), List.nodup_nil⟩)
 have a7 : (RT.os 3 (RT.int .i64)).val M d2 (.slice (some ⟨a6, 0, none⟩) 3 3) [0, 0, 1] [a6] := a7
 obtain ⟨d3, a8, f9, e1, b6, e2⟩ := new_block d2 [(.int .i64 0), (.int .i64 1), (.int .i64 0)] 3
 refine pl_val (w' := d3) (.slice (some ⟨a8, 0, none⟩) 3 3) (y_bslice rfl (by rw [f9, e1]; kernel_rfl)) ?_
 have h0 := h0.ext b6
 have a0 := a0.cn b6
 have a5 := a5.ext b6
 have a7 := a7.ext b6
 have hC := hC.ext b6
 have hO := hO.new1 b6 e1 e2.lt
 have b2 := os_of_box (r := (RT.int .i64)) (M := M) (css := [[(.int .i64 0)], [(.int .i64 1)], [(.int .i64 0)]]) (fps := [([] : List Nat), ([] : List Nat), ([] : List Nat)]) (xs := ([0, 1, 0] : List Int)) e2 ⟨⟨rfl, rfl⟩, ⟨⟨rfl, rfl⟩, ⟨⟨rfl, rfl⟩, trivial⟩⟩⟩ (Nat.le_of_ble_eq_true rfl) (List.nodup_cons.2 ⟨(fun h => nomatch h), List.nodup_nil⟩)
 have b2 : (RT.os 3 (RT.int .i64)).val M d3 (.slice (some ⟨a8, 0, none⟩) 3 3) [0, 1, 0] [a8] := b2
 obtain ⟨d4, a9, g0, e3, b3, e4⟩ := new_block d3 [(.int .i64 1), (.int .i64 0), (.int .i64 0)] 3
 refine pl_val (w' := d4) (.slice (some ⟨a9, 0, none⟩) 3 3) (y_bslice rfl (by rw [g0, e3]; kernel_rfl)) ?_
 have h0 := h0.ext b3
 have a0 := a0.cn b3
 have a5 := a5.ext b3
 have a7 := a7.ext b3
 have b2 := b2.ext b3
 have hC := hC.ext b3
 have hO := hO.new1 b3 e3 e4.lt
 have c1 := os_of_box (r := (RT.int .i64)) (M := M) (css := [[(.int .i64 1)], [(.int .i64 0)], [(.int .i64 0)]]) (fps := [([] : List Nat), ([] : List Nat), ([] : List Nat)]) (xs := ([1, 0, 0] : List Int)) e4 ⟨⟨rfl, rfl⟩, ⟨⟨rfl, rfl⟩, ⟨⟨rfl, rfl⟩, trivial⟩⟩⟩ (Nat.le_of_ble_eq_true rfl) (List.nodup_cons.2 ⟨(fun h => nomatch h), List.nodup_nil⟩)
 have c1 : (RT.os 3 (RT.int .i64)).val M d4 (.slice (some ⟨a9, 0, none⟩) 3 3) [1, 0, 0] [a9] := c1
 obtain ⟨d5, c2, g1, e5, b1, e6⟩ := new_block d4 [(.slice (some ⟨a6, 0, none⟩) 3 3), (.slice (some ⟨a8, 0, none⟩) 3 3), (.slice (some ⟨a9, 0, none⟩) 3 3)] 25
 refine pl_val (w' := d5) (.slice (some ⟨c2, 0, none⟩) 3 3) (y_bslice rfl (by rw [g1, e5]; kernel_rfl)) ?_
 have h0 := h0.ext b1
 have a0 := a0.cn b1
 have a5 := a5.ext b1
 have a7 := a7.ext b1
 have b2 := b2.ext b1
 have c1 := c1.ext b1
 have hC := hC.ext b1
 have hO := hO.fr1
 have hO := hO.fr2
 have hO := hO.new1 b1 e5 e6.lt
 have hO := hO.perm (R := (c2 :: ((([a6])) ++ ((([a8])) ++ ((([a9])) ++ ([]))))) ++ (d8 ++ (([c5]) ++ ([])))) (by simp)
 have g2 := hO.nd
 have b0 := os_of_box (r := (RT.os 3 (RT.int .i64))) (M := M) (css := [[(.slice (some ⟨a6, 0, none⟩) 3 3)], [(.slice (some ⟨a8, 0, none⟩) 3 3)], [(.slice (some ⟨a9, 0, none⟩) 3 3)]]) (fps := [([a6] : List Nat), ([a8] : List Nat), ([a9] : List Nat)]) (xs := ([[0, 0, 1], [0, 1, 0], [1, 0, 0]] : List (List Int))) e6 ⟨(os_unval a7), ⟨(os_unval b2), ⟨(os_unval c1), trivial⟩⟩⟩ (Nat.le_of_ble_eq_true rfl) g2
 have b0 : (RT.os 25 (RT.os 3 (RT.int .i64))).val M d5 (.slice (some ⟨c2, 0, none⟩) 3 3) [[0, 0, 1], [0, 1, 0], [1, 0, 0]] (c2 :: ((([a6])) ++ ((([a8])) ++ ((([a9])) ++ ([]))))) := b0
 refine pl_val (.slice a2 a3 a4) (y_move rfl) ?_
 refine pl_val (.slice a2 a3 a4) (y_move rfl) ?_
 refine pl_val (.slice a2 a3 a4) (y_move rfl) ?_
 have hO := hO.fr1
 obtain ⟨c3, h1, e7, g3, hO, b4⟩ := frz_own (Frz.os Frz.int) a5 hO
 have h0 := h0.sub (M' := c3) e7
 have b0 := b0.sub (M' := c3) e7
 have hK := g3
 obtain ⟨e8, c8, g4, e9, b7, f0⟩ := new_block d5 [(.slice a2 a3 a4), (.slice a2 a3 a4), (.slice a2 a3 a4)] 25
 refine pl_val (w' := e8) (.slice (some ⟨c8, 0, none⟩) 3 3) (y_bslice rfl (by rw [g4, e9]; kernel_rfl)) ?_
 have h0 := h0.ext b7
 have a0 := a0.cn b7
 have b4 := b4.ext b7
 have b0 := b0.ext b7
 have hC := hC.ext b7
 have hO := hO.new1 b7 e9 f0.lt
 have c4 := os_of_box (r := (RT.rs (RT.int .i64))) (M := c3) (css := [[(.slice a2 a3 a4)], [(.slice a2 a3 a4)], [(.slice a2 a3 a4)]]) (fps := [([] : List Nat), ([] : List Nat), ([] : List Nat)]) (xs := ([r13, r13, r13] : List (List Int))) f0 ⟨(rs_unval b4), ⟨(rs_unval b4), ⟨(rs_unval b4), trivial⟩⟩⟩ (Nat.le_of_ble_eq_true rfl) (List.nodup_cons.2 ⟨(fun h => nomatch h), List.nodup_nil⟩)
 have c4 : (RT.os 25 (RT.rs (RT.int .i64))).val c3 e8 (.slice (some ⟨c8, 0, none⟩) 3 3) [r13, r13, r13] [c8] := c4
 have hO := hO.fr1
 obtain ⟨r27, g5, hs⟩ := bind_some hs
 refine pl_call Bd41 rfl (c_impl_hasValuesAt (M := (Less (Less c3 (c2 :: ((([a6])) ++ ((([a8])) ++ ((([a9])) ++ ([])))))) ([c8]))) n (op.1, op.2) ([[0, 0, 1], [0, 1, 0], [1, 0, 0]]) ([r13, r13, r13]) ((h0.sub Less.sub).sub Less.sub) ((((Frz.os (Frz.os Frz.int))).val b0 Less.sub Less.not).sub Less.sub) (((Frz.os (Frz.rs Frz.int))).val (c4.sub Less.sub) Less.sub Less.not) (hO.less).less.fut g5) ?_
 rintro _ h2 ⟨rfl, b5⟩
 have h0 := h0.ext b5
 have a0 := a0.cn b5
 have b4 := b4.ext b5
 have b0 := b0.ext b5
 have c4 := c4.ext b5
 have hC := hC.ext b5
 have hO := hO.ext b5
 refine pl_val (.bool r27) (y_assign rfl) ?_
 refine pl_val (.bool true) (y_assign rfl) ?_
 refine c_nil ?_
 refine wp_ret ?_
 cases hs
 exact ⟨_, fr_ovl 29 ⟨rfl, rfl, trivial⟩, hC⟩

def k_impl_IsDiscriminatorOp (M : Nat → Prop) (w0 : World) (r : Bool × Bool) (a : Act) (w : World) : Prop :=
  ∃ (σ : Nat → Value) , a = fr 26 (ovl σ [(4, (.bool r.1)), (5, (.bool r.2))]) ∧ Chg [] w0 w
def s_impl_IsDiscriminatorOp (n : Int) (op : Int × (List Int)) : Option (Bool × Bool) :=
  ((s_impl_isSize n).bind fun r7 =>
  (bif (!r7) then some true else (s_impl_isOp (op.1, op.2) n).bind fun r10 =>
  some (!r10))).bind fun s3 =>
  (bif s3 then some (false, false) else (bif (op.1 == 3) then (s_impl_discriminator n).bind fun r15 =>
  (s_impl_sameList op.2 r15.2).bind fun r18 =>
  some (r18, true) else some (false, true)))
set_option maxHeartbeats 4000000 in
theorem c_impl_IsDiscriminatorOp {M : Nat → Prop} {w : World} {pa0 : Option Addr} {pn0 pc0 : Nat} (n : Int) (op : Int × (List Int)) (h0 : (RT.rs (RT.int .i64)).val M w (.slice pa0 pn0 pc0) op.2 ([])) (hM : ∀ g, w.heap.size ≤ g → M g) {r : Bool × Bool} (hs : s_impl_IsDiscriminatorOp n op = some r) :
    Gives Try.prog 14 [(.int .i64 n), (.agg #[(.int .i64 op.1), (.slice pa0 pn0 pc0)])] w (fun v w' => v = (.tuple #[(.bool r.1), (.bool r.2)]) ∧ Chg [] w w') := by
 refine calls_fr Try.func14 rfl Try.ntmps14 (Nat.le_of_ble_eq_true rfl) ?_
 have hO := Own.start (N := Nw w []) hM Nw.fut
 have hC := Chg.refl [] w
 unfold s_impl_IsDiscriminatorOp at hs
 refine wp_mono (Q := KPost (k_impl_IsDiscriminatorOp M w r)) ?_ (fun e a c8 h => ?_)
 rotate_left
 ·cases e
  case ret =>
   obtain ⟨σ, rfl, hrest⟩ := h
   exact ret2x Try.results14 (res_tmp rfl) (res_tmp rfl) ⟨rfl, hrest⟩
  all_goals exact (h : False).elim
 refine c_sr ?_
 obtain ⟨b2, a5, c1, b6, b3, a0⟩ := new_block w [(.int .i64 op.1), (.slice pa0 pn0 pc0)] 27
 refine pl_val (w' := b2) (.pointer (some ⟨a5, 0, none⟩)) (y_box rfl (by rw [c1, b6]; kernel_rfl)) ?_
 have h0 := h0.ext b3
 have hC := hC.ext b3
 have hO := hO.new1 b3 b6 a0.lt
 refine pl_val (.bool false) (y_assign rfl) ?_
 refine pl_val (.bool false) (y_assign rfl) ?_
 refine c_nil ?_
 refine c_seq ?_
 refine c_seq ?_
 obtain ⟨s3, c2, hs⟩ := bind_some hs
 refine c_mid (I := fun a a9 => ∃ (σ : Nat → Value), a = fr 26 (ovl σ [(0, (.int .i64 n)), (3, (.pointer (some ⟨a5, 0, none⟩))), (4, (.bool false)), (5, (.bool false)), (14, (.bool s3))]) ∧ Chg [] b2 a9) ?_ ?_
 ·replace hs := c2
  have hMid := Chg.refl [] b2
  refine c_region ?_
  refine pl_val (.int .i64 n) (y_move rfl) ?_
  obtain ⟨r7, c3, hs⟩ := bind_some hs
  refine pl_call Bd32 rfl (c_impl_isSize (M := M) n  hO.fut c3) ?_
  rintro _ c9 ⟨rfl, a6⟩
  have h0 := h0.ext a6
  have a0 := a0.cn a6
  have hMid := hMid.ext a6
  have hC := hC.ext a6
  have hO := hO.ext a6
  refine pl_val (.bool (!r7)) (y_not rfl) ?_
  refine pl_val (.bool (!r7)) (y_move rfl) ?_
  rcases bif_some hs with ⟨a2, hs⟩ | ⟨a2, hs⟩
  ·skip
   refine pl_not (tg := 9) (by kernel_rfl) (congrArg Value.bool a2) ?_
   refine pl_not (tg := 9) (by kernel_rfl) (congrArg Value.bool a2) ?_
   refine pl_not (tg := 9) (by kernel_rfl) (congrArg Value.bool a2) ?_
   refine pl_not (tg := 9) (by kernel_rfl) (congrArg Value.bool a2) ?_
   refine pl_val (.bool true) (y_pick_t (congrArg Value.bool a2) rfl) ?_
   refine c_nil ?_
   cases hs
   exact ⟨_, fr_ovl 26 ⟨rfl, rfl, rfl, rfl, rfl, trivial⟩, hMid⟩
  refine pl_yes (.agg #[(.int .i64 op.1), (.slice pa0 pn0 pc0)]) (tg := 9) (by kernel_rfl) (congrArg Value.bool a2) (y_load rfl ((box_load Ag27 Sz27 a0 [] [(.int .i64 op.1), (.slice pa0 pn0 pc0)] [] rfl rfl (fun h => nomatch h)) _ (Chg.refl _ _))) ?_
  refine pl_yes (.int .i64 n) (tg := 9) (by kernel_rfl) (congrArg Value.bool a2) (y_move rfl) ?_
  obtain ⟨r10, c4, hs⟩ := bind_some hs
  refine pl_cally (tg := 9) (by kernel_rfl) (congrArg Value.bool a2) Bd38 rfl (c_impl_isOp (M := M) (op.1, op.2) n h0 hO.fut c4) ?_
  rintro _ d0 ⟨rfl, a7⟩
  have h0 := h0.ext a7
  have a0 := a0.cn a7
  have hMid := hMid.ext a7
  have hC := hC.ext a7
  have hO := hO.ext a7
  refine pl_yes (.bool (!r10)) (tg := 9) (by kernel_rfl) (congrArg Value.bool a2) (y_not rfl) ?_
  refine pl_val (.bool (!r10)) (y_pick_f (congrArg Value.bool a2) rfl) ?_
  refine c_nil ?_
  cases hs
  exact ⟨_, fr_ovl 26 ⟨rfl, rfl, rfl, rfl, rfl, trivial⟩, hMid⟩
 rintro d1 a9 ⟨σ, rfl, b0⟩
 have h0 := h0.ext b0
 have a0 := a0.cn b0
 have hC := hC.ext b0
 have hO := hO.ext b0
 rcases bif_some hs with ⟨b4, hs⟩ | ⟨b4, hs⟩
 ·refine c_condT (congrArg Value.bool b4) ?_
  refine c_sr ?_
  refine pl_val (.bool false) (y_assign rfl) ?_
  refine pl_val (.bool false) (y_assign rfl) ?_
  refine c_nil ?_
  refine wp_ret ?_
  cases hs
  exact ⟨_, fr_ovl 26 ⟨rfl, rfl, trivial⟩, hC⟩
 refine c_condF (congrArg Value.bool b4) ?_
 refine wp_skip ?_
 refine c_seq ?_
 refine x_start [] Mx rfl ?_
 have a8 := Chg.drew a9
 generalize World.drew a9 = c5 at a8 ⊢
 have h0 := h0.ext a8
 have a0 := a0.cn a8
 have hC := hC.ext a8
 have hO := hO.ext a8
 have hS := Chg.refl [] c5
 refine x_p 0 (.pointer (some ⟨a5, 0, none⟩)) rfl (by kernel_rfl)  (fun _ => y_faddr rfl Fa27x0) (fun _ => hS) ?_
 refine x_l 1 (.int .i64 op.1) rfl (by kernel_rfl)  (fun w' hw' => y_load rfl ((box_load Ag3 Sz3 a0 [] [(.int .i64 op.1)] [(.slice pa0 pn0 pc0)] rfl rfl (fun _ => rfl)) w' hw')) hS ?_
 refine x_p 2 (.bool (op.1 == 3)) rfl (by kernel_rfl)  (fun _ => y_eql rfl rfl) (fun _ => hS) ?_
 refine x_p 3 (.bool (op.1 == 3)) rfl (by kernel_rfl)  (fun _ => y_move rfl) (fun _ => hS) ?_
 rcases bif_some hs with ⟨a1, hs⟩ | ⟨a1, hs⟩
 ·skip
  refine x_py 4 (.pointer (some ⟨a5, 1, none⟩)) rfl (by kernel_rfl) (tg := 18) (by kernel_rfl) (congrArg Value.bool a1) (fun _ => y_faddr rfl Fa27x1) (fun _ => hS) ?_
  refine x_ly 5 (.slice pa0 pn0 pc0) rfl (by kernel_rfl) (tg := 18) (by kernel_rfl) (congrArg Value.bool a1) (fun w' hw' => y_load rfl ((box_load Ag25 Sz25 a0 [(.int .i64 op.1)] [(.slice pa0 pn0 pc0)] [] rfl rfl (fun _ => rfl)) w' hw')) hS ?_
  refine x_py 6 (.int .i64 n) rfl (by kernel_rfl) (tg := 18) (by kernel_rfl) (congrArg Value.bool a1) (fun _ => y_move rfl) (fun _ => hS) ?_
  refine x_one (i := 7) (by kernel_rfl) ?_
  obtain ⟨r15, c6, hs⟩ := bind_some hs
  refine xk_cally (b := false) rfl (tg := 18) (by kernel_rfl) (congrArg Value.bool a1) Bd33 rfl (c_impl_discriminator (M := M) n  hO.fut c6) rfl (by rintro _ _ _ ⟨b7, b8, b9, b5, rfl, a4, b1, c0⟩; exact hS.ext a4) ?_
  rintro _ d2 ⟨b7, b8, b9, b5, rfl, a4, b1, c0⟩
  have h0 := h0.ext a4
  have a0 := a0.cn a4
  have hC := hC.ext a4
  have hO := Own.join0 hO a4 c0
  have hO := hO.perm (R := b5 ++ (([a5]) ++ ([]))) (by simp)
  have hS := hS.ext a4
  refine x_py 8 (.slice b7 b8 b9) rfl (by kernel_rfl) (tg := 18) (by kernel_rfl) (congrArg Value.bool a1) (fun _ => y_field rfl (by kernel_rfl)) (fun _ => hS) ?_
  refine x_one (i := 9) (by kernel_rfl) ?_
  obtain ⟨r18, c7, hs⟩ := bind_some hs
  refine xk_cally (b := false) rfl (tg := 18) (by kernel_rfl) (congrArg Value.bool a1) Bd42 rfl (c_impl_sameList (M := (Less M b5)) op.2 r15.2 (h0.sub Less.sub) (((Frz.os Frz.int)).val b1 Less.sub Less.not) hO.less.fut c7) rfl (by rintro _ _ _ ⟨rfl, a3⟩; exact hS.ext a3) ?_
  rintro _ d3 ⟨rfl, a3⟩
  have h0 := h0.ext a3
  have a0 := a0.cn a3
  have b1 := b1.ext a3
  have hC := hC.ext a3
  have hO := hO.ext a3
  have hS := hS.ext a3
  refine x_p 10 (.bool r18) rfl (by kernel_rfl)  (fun _ => y_pick_t (congrArg Value.bool a1) rfl) (fun _ => hS) ?_
  refine x_p 11 (.bool r18) rfl (by kernel_rfl)  (fun _ => y_assign rfl) (fun _ => hS) ?_
  refine x_p 12 (.bool true) rfl (by kernel_rfl)  (fun _ => y_assign rfl) (fun _ => hS) ?_
  refine x_end (by kernel_rfl) ?_
  clear hS
  refine wp_ret ?_
  cases hs
  exact ⟨_, fr_ovl 26 ⟨rfl, rfl, trivial⟩, hC⟩
 refine x_pn 4 rfl (by kernel_rfl) (tg := 18) (by kernel_rfl) (congrArg Value.bool a1) (fun _ => hS) ?_
 refine x_pn 5 rfl (by kernel_rfl) (tg := 18) (by kernel_rfl) (congrArg Value.bool a1) (fun _ => hS) ?_
 refine x_pn 6 rfl (by kernel_rfl) (tg := 18) (by kernel_rfl) (congrArg Value.bool a1) (fun _ => hS) ?_
 refine x_pn 7 rfl (by kernel_rfl) (tg := 18) (by kernel_rfl) (congrArg Value.bool a1) (fun _ => hS) ?_
 refine x_pn 8 rfl (by kernel_rfl) (tg := 18) (by kernel_rfl) (congrArg Value.bool a1) (fun _ => hS) ?_
 refine x_pn 9 rfl (by kernel_rfl) (tg := 18) (by kernel_rfl) (congrArg Value.bool a1) (fun _ => hS) ?_
 refine x_p 10 (.bool false) rfl (by kernel_rfl)  (fun _ => y_pick_f (congrArg Value.bool a1) rfl) (fun _ => hS) ?_
 refine x_p 11 (.bool false) rfl (by kernel_rfl)  (fun _ => y_assign rfl) (fun _ => hS) ?_
 refine x_p 12 (.bool true) rfl (by kernel_rfl)  (fun _ => y_assign rfl) (fun _ => hS) ?_
 refine x_end (by kernel_rfl) ?_
 clear hS
 refine wp_ret ?_
 cases hs
 exact ⟨_, fr_ovl 26 ⟨rfl, rfl, trivial⟩, hC⟩

def k_spec_l1Cur__one (M : Nat → Prop) (w0 : World) (vg0 : Nat) (va0x0 : Option Addr) (vn0x0 vc0x0 : Nat) (n : Int) (b0 : (List Int) × Int × Int) (r : Bool × Int × Int) (a : Act) (w : World) : Prop :=
  ∃ (σ : Nat → Value) , a = fr 9 (ovl σ [(4, (.bool r.1))]) ∧ Chg ([vg0] ++ ([])) w0 w ∧ BoxV w vg0 53 [(.slice va0x0 vn0x0 vc0x0), (.int .i64 r.2.1), (.int .u64 r.2.2)] ∧ Own (Nw w0 ([vg0] ++ ([]))) (fun _ => True) w ([vg0] ++ ([]))
def s_spec_l1Cur__one (n : Int) (b0 : (List Int) × Int × Int) : Option (Bool × Int × Int) :=
  (s_spec_l1Cur__pick n (b0.1, b0.2.1, b0.2.2)).bind fun r4 =>
  some ((r4.1 == 0), r4.2.1, r4.2.2)
set_option maxHeartbeats 4000000 in
theorem c_spec_l1Cur__one {M : Nat → Prop} {w : World} {vg0 : Nat} {va0x0 : Option Addr} {vn0x0 vc0x0 : Nat} (n : Int) (b0 : (List Int) × Int × Int) (hb0 : BoxV w vg0 53 [(.slice va0x0 vn0x0 vc0x0), (.int .i64 b0.2.1), (.int .u64 b0.2.2)]) (hl0x0 : (RT.rs (RT.int .u8)).val M w (.slice va0x0 vn0x0 vc0x0) b0.1 ([])) (hI : Own (Nw w ([vg0] ++ ([]))) M w ([vg0] ++ ([]))) (hM : ∀ g, w.heap.size ≤ g → M g) {r : Bool × Int × Int} (hs : s_spec_l1Cur__one n b0 = some r) :
    Gives Try.prog 75 [(.pointer (some ⟨vg0, 0, none⟩)), (.int .i64 n)] w (fun v w' => v = (.bool r.1) ∧ Chg ([vg0] ++ ([])) w w' ∧ BoxV w' vg0 53 [(.slice va0x0 vn0x0 vc0x0), (.int .i64 r.2.1), (.int .u64 r.2.2)] ∧ Own (Nw w ([vg0] ++ ([]))) (fun _ => True) w' ([vg0] ++ ([]))) := by
 refine calls_fr Try.func75 rfl Try.ntmps75 (Nat.le_of_ble_eq_true rfl) ?_
 have hO := hI
 have hC := Chg.refl ([vg0] ++ ([])) w
 unfold s_spec_l1Cur__one at hs
 refine wp_mono (Q := KPost (k_spec_l1Cur__one M w vg0 va0x0 vn0x0 vc0x0 n b0 r)) ?_ (fun e a a7 h => ?_)
 rotate_left
 ·cases e
  case ret =>
   obtain ⟨σ, rfl, hrest⟩ := h
   exact ret1x Try.results75 (res_tmp rfl) ⟨rfl, hrest⟩
  all_goals exact (h : False).elim
 refine c_sr ?_
 refine pl_val (.bool false) (y_assign rfl) ?_
 refine c_nil ?_
 refine c_sr ?_
 refine pl_val (.pointer (some ⟨vg0, 0, none⟩)) (y_move rfl) ?_
 refine pl_val (.int .i64 n) (y_move rfl) ?_
 have a3 := hO
 have a2 := Own.lend (F := (([vg0]) ++ ([]))) (R := []) (Own.perm (a3) (by simp))
 obtain ⟨r4, a4, hs⟩ := bind_some hs
 refine pl_call Bd62 rfl (c_spec_l1Cur__pick (M := M) n (b0.1, b0.2.1, b0.2.2) (show BoxV _ vg0 53 [(.slice va0x0 vn0x0 vc0x0), (.int .i64 b0.2.1), (.int .u64 b0.2.2)] from hb0) hl0x0 a2 a2.fut a4) ?_
 rintro _ a5 ⟨rfl, a0, a1, a6⟩
 have hO := hO.perm (R := (([vg0]) ++ ([])) ++ ([])) (by simp)
 have hl0x0 := hl0x0.mt a0 hO same_
 have hC := hC.st a0 hO same_
 have hO := Own.join hO a0 a6
 have hO := hO.perm (R := [vg0] ++ ([])) (by simp)
 have a1 : BoxV a5 vg0 53 [(.slice va0x0 vn0x0 vc0x0), (.int .i64 r4.2.1), (.int .u64 r4.2.2)] := a1
 refine pl_val (.bool (r4.1 == 0)) (y_eql rfl rfl) ?_
 refine pl_val (.bool (r4.1 == 0)) (y_assign rfl) ?_
 refine c_nil ?_
 refine wp_ret ?_
 cases hs
 exact ⟨_, fr_ovl 9 ⟨rfl, trivial⟩, hC, a1, hO.top⟩

def k_spec_l2Binary (M : Nat → Prop) (w0 : World) (r : (Int × (List Int))) (a : Act) (w : World) : Prop :=
  ∃ (σ : Nat → Value) (rg2 : Nat) (ra0 : Option Addr) (rn0 rc0 : Nat) (rf0 : List Nat), a = fr 23 (ovl σ [(2, (.pointer (some ⟨rg2, 0, none⟩)))]) ∧ BoxV w rg2 27 [(.int .i64 r.1), (.slice ra0 rn0 rc0)] ∧ Chg [] w0 w ∧ (RT.os 3 (RT.int .i64)).val M w (.slice ra0 rn0 rc0) r.2 rf0 ∧ Own (Nw w0 []) (fun _ => True) w (rf0 ++ ([]))
def s_spec_l2Binary (s_ : ByteArray) : Option ((Int × (List Int))) :=
  (forC (S := (List Int)) (R := (Int × (List Int))) (fun k26 s24 =>
  (idxs s_ k26).bind fun x35 =>
  (app s24 ([w64 (IntKind.u8.wrap (x35 - 48))])).bind fun y39 =>
  some (.nx y39)) 0 (s_.size : Int) ([])).bind fun o28 => after o28 (fun r_ => some r_) (fun s24 =>
  some (2, s24))
set_option maxHeartbeats 4000000 in
theorem c_spec_l2Binary {M : Nat → Prop} {w : World}  (s_ : ByteArray)  (hM : ∀ g, w.heap.size ≤ g → M g) {r : (Int × (List Int))} (hs : s_spec_l2Binary s_ = some r) :
    Gives Try.prog 108 [(.string s_)] w (fun v w' => ∃ (ra0 : Option Addr) (rn0 rc0 : Nat) (rf0 : List Nat), v = (.agg #[(.int .i64 r.1), (.slice ra0 rn0 rc0)]) ∧ Chg [] w w' ∧ (RT.os 3 (RT.int .i64)).val M w' (.slice ra0 rn0 rc0) r.2 rf0 ∧ Own (Nw w []) (fun _ => True) w' (rf0 ++ ([]))) := by
 refine calls_fr Try.func108 rfl Try.ntmps108 (Nat.le_of_ble_eq_true rfl) ?_
 have hO := Own.start (N := Nw w []) hM Nw.fut
 have hC := Chg.refl [] w
 unfold s_spec_l2Binary at hs
 refine wp_mono (Q := KPost (k_spec_l2Binary M w r)) ?_ (fun e a b6 h => ?_)
 rotate_left
 ·cases e
  case ret =>
   obtain ⟨σ, rg2, ra0, rn0, rc0, rf0, rfl, hbrg2, hrest⟩ := h
   exact ret1x Try.results108 (res_cell rfl (box_load Ag27 Sz27 hbrg2 [] _ [] rfl rfl (fun h => nomatch h))) ⟨ra0, rn0, rc0, rf0, rfl, hrest⟩
  all_goals exact (h : False).elim
 refine c_sr ?_
 obtain ⟨b6, a4, e3, d2, d3, a0⟩ := new_block w [(.int .i64 0), (.slice none 0 0)] 27
 refine pl_val (w' := b6) (.pointer (some ⟨a4, 0, none⟩)) (y_alloc (by rw [e3, d2]; kernel_rfl)) ?_
 have hC := hC.ext d3
 have hO := hO.new1 d3 d2 a0.lt
 refine c_nil ?_
 refine c_sr ?_
 refine pl_val (.agg #[(.int .i64 2), (.slice none 0 0)]) (y_build rfl (by kernel_rfl)) ?_
 obtain ⟨e4, a3, e5, d4, c4, d5⟩ := new_block b6 [(.int .i64 0), (.slice none 0 0)] 27
 refine pl_val (w' := e4) (.pointer (some ⟨a3, 0, none⟩)) (y_alloc (by rw [e5, d4]; kernel_rfl)) ?_
 have a0 := a0.cn c4
 have hC := hC.ext c4
 have hO := hO.new1 c4 d4 d5.lt
 obtain ⟨d6, e6, c5, a1⟩ := box_store (P := Try.prog) d5 [] [(.int .i64 0), (.slice none 0 0)] [] [(.int .i64 2), (.slice none 0 0)] rfl rfl (by intro u hu; simp only [List.mem_cons, List.not_mem_nil, or_false] at hu; rcases hu with rfl | rfl <;> rfl)
 refine pl_skip (w' := d6) (ys_store rfl rfl (e6 _ _ rfl Sz27)) ?_
 have a0 := a0.ap c5 hO same_ (mem_l (List.mem_singleton.2 rfl))
 have hC := hC.st c5 hO same_
 have hO := hO.ext c5
 have a1 : BoxV d6 a3 27 [(.int .i64 2), (.slice none 0 0)] := a1
 refine c_nil ?_
 refine c_seq ?_
 refine c_sr ?_
 refine pl_val (.int .i64 0) (y_assign rfl) ?_
 refine c_nil ?_
 obtain ⟨o28, e7, hs⟩ := bind_some hs
 refine wp_block ?_
 refine wp_forC (id := 0) (s_.size : Int) (I := fun k26 s24 a a2 => ∃ (σ : Nat → Value) (a5 : Option Addr) (a6 : Nat) (a7 : Nat) (b4 : List Nat), a = fr 23 (ovl σ [(0, (.string s_)), (2, (.pointer (some ⟨a4, 0, none⟩))), (3, (.pointer (some ⟨a3, 0, none⟩))), (4, (.int .i64 k26))]) ∧ Chg [] w a2 ∧ Own (Nw w []) M a2 (b4 ++ (([a3]) ++ (([a4]) ++ []))) ∧ BoxV a2 a4 27 [(.int .i64 0), (.slice none 0 0)] ∧ BoxV a2 a3 27 [(.int .i64 2), (.slice a5 a6 a7)] ∧ (RT.os 3 (RT.int .i64)).val M a2 (.slice a5 a6 a7) s24 b4) (J := fun s24 a a2 => ∃ (σ : Nat → Value) (a8 : Option Addr) (a9 : Nat) (b0 : Nat) (b7 : List Nat), a = fr 23 (ovl σ [(2, (.pointer (some ⟨a4, 0, none⟩))), (3, (.pointer (some ⟨a3, 0, none⟩)))]) ∧ Chg [] w a2 ∧ Own (Nw w []) M a2 (b7 ++ (([a3]) ++ (([a4]) ++ []))) ∧ BoxV a2 a4 27 [(.int .i64 0), (.slice none 0 0)] ∧ BoxV a2 a3 27 [(.int .i64 2), (.slice a8 a9 b0)] ∧ (RT.os 3 (RT.int .i64)).val M a2 (.slice a8 a9 b0) s24 b7) (K := (k_spec_l2Binary M w)) ?_ ?_ 0 ([]) o28 _ _ ?_ e7 ?_
 ·rintro k26 s24 a a2 ⟨σ, a5, a6, a7, b4, rfl, hC, hO, a0, a1, b1⟩ hlt
  refine c_seq ?_
  refine c_sr ?_
  refine pl_val (.int .i64 k26) (y_move rfl) ?_
  refine pl_val (.string s_) (y_move rfl) ?_
  refine pl_val (.int .i64 (s_.size : Int)) (y_lenS Try.underlying9 rfl) ?_
  refine pl_val (.bool (decide (k26 < (s_.size : Int)))) (y_lss rfl rfl) ?_
  refine c_nil ?_
  refine c_condF (congrArg Value.bool (decide_eq_false hlt)) ?_
  refine wp_exit ?_
  have hO := hO.fr2
  have hO := hO.fr2
  have hO := hO.fr2
  exact ⟨rfl, _, a5, a6, a7, b4, fr_ovl 23 ⟨rfl, rfl, trivial⟩, hC, hO, a0, a1, b1⟩
 ·rintro k26 s24 o28 a a2 ⟨σ, a5, a6, a7, b4, rfl, hC, hO, a0, a1, b1⟩ hlt hw hs
  refine c_seq ?_
  refine c_sr ?_
  refine pl_val (.int .i64 k26) (y_move rfl) ?_
  refine pl_val (.string s_) (y_move rfl) ?_
  refine pl_val (.int .i64 (s_.size : Int)) (y_lenS Try.underlying9 rfl) ?_
  refine pl_val (.bool (decide (k26 < (s_.size : Int)))) (y_lss rfl rfl) ?_
  refine c_nil ?_
  refine c_condT (congrArg Value.bool (decide_eq_true hlt)) ?_
  refine wp_skip ?_
  refine c_seq ?_
  refine wp_block ?_
  refine x_start [8, 10] Mx rfl ?_
  have b3 := Chg.drew a2
  generalize World.drew a2 = d7 at b3 ⊢
  have a0 := a0.cn b3
  have a1 := a1.cn b3
  have b1 := b1.ext b3
  have hC := hC.ext b3
  have hO := hO.ext b3
  have hS := Chg.refl [] d7
  refine x_p 0 (.pointer (some ⟨a3, 1, none⟩)) rfl (by kernel_rfl)  (fun _ => y_faddr rfl Fa27x1) (fun _ => hS) ?_
  refine x_l 1 (.slice a5 a6 a7) rfl (by kernel_rfl)  (fun w' hw' => y_load rfl ((box_load Ag25 Sz25 a1 [(.int .i64 2)] [(.slice a5 a6 a7)] [] rfl rfl (fun _ => rfl)) w' hw')) hS ?_
  refine x_p 2 (.string s_) rfl (by kernel_rfl)  (fun _ => y_move rfl) (fun _ => hS) ?_
  refine x_p 3 (.int .i64 k26) rfl (by kernel_rfl)  (fun _ => y_move rfl) (fun _ => hS) ?_
  obtain ⟨x35, e8, hs⟩ := bind_some hs
  refine x_p 4 (.int .u8 x35) rfl (by kernel_rfl)  (fun _ => y_idxS Try.underlying9 e8 rfl rfl) (fun _ => hS) ?_
  refine x_p 5 (.int .u8 (IntKind.u8.wrap (x35 - 48))) rfl (by kernel_rfl)  (fun _ => y_sub rfl rfl) (fun _ => hS) ?_
  refine x_one (i := 6) (by kernel_rfl) ?_
  refine xk_val (b := false) (.int .i64 (w64 (IntKind.u8.wrap (x35 - 48)))) rfl  (y_conv_int Try.underlying5 Try.underlying3 rfl) rfl (fun _ => hS) ?_
  refine x_one (i := 7) (by kernel_rfl) ?_
  obtain ⟨d8, c6, e9, d9, b2, e0⟩ := new_block d7 [(.int .i64 (w64 (IntKind.u8.wrap (x35 - 48))))] 3
  refine xk_val (w' := d8) (b := false) (.slice (some ⟨c6, 0, none⟩) 1 1) rfl  (y_bslice rfl (by rw [e9, d9]; kernel_rfl)) rfl (fun _ => hS.ext b2) ?_
  have a0 := a0.cn b2
  have a1 := a1.cn b2
  have b1 := b1.ext b2
  have hC := hC.ext b2
  have hO := hO.new1 b2 d9 e0.lt
  have c7 := os_of_box (r := (RT.int .i64)) (M := M) (css := [[(.int .i64 (w64 (IntKind.u8.wrap (x35 - 48))))]]) (fps := [([] : List Nat)]) (xs := ([w64 (IntKind.u8.wrap (x35 - 48))] : List Int)) e0 ⟨⟨rfl, rfl⟩, trivial⟩ (Nat.le_of_ble_eq_true rfl) (List.nodup_cons.2 ⟨(fun h => nomatch h), List.nodup_nil⟩)
  have c7 : (RT.os 3 (RT.int .i64)).val M d8 (.slice (some ⟨c6, 0, none⟩) 1 1) [w64 (IntKind.u8.wrap (x35 - 48))] [c6] := c7
  have hS := hS.ext b2
  refine x_one (i := 8) (by kernel_rfl) ?_
  obtain ⟨y39, f0, hs⟩ := bind_some hs
  have hO := hO.fr1
  obtain ⟨b8, b9, c0, f1, f2, f3, c1, f4, b5⟩ := app_os Rw25 f0 b1 c7 hO.inM (fun g hg hq => hO.apart g hq (mem_l hg))
  have c8 := os_block b1
  refine xk_val (w' := f1) (b := true) (.slice b8 b9 c0) rfl  (y_append rfl rfl (f3 _)) rfl (fun h => nomatch h) ?_
  have hO := hO.fr1
  have hO := hO.fr1
  have a0 := a0.ap c1 hO c8 (mem_r (mem_r (mem_l (List.mem_singleton.2 rfl))))
  have a1 := a1.ap c1 hO c8 (mem_r (mem_l (List.mem_singleton.2 rfl)))
  have hC := hC.st c1 hO c8
  have hO := hO.eat c1 f4 (os_nodup b5) b5.fpl
  refine x_p 9 (.pointer (some ⟨a3, 1, none⟩)) rfl (by kernel_rfl)  (fun _ => y_faddr rfl Fa27x1) (fun h => nomatch h) ?_
  refine x_one (i := 10) (by kernel_rfl) ?_
  obtain ⟨e1, f5, c2, c9⟩ := box_store (P := Try.prog) a1 [(.int .i64 2)] [(.slice a5 a6 a7)] [] [(.slice b8 b9 c0)] rfl rfl (by intro u hu; simp only [List.mem_cons, List.not_mem_nil, or_false] at hu; rcases hu with rfl <;> rfl)
  refine xk_skip (w' := e1) (b := true) rfl (ys_store rfl rfl (f5 _ _ rfl Sz25)) rfl (fun h => nomatch h) ?_
  have hO := hO.fr1
  have a0 := a0.ap c2 hO same_ (mem_r (mem_l (List.mem_singleton.2 rfl)))
  have b5 := b5.ma c2 hO same_ (fun _ e => (mem_l (e)))
  have hC := hC.st c2 hO same_
  have hO := hO.ext c2
  have c9 : BoxV e1 a3 27 [(.int .i64 2), (.slice b8 b9 c0)] := c9
  refine x_end (by kernel_rfl) ?_
  clear hS
  refine c_region ?_
  refine pl_val (.int .i64 k26) (y_move rfl) ?_
  refine pl_val (.int .i64 (w64 (k26 + 1))) (y_add rfl rfl) ?_
  refine pl_val (.int .i64 (w64 (k26 + 1))) (y_assign rfl) ?_
  refine c_nil ?_
  cases hs
  have hO := hO.fr2
  have hO := hO.fr1
  have hO := hO.fr2
  exact ⟨_, b8, b9, c0, f2, fr_ovl 23 ⟨rfl, rfl, rfl, congrArg (Value.int .i64) hw, trivial⟩, hC, hO, a0, c9, b5⟩
 ·skip
  have hO := hO.fr1
  have hO := hO.fr1
  have hO := hO.nil
  exact ⟨_, none, 0, 0, [], fr_ovl 23 ⟨rfl, rfl, rfl, rfl, trivial⟩, hC, hO, a0, a1, os_nil⟩
 cases o28 with
 | nx _ => exact True.intro
 | rt r_ =>
  have hs := after_rt hs
  intro f6 b6 hK
  cases hs
  exact hK
 | br s24 =>
  have hs := after_br hs
  rintro f6 a2 ⟨σ, a8, a9, b0, b7, rfl, hC, hO, a0, a1, d0⟩
  refine c_sr ?_
  refine pl_val (.agg #[(.int .i64 2), (.slice a8 a9 b0)]) (y_load rfl ((box_load Ag27 Sz27 a1 [] [(.int .i64 2), (.slice a8 a9 b0)] [] rfl rfl (fun h => nomatch h)) _ (Chg.refl _ _))) ?_
  obtain ⟨e2, f7, c3, d1⟩ := box_store (P := Try.prog) a0 [] [(.int .i64 0), (.slice none 0 0)] [] [(.int .i64 2), (.slice a8 a9 b0)] rfl rfl (by intro u hu; simp only [List.mem_cons, List.not_mem_nil, or_false] at hu; rcases hu with rfl | rfl <;> rfl)
  refine pl_skip (w' := e2) (ys_store rfl rfl (f7 _ _ rfl Sz27)) ?_
  have hO := hO.fr2
  have a1 := a1.ap c3 hO same_ (mem_r (mem_l (List.mem_singleton.2 rfl)))
  have d0 := d0.ma c3 hO same_ (fun _ e => (mem_l (e)))
  have hC := hC.st c3 hO same_
  have hO := hO.ext c3
  have d1 : BoxV e2 a4 27 [(.int .i64 2), (.slice a8 a9 b0)] := d1
  refine c_nil ?_
  refine wp_ret ?_
  cases hs
  have hO := hO.drop
  have hO := hO.fr1
  have hO := hO.drop
  exact ⟨_, a4, a8, a9, b0, b7, fr_ovl 23 ⟨rfl, trivial⟩, d1, hC, d0, hO.top⟩

def k_spec_l2Affine (M : Nat → Prop) (w0 : World) (r : (Int × (List Int))) (a : Act) (w : World) : Prop :=
  ∃ (σ : Nat → Value) (rg2 : Nat) (ra0 : Option Addr) (rn0 rc0 : Nat) (rf0 : List Nat), a = fr 40 (ovl σ [(2, (.pointer (some ⟨rg2, 0, none⟩)))]) ∧ BoxV w rg2 27 [(.int .i64 r.1), (.slice ra0 rn0 rc0)] ∧ Chg [] w0 w ∧ (RT.os 3 (RT.int .i64)).val M w (.slice ra0 rn0 rc0) r.2 rf0 ∧ Own (Nw w0 []) (fun _ => True) w (rf0 ++ ([]))
def s_spec_l2Affine (n : Int) : Option ((Int × (List Int))) :=
  (forC (S := (List Int)) (R := (Int × (List Int))) (fun k34 s32 =>
  (nz (w64 (n * n))).bind fun u43 =>
  (nz n).bind fun u44 =>
  (nz n).bind fun u45 =>
  (nz n).bind fun u46 =>
  (nz n).bind fun u47 =>
  (app s32 ([Int.tmod (w64 ((w64 ((w64 ((w64 (Int.tdiv k34 (w64 (n * n)))) + n)) - (Int.tmod (w64 (Int.tdiv k34 n)) n))) + (Int.tmod k34 n))) n])).bind fun y51 =>
  some (.nx y51)) 0 (w64 ((w64 (n * n)) * n)) ([])).bind fun o36 => after o36 (fun r_ => some r_) (fun s32 =>
  some (3, s32))
set_option maxHeartbeats 4000000 in
theorem c_spec_l2Affine {M : Nat → Prop} {w : World}  (n : Int)  (hM : ∀ g, w.heap.size ≤ g → M g) {r : (Int × (List Int))} (hs : s_spec_l2Affine n = some r) :
    Gives Try.prog 109 [(.int .i64 n)] w (fun v w' => ∃ (ra0 : Option Addr) (rn0 rc0 : Nat) (rf0 : List Nat), v = (.agg #[(.int .i64 r.1), (.slice ra0 rn0 rc0)]) ∧ Chg [] w w' ∧ (RT.os 3 (RT.int .i64)).val M w' (.slice ra0 rn0 rc0) r.2 rf0 ∧ Own (Nw w []) (fun _ => True) w' (rf0 ++ ([]))) := by
 refine calls_fr Try.func109 rfl Try.ntmps109 (Nat.le_of_ble_eq_true rfl) ?_
 have hO := Own.start (N := Nw w []) hM Nw.fut
 have hC := Chg.refl [] w
 unfold s_spec_l2Affine at hs
 refine wp_mono (Q := KPost (k_spec_l2Affine M w r)) ?_ (fun e a b6 h => ?_)
 rotate_left
 ·cases e
  case ret =>
   obtain ⟨σ, rg2, ra0, rn0, rc0, rf0, rfl, hbrg2, hrest⟩ := h
   exact ret1x Try.results109 (res_cell rfl (box_load Ag27 Sz27 hbrg2 [] _ [] rfl rfl (fun h => nomatch h))) ⟨ra0, rn0, rc0, rf0, rfl, hrest⟩
  all_goals exact (h : False).elim
 refine c_sr ?_
 obtain ⟨b6, a4, e3, d2, d3, a0⟩ := new_block w [(.int .i64 0), (.slice none 0 0)] 27
 refine pl_val (w' := b6) (.pointer (some ⟨a4, 0, none⟩)) (y_alloc (by rw [e3, d2]; kernel_rfl)) ?_
 have hC := hC.ext d3
 have hO := hO.new1 d3 d2 a0.lt
 refine c_nil ?_
 refine c_sr ?_
 refine pl_val (.agg #[(.int .i64 3), (.slice none 0 0)]) (y_build rfl (by kernel_rfl)) ?_
 obtain ⟨e4, a3, e5, d4, c4, d5⟩ := new_block b6 [(.int .i64 0), (.slice none 0 0)] 27
 refine pl_val (w' := e4) (.pointer (some ⟨a3, 0, none⟩)) (y_alloc (by rw [e5, d4]; kernel_rfl)) ?_
 have a0 := a0.cn c4
 have hC := hC.ext c4
 have hO := hO.new1 c4 d4 d5.lt
 obtain ⟨d6, e6, c5, a1⟩ := box_store (P := Try.prog) d5 [] [(.int .i64 0), (.slice none 0 0)] [] [(.int .i64 3), (.slice none 0 0)] rfl rfl (by intro u hu; simp only [List.mem_cons, List.not_mem_nil, or_false] at hu; rcases hu with rfl | rfl <;> rfl)
 refine pl_skip (w' := d6) (ys_store rfl rfl (e6 _ _ rfl Sz27)) ?_
 have a0 := a0.ap c5 hO same_ (mem_l (List.mem_singleton.2 rfl))
 have hC := hC.st c5 hO same_
 have hO := hO.ext c5
 have a1 : BoxV d6 a3 27 [(.int .i64 3), (.slice none 0 0)] := a1
 refine c_nil ?_
 refine c_seq ?_
 refine c_sr ?_
 refine pl_val (.int .i64 0) (y_assign rfl) ?_
 refine c_nil ?_
 obtain ⟨o36, e7, hs⟩ := bind_some hs
 refine wp_block ?_
 refine wp_forC (id := 0) (w64 ((w64 (n * n)) * n)) (I := fun k34 s32 a a2 => ∃ (σ : Nat → Value) (a5 : Option Addr) (a6 : Nat) (a7 : Nat) (b4 : List Nat), a = fr 40 (ovl σ [(0, (.int .i64 n)), (2, (.pointer (some ⟨a4, 0, none⟩))), (3, (.pointer (some ⟨a3, 0, none⟩))), (4, (.int .i64 k34))]) ∧ Chg [] w a2 ∧ Own (Nw w []) M a2 (b4 ++ (([a3]) ++ (([a4]) ++ []))) ∧ BoxV a2 a4 27 [(.int .i64 0), (.slice none 0 0)] ∧ BoxV a2 a3 27 [(.int .i64 3), (.slice a5 a6 a7)] ∧ (RT.os 3 (RT.int .i64)).val M a2 (.slice a5 a6 a7) s32 b4) (J := fun s32 a a2 => ∃ (σ : Nat → Value) (a8 : Option Addr) (a9 : Nat) (b0 : Nat) (b7 : List Nat), a = fr 40 (ovl σ [(2, (.pointer (some ⟨a4, 0, none⟩))), (3, (.pointer (some ⟨a3, 0, none⟩)))]) ∧ Chg [] w a2 ∧ Own (Nw w []) M a2 (b7 ++ (([a3]) ++ (([a4]) ++ []))) ∧ BoxV a2 a4 27 [(.int .i64 0), (.slice none 0 0)] ∧ BoxV a2 a3 27 [(.int .i64 3), (.slice a8 a9 b0)] ∧ (RT.os 3 (RT.int .i64)).val M a2 (.slice a8 a9 b0) s32 b7) (K := (k_spec_l2Affine M w)) ?_ ?_ 0 ([]) o36 _ _ ?_ e7 ?_
 ·rintro k34 s32 a a2 ⟨σ, a5, a6, a7, b4, rfl, hC, hO, a0, a1, b1⟩ hlt
  refine c_seq ?_
  refine c_sr ?_
  refine pl_val (.int .i64 k34) (y_move rfl) ?_
  refine pl_val (.int .i64 n) (y_move rfl) ?_
  refine pl_val (.int .i64 n) (y_move rfl) ?_
  refine pl_val (.int .i64 (w64 (n * n))) (y_mul rfl rfl) ?_
  refine pl_val (.int .i64 n) (y_move rfl) ?_
  refine pl_val (.int .i64 (w64 ((w64 (n * n)) * n))) (y_mul rfl rfl) ?_
  refine pl_val (.bool (decide (k34 < (w64 ((w64 (n * n)) * n))))) (y_lss rfl rfl) ?_
  refine c_nil ?_
  refine c_condF (congrArg Value.bool (decide_eq_false hlt)) ?_
  refine wp_exit ?_
  have hO := hO.fr2
  have hO := hO.fr2
  have hO := hO.fr2
  exact ⟨rfl, _, a5, a6, a7, b4, fr_ovl 40 ⟨rfl, rfl, trivial⟩, hC, hO, a0, a1, b1⟩
 ·rintro k34 s32 o36 a a2 ⟨σ, a5, a6, a7, b4, rfl, hC, hO, a0, a1, b1⟩ hlt hw hs
  refine c_seq ?_
  refine c_sr ?_
  refine pl_val (.int .i64 k34) (y_move rfl) ?_
  refine pl_val (.int .i64 n) (y_move rfl) ?_
  refine pl_val (.int .i64 n) (y_move rfl) ?_
  refine pl_val (.int .i64 (w64 (n * n))) (y_mul rfl rfl) ?_
  refine pl_val (.int .i64 n) (y_move rfl) ?_
  refine pl_val (.int .i64 (w64 ((w64 (n * n)) * n))) (y_mul rfl rfl) ?_
  refine pl_val (.bool (decide (k34 < (w64 ((w64 (n * n)) * n))))) (y_lss rfl rfl) ?_
  refine c_nil ?_
  refine c_condT (congrArg Value.bool (decide_eq_true hlt)) ?_
  refine wp_skip ?_
  refine c_seq ?_
  refine wp_block ?_
  refine x_start [22, 24] Mx rfl ?_
  have b3 := Chg.drew a2
  generalize World.drew a2 = d7 at b3 ⊢
  have a0 := a0.cn b3
  have a1 := a1.cn b3
  have b1 := b1.ext b3
  have hC := hC.ext b3
  have hO := hO.ext b3
  have hS := Chg.refl [] d7
  refine x_p 0 (.pointer (some ⟨a3, 1, none⟩)) rfl (by kernel_rfl)  (fun _ => y_faddr rfl Fa27x1) (fun _ => hS) ?_
  refine x_l 1 (.slice a5 a6 a7) rfl (by kernel_rfl)  (fun w' hw' => y_load rfl ((box_load Ag25 Sz25 a1 [(.int .i64 3)] [(.slice a5 a6 a7)] [] rfl rfl (fun _ => rfl)) w' hw')) hS ?_
  refine x_p 2 (.int .i64 k34) rfl (by kernel_rfl)  (fun _ => y_move rfl) (fun _ => hS) ?_
  refine x_p 3 (.int .i64 n) rfl (by kernel_rfl)  (fun _ => y_move rfl) (fun _ => hS) ?_
  refine x_p 4 (.int .i64 n) rfl (by kernel_rfl)  (fun _ => y_move rfl) (fun _ => hS) ?_
  refine x_p 5 (.int .i64 (w64 (n * n))) rfl (by kernel_rfl)  (fun _ => y_mul rfl rfl) (fun _ => hS) ?_
  obtain ⟨u43, e8, hs⟩ := bind_some hs
  refine x_p 6 (.int .i64 (w64 (Int.tdiv k34 (w64 (n * n))))) rfl (by kernel_rfl)  (fun _ => y_quo rfl rfl (nz_ne e8)) (fun _ => hS) ?_
  refine x_p 7 (.int .i64 n) rfl (by kernel_rfl)  (fun _ => y_move rfl) (fun _ => hS) ?_
  refine x_p 8 (.int .i64 (w64 ((w64 (Int.tdiv k34 (w64 (n * n)))) + n))) rfl (by kernel_rfl)  (fun _ => y_add rfl rfl) (fun _ => hS) ?_
  refine x_p 9 (.int .i64 k34) rfl (by kernel_rfl)  (fun _ => y_move rfl) (fun _ => hS) ?_
  refine x_p 10 (.int .i64 n) rfl (by kernel_rfl)  (fun _ => y_move rfl) (fun _ => hS) ?_
  obtain ⟨u44, e9, hs⟩ := bind_some hs
  refine x_p 11 (.int .i64 (w64 (Int.tdiv k34 n))) rfl (by kernel_rfl)  (fun _ => y_quo rfl rfl (nz_ne e9)) (fun _ => hS) ?_
  refine x_p 12 (.int .i64 n) rfl (by kernel_rfl)  (fun _ => y_move rfl) (fun _ => hS) ?_
  obtain ⟨u45, f0, hs⟩ := bind_some hs
  refine x_p 13 (.int .i64 (Int.tmod (w64 (Int.tdiv k34 n)) n)) rfl (by kernel_rfl)  (fun _ => y_rem rfl rfl (nz_ne f0)) (fun _ => hS) ?_
  refine x_p 14 (.int .i64 (w64 ((w64 ((w64 (Int.tdiv k34 (w64 (n * n)))) + n)) - (Int.tmod (w64 (Int.tdiv k34 n)) n)))) rfl (by kernel_rfl)  (fun _ => y_sub rfl rfl) (fun _ => hS) ?_
  refine x_p 15 (.int .i64 k34) rfl (by kernel_rfl)  (fun _ => y_move rfl) (fun _ => hS) ?_
  refine x_p 16 (.int .i64 n) rfl (by kernel_rfl)  (fun _ => y_move rfl) (fun _ => hS) ?_
  obtain ⟨u46, f1, hs⟩ := bind_some hs
  refine x_p 17 (.int .i64 (Int.tmod k34 n)) rfl (by kernel_rfl)  (fun _ => y_rem rfl rfl (nz_ne f1)) (fun _ => hS) ?_
  refine x_p 18 (.int .i64 (w64 ((w64 ((w64 ((w64 (Int.tdiv k34 (w64 (n * n)))) + n)) - (Int.tmod (w64 (Int.tdiv k34 n)) n))) + (Int.tmod k34 n)))) rfl (by kernel_rfl)  (fun _ => y_add rfl rfl) (fun _ => hS) ?_
  refine x_p 19 (.int .i64 n) rfl (by kernel_rfl)  (fun _ => y_move rfl) (fun _ => hS) ?_
  obtain ⟨u47, f2, hs⟩ := bind_some hs
  refine x_p 20 (.int .i64 (Int.tmod (w64 ((w64 ((w64 ((w64 (Int.tdiv k34 (w64 (n * n)))) + n)) - (Int.tmod (w64 (Int.tdiv k34 n)) n))) + (Int.tmod k34 n))) n)) rfl (by kernel_rfl)  (fun _ => y_rem rfl rfl (nz_ne f2)) (fun _ => hS) ?_
  refine x_one (i := 21) (by kernel_rfl) ?_
  obtain ⟨d8, c6, f3, d9, b2, e0⟩ := new_block d7 [(.int .i64 (Int.tmod (w64 ((w64 ((w64 ((w64 (Int.tdiv k34 (w64 (n * n)))) + n)) - (Int.tmod (w64 (Int.tdiv k34 n)) n))) + (Int.tmod k34 n))) n))] 3
  refine xk_val (w' := d8) (b := false) (.slice (some ⟨c6, 0, none⟩) 1 1) rfl  (y_bslice rfl (by rw [f3, d9]; kernel_rfl)) rfl (fun _ => hS.ext b2) ?_
  have a0 := a0.cn b2
  have a1 := a1.cn b2
  have b1 := b1.ext b2
  have hC := hC.ext b2
  have hO := hO.new1 b2 d9 e0.lt
  have c7 := os_of_box (r := (RT.int .i64)) (M := M) (css := [[(.int .i64 (Int.tmod (w64 ((w64 ((w64 ((w64 (Int.tdiv k34 (w64 (n * n)))) + n)) - (Int.tmod (w64 (Int.tdiv k34 n)) n))) + (Int.tmod k34 n))) n))]]) (fps := [([] : List Nat)]) (xs := ([Int.tmod (w64 ((w64 ((w64 ((w64 (Int.tdiv k34 (w64 (n * n)))) + n)) - (Int.tmod (w64 (Int.tdiv k34 n)) n))) + (Int.tmod k34 n))) n] : List Int)) e0 ⟨⟨rfl, rfl⟩, trivial⟩ (Nat.le_of_ble_eq_true rfl) (List.nodup_cons.2 ⟨(fun h => nomatch h), List.nodup_nil⟩)
  have c7 : (RT.os 3 (RT.int .i64)).val M d8 (.slice (some ⟨c6, 0, none⟩) 1 1) [Int.tmod (w64 ((w64 ((w64 ((w64 (Int.tdiv k34 (w64 (n * n)))) + n)) - (Int.tmod (w64 (Int.tdiv k34 n)) n))) + (Int.tmod k34 n))) n] [c6] := c7
  have hS := hS.ext b2
  refine x_one (i := 22) (by kernel_rfl) ?_
  obtain ⟨y51, f4, hs⟩ := bind_some hs
  have hO := hO.fr1
  obtain ⟨b8, b9, c0, f5, f6, f7, c1, f8, b5⟩ := app_os Rw25 f4 b1 c7 hO.inM (fun g hg hq => hO.apart g hq (mem_l hg))
  have c8 := os_block b1
  refine xk_val (w' := f5) (b := true) (.slice b8 b9 c0) rfl  (y_append rfl rfl (f7 _)) rfl (fun h => nomatch h) ?_
  have hO := hO.fr1
  have hO := hO.fr1
  have a0 := a0.ap c1 hO c8 (mem_r (mem_r (mem_l (List.mem_singleton.2 rfl))))
  have a1 := a1.ap c1 hO c8 (mem_r (mem_l (List.mem_singleton.2 rfl)))
  have hC := hC.st c1 hO c8
  have hO := hO.eat c1 f8 (os_nodup b5) b5.fpl
  refine x_p 23 (.pointer (some ⟨a3, 1, none⟩)) rfl (by kernel_rfl)  (fun _ => y_faddr rfl Fa27x1) (fun h => nomatch h) ?_
  refine x_one (i := 24) (by kernel_rfl) ?_
  obtain ⟨e1, f9, c2, c9⟩ := box_store (P := Try.prog) a1 [(.int .i64 3)] [(.slice a5 a6 a7)] [] [(.slice b8 b9 c0)] rfl rfl (by intro u hu; simp only [List.mem_cons, List.not_mem_nil, or_false] at hu; rcases hu with rfl <;> rfl)
  refine xk_skip (w' := e1) (b := true) rfl (ys_store rfl rfl (f9 _ _ rfl Sz25)) rfl (fun h => nomatch h) ?_
  have hO := hO.fr1
  have a0 := a0.ap c2 hO same_ (mem_r (mem_l (List.mem_singleton.2 rfl)))
  have b5 := b5.ma c2 hO same_ (fun _ e => (mem_l (e)))
  have hC := hC.st c2 hO same_
  have hO := hO.ext c2
  have c9 : BoxV e1 a3 27 [(.int .i64 3), (.slice b8 b9 c0)] := c9
  refine x_end (by kernel_rfl) ?_
  clear hS
  refine c_region ?_
  refine pl_val (.int .i64 k34) (y_move rfl) ?_
  refine pl_val (.int .i64 (w64 (k34 + 1))) (y_add rfl rfl) ?_
  refine pl_val (.int .i64 (w64 (k34 + 1))) (y_assign rfl) ?_
  refine c_nil ?_
  cases hs
  have hO := hO.fr2
  have hO := hO.fr1
  have hO := hO.fr2
  exact ⟨_, b8, b9, c0, f6, fr_ovl 40 ⟨rfl, rfl, rfl, congrArg (Value.int .i64) hw, trivial⟩, hC, hO, a0, c9, b5⟩
 ·skip
  have hO := hO.fr1
  have hO := hO.fr1
  have hO := hO.nil
  exact ⟨_, none, 0, 0, [], fr_ovl 40 ⟨rfl, rfl, rfl, rfl, trivial⟩, hC, hO, a0, a1, os_nil⟩
 cases o36 with
 | nx _ => exact True.intro
 | rt r_ =>
  have hs := after_rt hs
  intro g0 b6 hK
  cases hs
  exact hK
 | br s32 =>
  have hs := after_br hs
  rintro g0 a2 ⟨σ, a8, a9, b0, b7, rfl, hC, hO, a0, a1, d0⟩
  refine c_sr ?_
  refine pl_val (.agg #[(.int .i64 3), (.slice a8 a9 b0)]) (y_load rfl ((box_load Ag27 Sz27 a1 [] [(.int .i64 3), (.slice a8 a9 b0)] [] rfl rfl (fun h => nomatch h)) _ (Chg.refl _ _))) ?_
  obtain ⟨e2, g1, c3, d1⟩ := box_store (P := Try.prog) a0 [] [(.int .i64 0), (.slice none 0 0)] [] [(.int .i64 3), (.slice a8 a9 b0)] rfl rfl (by intro u hu; simp only [List.mem_cons, List.not_mem_nil, or_false] at hu; rcases hu with rfl | rfl <;> rfl)
  refine pl_skip (w' := e2) (ys_store rfl rfl (g1 _ _ rfl Sz27)) ?_
  have hO := hO.fr2
  have a1 := a1.ap c3 hO same_ (mem_r (mem_l (List.mem_singleton.2 rfl)))
  have d0 := d0.ma c3 hO same_ (fun _ e => (mem_l (e)))
  have hC := hC.st c3 hO same_
  have hO := hO.ext c3
  have d1 : BoxV e2 a4 27 [(.int .i64 3), (.slice a8 a9 b0)] := d1
  refine c_nil ?_
  refine wp_ret ?_
  cases hs
  have hO := hO.drop
  have hO := hO.fr1
  have hO := hO.drop
  exact ⟨_, a4, a8, a9, b0, b7, fr_ovl 40 ⟨rfl, trivial⟩, d1, hC, d0, hO.top⟩

theorem Ag98 : AggT Try.prog 98 true := fun _ => by kernel_rfl

theorem Sz98 : SzT Try.prog 98 2 := ⟨_, rfl, rfl⟩

theorem Bd108 : Bodied Try.prog 108 := bodied Try.func108 (by kernel_rfl) rfl

theorem Bd109 : Bodied Try.prog 109 := bodied Try.func109 (by kernel_rfl) rfl

def k_spec_l2Known (M : Nat → Prop) (w0 : World) (r : (Int × (List (Int × (List Int))))) (a : Act) (w : World) : Prop :=
  ∃ (σ : Nat → Value) (rg2 : Nat) (ra0 : Option Addr) (rn0 rc0 : Nat) (rf0 : List Nat), a = fr 96 (ovl σ [(2, (.pointer (some ⟨rg2, 0, none⟩)))]) ∧ BoxV w rg2 98 [(.int .i64 r.1), (.slice ra0 rn0 rc0)] ∧ Chg [] w0 w ∧ (RT.os 27 (RT.pr (RT.int .i64) (RT.os 3 (RT.int .i64)))).val M w (.slice ra0 rn0 rc0) r.2 rf0 ∧ Own (Nw w0 []) (fun _ => True) w (rf0 ++ ([]))
def s_spec_l2Known (k : Int) : Option ((Int × (List (Int × (List Int))))) :=
  (bif (k == 0) then (s_spec_l2Binary (ByteArray.mk #[48, 48, 48, 49])).bind fun r4 =>
  some (2, [(r4.1, r4.2)]) else (bif (k == 1) then (s_spec_l2Binary (ByteArray.mk #[48, 48, 48, 49])).bind fun r11 =>
  (s_spec_l2Binary (ByteArray.mk #[48, 49, 49, 49])).bind fun r14 =>
  some (2, [(r11.1, r11.2), (r14.1, r14.2)]) else (bif (k == 2) then (s_spec_l2Binary (ByteArray.mk #[48, 48, 48, 49])).bind fun r21 =>
  (s_spec_l2Binary (ByteArray.mk #[48, 49, 49, 49])).bind fun r24 =>
  some (2, [(r21.1, r21.2), (r24.1, r24.2), (1, [1, 0])]) else (bif (k == 3) then (s_spec_l2Affine 2).bind fun r33 =>
  some (2, [(r33.1, r33.2)]) else (bif (k == 4) then (s_spec_l2Binary (ByteArray.mk #[48, 49, 50, 49, 50, 48, 50, 48, 49])).bind fun r40 =>
  some (3, [(r40.1, r40.2)]) else (bif (k == 5) then (s_spec_l2Binary (ByteArray.mk #[48, 49, 48, 49, 49, 50, 48, 50, 50])).bind fun r47 =>
  some (3, [(r47.1, r47.2)]) else (bif (k == 6) then (s_spec_l2Binary (ByteArray.mk #[48, 49, 50, 51, 49, 48, 51, 50, 50, 51, 48, 49, 51, 50, 49, 48])).bind fun r54 =>
  some (4, [(r54.1, r54.2)]) else (bif (k == 7) then (s_spec_l2Binary (ByteArray.mk #[48, 48, 48, 48, 49, 49, 48, 49, 50])).bind fun r61 =>
  (s_spec_l2Binary (ByteArray.mk #[48, 49, 50, 49, 49, 50, 50, 50, 50])).bind fun r64 =>
  some (3, [(r61.1, r61.2), (r64.1, r64.2)]) else (bif (k == 8) then some (4, [(1, [1, 2, 3, 0])]) else (bif (k == 9) then some (2, [(3, [0, 0, 0, 1, 0, 1, 1, 1])]) else (bif (k == 10) then (s_spec_l2Binary (ByteArray.mk #[48, 48, 48, 49, 49, 49, 50, 50, 50])).bind fun r83 =>
  some (3, [(r83.1, r83.2)]) else (bif (k == 11) then (s_spec_l2Binary (ByteArray.mk #[48, 48, 48, 48, 48, 48, 49, 48, 48, 49, 48, 48, 50, 48, 50, 48, 48, 48, 51, 51, 48, 49, 50, 51, 52])).bind fun r90 =>
  (s_spec_l2Binary (ByteArray.mk #[48, 49, 50, 51, 52, 49, 49, 52, 52, 52, 50, 52, 50, 52, 52, 51, 52, 52, 51, 52, 52, 52, 52, 52, 52])).bind fun r93 =>
  some (5, [(r90.1, r90.2), (r93.1, r93.2)]) else (bif (k == 12) then (s_spec_l2Binary (ByteArray.mk #[48, 49, 50, 51, 49, 50, 51, 48, 50, 51, 48, 49, 51, 48, 49, 50])).bind fun r100 =>
  some (4, [(r100.1, r100.2)]) else (bif (k == 13) then some (3, [(1, [0, 0, 1]), (0, [2])]) else (bif (k == 14) then (s_spec_l2Binary (ByteArray.mk #[48])).bind fun r115 =>
  some (1, [(r115.1, r115.2)]) else (bif (k == 15) then (s_spec_l2Affine 3).bind fun r122 =>
  some (3, [(r122.1, r122.2)]) else some (2, [])))))))))))))))))
set_option maxHeartbeats 4000000 in
theorem c_spec_l2Known {M : Nat → Prop} {w : World}  (k : Int)  (hM : ∀ g, w.heap.size ≤ g → M g) {r : (Int × (List (Int × (List Int))))} (hs : s_spec_l2Known k = some r) :
    Gives Try.prog 104 [(.int .i64 k)] w (fun v w' => ∃ (ra0 : Option Addr) (rn0 rc0 : Nat) (rf0 : List Nat), v = (.agg #[(.int .i64 r.1), (.slice ra0 rn0 rc0)]) ∧ Chg [] w w' ∧ (RT.os 27 (RT.pr (RT.int .i64) (RT.os 3 (RT.int .i64)))).val M w' (.slice ra0 rn0 rc0) r.2 rf0 ∧ Own (Nw w []) (fun _ => True) w' (rf0 ++ ([]))) := by
 refine calls_fr Try.func104 rfl Try.ntmps104 (Nat.le_of_ble_eq_true rfl) ?_
 have hO := Own.start (N := Nw w []) hM Nw.fut
 have hC := Chg.refl [] w
 unfold s_spec_l2Known at hs
 refine wp_mono (Q := KPost (k_spec_l2Known M w r)) ?_ (fun e a d0 h => ?_)
 rotate_left
 ·cases e
  case ret =>
   obtain ⟨σ, rg2, ra0, rn0, rc0, rf0, rfl, hbrg2, hrest⟩ := h
   exact ret1x Try.results104 (res_cell rfl (box_load Ag98 Sz98 hbrg2 [] _ [] rfl rfl (fun h => nomatch h))) ⟨ra0, rn0, rc0, rf0, rfl, hrest⟩
  all_goals exact (h : False).elim
 refine c_sr ?_
 obtain ⟨d0, a1, E4, r2, r3, a0⟩ := new_block w [(.int .i64 0), (.slice none 0 0)] 98
 refine pl_val (w' := d0) (.pointer (some ⟨a1, 0, none⟩)) (y_alloc (by rw [E4, r2]; kernel_rfl)) ?_
 have hC := hC.ext r3
 have hO := hO.new1 r3 r2 a0.lt
 refine c_nil ?_
 refine c_seq ?_
 refine c_sr ?_
 refine pl_val (.int .i64 k) (y_move rfl) ?_
 refine c_nil ?_
 refine wp_block ?_
 refine c_sr ?_
 refine pl_val (.bool (k == 0)) (y_eql rfl rfl) ?_
 refine pl_val (.bool (k == 0)) (y_assign rfl) ?_
 refine c_nil ?_
 rcases bif_some hs with ⟨j0, hs⟩ | ⟨j0, hs⟩
 ·refine c_condT (congrArg Value.bool j0) ?_
  refine c_sr ?_
  obtain ⟨r4, E5, hs⟩ := bind_some hs
  refine pl_call Bd108 rfl (c_spec_l2Binary (M := M) (ByteArray.mk #[48, 48, 48, 49])  hO.fut E5) ?_
  rintro _ E6 ⟨r5, r6, r7, d1, rfl, j1, j2, E7⟩
  have a0 := a0.cn j1
  have hC := hC.ext j1
  have hO := Own.join0 hO j1 E7
  have hO := hO.perm (R := d1 ++ (([a1]) ++ ([]))) (by simp)
  obtain ⟨r8, a7, E8, r9, h3, s0⟩ := new_block E6 [(.int .i64 r4.1), (.slice r5 r6 r7)] 27
  refine pl_val (w' := r8) (.slice (some ⟨a7, 0, none⟩) 1 1) (y_bslice rfl (by rw [E8, r9]; kernel_rfl)) ?_
  have a0 := a0.cn h3
  have j2 := j2.ext h3
  have hC := hC.ext h3
  have hO := hO.new1 h3 r9 s0.lt
  have hO := hO.perm (R := (a7 :: ((d1) ++ ([]))) ++ (([a1]) ++ ([]))) (by simp)
  have E9 := hO.nd
  have d2 := os_of_box (r := (RT.pr (RT.int .i64) (RT.os 3 (RT.int .i64)))) (M := M) (css := [[(.int .i64 r4.1), (.slice r5 r6 r7)]]) (fps := [(d1 : List Nat)]) (xs := ([(r4.1, r4.2)] : List (Int × (List Int)))) s0 ⟨⟨_, _, _, _, rfl, rfl, ⟨rfl, rfl⟩, (os_unval j2)⟩, trivial⟩ (Nat.le_of_ble_eq_true rfl) E9
  have d2 : (RT.os 27 (RT.pr (RT.int .i64) (RT.os 3 (RT.int .i64)))).val M r8 (.slice (some ⟨a7, 0, none⟩) 1 1) [(r4.1, r4.2)] (a7 :: ((d1) ++ ([]))) := d2
  refine pl_val (.agg #[(.int .i64 2), (.slice (some ⟨a7, 0, none⟩) 1 1)]) (y_build rfl (by kernel_rfl)) ?_
  obtain ⟨s1, F0, j3, j4⟩ := box_store (P := Try.prog) a0 [] [(.int .i64 0), (.slice none 0 0)] [] [(.int .i64 2), (.slice (some ⟨a7, 0, none⟩) 1 1)] rfl rfl (by intro u hu; simp only [List.mem_cons, List.not_mem_nil, or_false] at hu; rcases hu with rfl | rfl <;> rfl)
  refine pl_skip (w' := s1) (ys_store rfl rfl (F0 _ _ rfl Sz98)) ?_
  have hO := hO.fr1
  have d2 := d2.ma j3 hO same_ (fun _ e => (mem_l (e)))
  have hC := hC.st j3 hO same_
  have hO := hO.ext j3
  have j4 : BoxV s1 a1 98 [(.int .i64 2), (.slice (some ⟨a7, 0, none⟩) 1 1)] := j4
  refine c_nil ?_
  refine wp_ret ?_
  cases hs
  have hO := hO.drop
  exact ⟨_, a1, (some ⟨a7, 0, none⟩), 1, 1, (a7 :: ((d1) ++ ([]))), fr_ovl 96 ⟨rfl, trivial⟩, j4, hC, d2, hO.top⟩
 refine c_condF (congrArg Value.bool j0) ?_
 refine c_sr ?_
 refine pl_val (.bool (k == 1)) (y_eql rfl rfl) ?_
 refine pl_val (.bool (k == 1)) (y_assign rfl) ?_
 refine c_nil ?_
 rcases bif_some hs with ⟨j5, hs⟩ | ⟨j5, hs⟩
 ·refine c_condT (congrArg Value.bool j5) ?_
  refine c_sr ?_
  obtain ⟨r11, F1, hs⟩ := bind_some hs
  refine pl_call Bd108 rfl (c_spec_l2Binary (M := M) (ByteArray.mk #[48, 48, 48, 49])  hO.fut F1) ?_
  rintro _ O6 ⟨s2, s3, s4, c5, rfl, j6, d3, F2⟩
  have a0 := a0.cn j6
  have hC := hC.ext j6
  have hO := Own.join0 hO j6 F2
  have hO := hO.perm (R := c5 ++ (([a1]) ++ ([]))) (by simp)
  obtain ⟨r14, F3, hs⟩ := bind_some hs
  refine pl_call Bd108 rfl (c_spec_l2Binary (M := M) (ByteArray.mk #[48, 49, 49, 49])  hO.fut F3) ?_
  rintro _ F4 ⟨s5, s6, s7, d4, rfl, h4, j7, F5⟩
  have a0 := a0.cn h4
  have d3 := d3.ext h4
  have hC := hC.ext h4
  have hO := Own.join0 hO h4 F5
  have hO := hO.perm (R := d4 ++ (c5 ++ (([a1]) ++ ([])))) (by simp)
  obtain ⟨s8, a8, F6, s9, d5, t0⟩ := new_block F4 [(.int .i64 r11.1), (.slice s2 s3 s4), (.int .i64 r14.1), (.slice s5 s6 s7)] 27
  refine pl_val (w' := s8) (.slice (some ⟨a8, 0, none⟩) 2 2) (y_bslice rfl (by rw [F6, s9]; kernel_rfl)) ?_
  have a0 := a0.cn d5
  have d3 := d3.ext d5
  have j7 := j7.ext d5
  have hC := hC.ext d5
  have hO := hO.fr1
  have hO := hO.new1 d5 s9 t0.lt
  have hO := hO.perm (R := (a8 :: ((c5) ++ ((d4) ++ ([])))) ++ (([a1]) ++ ([]))) (by simp)
  have F7 := hO.nd
  have d6 := os_of_box (r := (RT.pr (RT.int .i64) (RT.os 3 (RT.int .i64)))) (M := M) (css := [[(.int .i64 r11.1), (.slice s2 s3 s4)], [(.int .i64 r14.1), (.slice s5 s6 s7)]]) (fps := [(c5 : List Nat), (d4 : List Nat)]) (xs := ([(r11.1, r11.2), (r14.1, r14.2)] : List (Int × (List Int)))) t0 ⟨⟨_, _, _, _, rfl, rfl, ⟨rfl, rfl⟩, (os_unval d3)⟩, ⟨⟨_, _, _, _, rfl, rfl, ⟨rfl, rfl⟩, (os_unval j7)⟩, trivial⟩⟩ (Nat.le_of_ble_eq_true rfl) F7
  have d6 : (RT.os 27 (RT.pr (RT.int .i64) (RT.os 3 (RT.int .i64)))).val M s8 (.slice (some ⟨a8, 0, none⟩) 2 2) [(r11.1, r11.2), (r14.1, r14.2)] (a8 :: ((c5) ++ ((d4) ++ ([])))) := d6
  refine pl_val (.agg #[(.int .i64 2), (.slice (some ⟨a8, 0, none⟩) 2 2)]) (y_build rfl (by kernel_rfl)) ?_
  obtain ⟨t1, F8, j8, j9⟩ := box_store (P := Try.prog) a0 [] [(.int .i64 0), (.slice none 0 0)] [] [(.int .i64 2), (.slice (some ⟨a8, 0, none⟩) 2 2)] rfl rfl (by intro u hu; simp only [List.mem_cons, List.not_mem_nil, or_false] at hu; rcases hu with rfl | rfl <;> rfl)
  refine pl_skip (w' := t1) (ys_store rfl rfl (F8 _ _ rfl Sz98)) ?_
  have hO := hO.fr1
  have d6 := d6.ma j8 hO same_ (fun _ e => (mem_l (e)))
  have hC := hC.st j8 hO same_
  have hO := hO.ext j8
  have j9 : BoxV t1 a1 98 [(.int .i64 2), (.slice (some ⟨a8, 0, none⟩) 2 2)] := j9
  refine c_nil ?_
  refine wp_ret ?_
  cases hs
  have hO := hO.drop
  exact ⟨_, a1, (some ⟨a8, 0, none⟩), 2, 2, (a8 :: ((c5) ++ ((d4) ++ ([])))), fr_ovl 96 ⟨rfl, trivial⟩, j9, hC, d6, hO.top⟩
 refine c_condF (congrArg Value.bool j5) ?_
 refine c_sr ?_
 refine pl_val (.bool (k == 2)) (y_eql rfl rfl) ?_
 refine pl_val (.bool (k == 2)) (y_assign rfl) ?_
 refine c_nil ?_
 rcases bif_some hs with ⟨k0, hs⟩ | ⟨k0, hs⟩
 ·refine c_condT (congrArg Value.bool k0) ?_
  refine c_sr ?_
  obtain ⟨r21, F9, hs⟩ := bind_some hs
  refine pl_call Bd108 rfl (c_spec_l2Binary (M := M) (ByteArray.mk #[48, 48, 48, 49])  hO.fut F9) ?_
  rintro _ O7 ⟨t2, t3, t4, c6, rfl, k1, c3, G0⟩
  have a0 := a0.cn k1
  have hC := hC.ext k1
  have hO := Own.join0 hO k1 G0
  have hO := hO.perm (R := c6 ++ (([a1]) ++ ([]))) (by simp)
  obtain ⟨r24, G1, hs⟩ := bind_some hs
  refine pl_call Bd108 rfl (c_spec_l2Binary (M := M) (ByteArray.mk #[48, 49, 49, 49])  hO.fut G1) ?_
  rintro _ G2 ⟨t5, t6, t7, d7, rfl, h5, d8, G3⟩
  have a0 := a0.cn h5
  have c3 := c3.ext h5
  have hC := hC.ext h5
  have hO := Own.join0 hO h5 G3
  have hO := hO.perm (R := d7 ++ (c6 ++ (([a1]) ++ ([])))) (by simp)
  obtain ⟨k2, a2, G4, t8, d9, t9⟩ := new_block G2 [(.int .i64 1), (.int .i64 0)] 3
  refine pl_val (w' := k2) (.slice (some ⟨a2, 0, none⟩) 2 2) (y_bslice rfl (by rw [G4, t8]; kernel_rfl)) ?_
  have a0 := a0.cn d9
  have c3 := c3.ext d9
  have d8 := d8.ext d9
  have hC := hC.ext d9
  have hO := hO.new1 d9 t8 t9.lt
  have e0 := os_of_box (r := (RT.int .i64)) (M := M) (css := [[(.int .i64 1)], [(.int .i64 0)]]) (fps := [([] : List Nat), ([] : List Nat)]) (xs := ([1, 0] : List Int)) t9 ⟨⟨rfl, rfl⟩, ⟨⟨rfl, rfl⟩, trivial⟩⟩ (Nat.le_of_ble_eq_true rfl) (List.nodup_cons.2 ⟨(fun h => nomatch h), List.nodup_nil⟩)
  have e0 : (RT.os 3 (RT.int .i64)).val M k2 (.slice (some ⟨a2, 0, none⟩) 2 2) [1, 0] [a2] := e0
  refine pl_val (.agg #[(.int .i64 1), (.slice (some ⟨a2, 0, none⟩) 2 2)]) (y_build rfl (by kernel_rfl)) ?_
  obtain ⟨u0, a9, G5, u1, c7, u2⟩ := new_block k2 [(.int .i64 r21.1), (.slice t2 t3 t4), (.int .i64 r24.1), (.slice t5 t6 t7), (.int .i64 1), (.slice (some ⟨a2, 0, none⟩) 2 2)] 27
  refine pl_val (w' := u0) (.slice (some ⟨a9, 0, none⟩) 3 3) (y_bslice rfl (by rw [G5, u1]; kernel_rfl)) ?_
  have a0 := a0.cn c7
  have c3 := c3.ext c7
  have d8 := d8.ext c7
  have e0 := e0.ext c7
  have hC := hC.ext c7
  have hO := hO.fr1
  have hO := hO.fr2
  have hO := hO.new1 c7 u1 u2.lt
  have hO := hO.perm (R := (a9 :: ((c6) ++ ((d7) ++ ((([a2])) ++ ([]))))) ++ (([a1]) ++ ([]))) (by simp)
  have G6 := hO.nd
  have e1 := os_of_box (r := (RT.pr (RT.int .i64) (RT.os 3 (RT.int .i64)))) (M := M) (css := [[(.int .i64 r21.1), (.slice t2 t3 t4)], [(.int .i64 r24.1), (.slice t5 t6 t7)], [(.int .i64 1), (.slice (some ⟨a2, 0, none⟩) 2 2)]]) (fps := [(c6 : List Nat), (d7 : List Nat), ([a2] : List Nat)]) (xs := ([(r21.1, r21.2), (r24.1, r24.2), (1, [1, 0])] : List (Int × (List Int)))) u2 ⟨⟨_, _, _, _, rfl, rfl, ⟨rfl, rfl⟩, (os_unval c3)⟩, ⟨⟨_, _, _, _, rfl, rfl, ⟨rfl, rfl⟩, (os_unval d8)⟩, ⟨⟨_, _, _, _, rfl, rfl, ⟨rfl, rfl⟩, (os_unval e0)⟩, trivial⟩⟩⟩ (Nat.le_of_ble_eq_true rfl) G6
  have e1 : (RT.os 27 (RT.pr (RT.int .i64) (RT.os 3 (RT.int .i64)))).val M u0 (.slice (some ⟨a9, 0, none⟩) 3 3) [(r21.1, r21.2), (r24.1, r24.2), (1, [1, 0])] (a9 :: ((c6) ++ ((d7) ++ ((([a2])) ++ ([]))))) := e1
  refine pl_val (.agg #[(.int .i64 2), (.slice (some ⟨a9, 0, none⟩) 3 3)]) (y_build rfl (by kernel_rfl)) ?_
  obtain ⟨u3, G7, k3, k4⟩ := box_store (P := Try.prog) a0 [] [(.int .i64 0), (.slice none 0 0)] [] [(.int .i64 2), (.slice (some ⟨a9, 0, none⟩) 3 3)] rfl rfl (by intro u hu; simp only [List.mem_cons, List.not_mem_nil, or_false] at hu; rcases hu with rfl | rfl <;> rfl)
  refine pl_skip (w' := u3) (ys_store rfl rfl (G7 _ _ rfl Sz98)) ?_
  have hO := hO.fr1
  have e1 := e1.ma k3 hO same_ (fun _ e => (mem_l (e)))
  have hC := hC.st k3 hO same_
  have hO := hO.ext k3
  have k4 : BoxV u3 a1 98 [(.int .i64 2), (.slice (some ⟨a9, 0, none⟩) 3 3)] := k4
  refine c_nil ?_
  refine wp_ret ?_
  cases hs
  have hO := hO.drop
  exact ⟨_, a1, (some ⟨a9, 0, none⟩), 3, 3, (a9 :: ((c6) ++ ((d7) ++ ((([a2])) ++ ([]))))), fr_ovl 96 ⟨rfl, trivial⟩, k4, hC, e1, hO.top⟩
 refine c_condF (congrArg Value.bool k0) ?_
 refine c_sr ?_
 refine pl_val (.bool (k == 3)) (y_eql rfl rfl) ?_
 refine pl_val (.bool (k == 3)) (y_assign rfl) ?_
 refine c_nil ?_
 rcases bif_some hs with ⟨k5, hs⟩ | ⟨k5, hs⟩
 ·refine c_condT (congrArg Value.bool k5) ?_
  refine c_sr ?_
  obtain ⟨r33, G8, hs⟩ := bind_some hs
  refine pl_call Bd109 rfl (c_spec_l2Affine (M := M) 2  hO.fut G8) ?_
  rintro _ G9 ⟨u4, u5, u6, e2, rfl, k6, k7, H0⟩
  have a0 := a0.cn k6
  have hC := hC.ext k6
  have hO := Own.join0 hO k6 H0
  have hO := hO.perm (R := e2 ++ (([a1]) ++ ([]))) (by simp)
  obtain ⟨u7, b0, H1, u9, h6, v0⟩ := new_block G9 [(.int .i64 r33.1), (.slice u4 u5 u6)] 27
  refine pl_val (w' := u7) (.slice (some ⟨b0, 0, none⟩) 1 1) (y_bslice rfl (by rw [H1, u9]; kernel_rfl)) ?_
  have a0 := a0.cn h6
  have k7 := k7.ext h6
  have hC := hC.ext h6
  have hO := hO.new1 h6 u9 v0.lt
  have hO := hO.perm (R := (b0 :: ((e2) ++ ([]))) ++ (([a1]) ++ ([]))) (by simp)
  have H2 := hO.nd
  have e3 := os_of_box (r := (RT.pr (RT.int .i64) (RT.os 3 (RT.int .i64)))) (M := M) (css := [[(.int .i64 r33.1), (.slice u4 u5 u6)]]) (fps := [(e2 : List Nat)]) (xs := ([(r33.1, r33.2)] : List (Int × (List Int)))) v0 ⟨⟨_, _, _, _, rfl, rfl, ⟨rfl, rfl⟩, (os_unval k7)⟩, trivial⟩ (Nat.le_of_ble_eq_true rfl) H2
  have e3 : (RT.os 27 (RT.pr (RT.int .i64) (RT.os 3 (RT.int .i64)))).val M u7 (.slice (some ⟨b0, 0, none⟩) 1 1) [(r33.1, r33.2)] (b0 :: ((e2) ++ ([]))) := e3
  refine pl_val (.agg #[(.int .i64 2), (.slice (some ⟨b0, 0, none⟩) 1 1)]) (y_build rfl (by kernel_rfl)) ?_
  obtain ⟨v1, H3, k8, k9⟩ := box_store (P := Try.prog) a0 [] [(.int .i64 0), (.slice none 0 0)] [] [(.int .i64 2), (.slice (some ⟨b0, 0, none⟩) 1 1)] rfl rfl (by intro u hu; simp only [List.mem_cons, List.not_mem_nil, or_false] at hu; rcases hu with rfl | rfl <;> rfl)
  refine pl_skip (w' := v1) (ys_store rfl rfl (H3 _ _ rfl Sz98)) ?_
  have hO := hO.fr1
  have e3 := e3.ma k8 hO same_ (fun _ e => (mem_l (e)))
  have hC := hC.st k8 hO same_
  have hO := hO.ext k8
  have k9 : BoxV v1 a1 98 [(.int .i64 2), (.slice (some ⟨b0, 0, none⟩) 1 1)] := k9
  refine c_nil ?_
  refine wp_ret ?_
  cases hs
  have hO := hO.drop
  exact ⟨_, a1, (some ⟨b0, 0, none⟩), 1, 1, (b0 :: ((e2) ++ ([]))), fr_ovl 96 ⟨rfl, trivial⟩, k9, hC, e3, hO.top⟩
 refine c_condF (congrArg Value.bool k5) ?_
 refine c_sr ?_
 refine pl_val (.bool (k == 4)) (y_eql rfl rfl) ?_
 refine pl_val (.bool (k == 4)) (y_assign rfl) ?_
 refine c_nil ?_
 rcases bif_some hs with ⟨l0, hs⟩ | ⟨l0, hs⟩
 ·refine c_condT (congrArg Value.bool l0) ?_
  refine c_sr ?_
  obtain ⟨r40, H4, hs⟩ := bind_some hs
  refine pl_call Bd108 rfl (c_spec_l2Binary (M := M) (ByteArray.mk #[48, 49, 50, 49, 50, 48, 50, 48, 49])  hO.fut H4) ?_
  rintro _ H5 ⟨v2, v3, v4, e4, rfl, l1, l2, H6⟩
  have a0 := a0.cn l1
  have hC := hC.ext l1
  have hO := Own.join0 hO l1 H6
  have hO := hO.perm (R := e4 ++ (([a1]) ++ ([]))) (by simp)
  obtain ⟨v5, b1, H7, v6, h7, v7⟩ := new_block H5 [(.int .i64 r40.1), (.slice v2 v3 v4)] 27
  refine pl_val (w' := v5) (.slice (some ⟨b1, 0, none⟩) 1 1) (y_bslice rfl (by rw [H7, v6]; kernel_rfl)) ?_
  have a0 := a0.cn h7
  have l2 := l2.ext h7
  have hC := hC.ext h7
  have hO := hO.new1 h7 v6 v7.lt
  have hO := hO.perm (R := (b1 :: ((e4) ++ ([]))) ++ (([a1]) ++ ([]))) (by simp)
  have H8 := hO.nd
  have e5 := os_of_box (r := (RT.pr (RT.int .i64) (RT.os 3 (RT.int .i64)))) (M := M) (css := [[(.int .i64 r40.1), (.slice v2 v3 v4)]]) (fps := [(e4 : List Nat)]) (xs := ([(r40.1, r40.2)] : List (Int × (List Int)))) v7 ⟨⟨_, _, _, _, rfl, rfl, ⟨rfl, rfl⟩, (os_unval l2)⟩, trivial⟩ (Nat.le_of_ble_eq_true rfl) H8
  have e5 : (RT.os 27 (RT.pr (RT.int .i64) (RT.os 3 (RT.int .i64)))).val M v5 (.slice (some ⟨b1, 0, none⟩) 1 1) [(r40.1, r40.2)] (b1 :: ((e4) ++ ([]))) := e5
  refine pl_val (.agg #[(.int .i64 3), (.slice (some ⟨b1, 0, none⟩) 1 1)]) (y_build rfl (by kernel_rfl)) ?_
  obtain ⟨v8, H9, l3, l4⟩ := box_store (P := Try.prog) a0 [] [(.int .i64 0), (.slice none 0 0)] [] [(.int .i64 3), (.slice (some ⟨b1, 0, none⟩) 1 1)] rfl rfl (by intro u hu; simp only [List.mem_cons, List.not_mem_nil, or_false] at hu; rcases hu with rfl | rfl <;> rfl)
  refine pl_skip (w' := v8) (ys_store rfl rfl (H9 _ _ rfl Sz98)) ?_
  have hO := hO.fr1
  have e5 := e5.ma l3 hO same_ (fun _ e => (mem_l (e)))
  have hC := hC.st l3 hO same_
  have hO := hO.ext l3
  have l4 : BoxV v8 a1 98 [(.int .i64 3), (.slice (some ⟨b1, 0, none⟩) 1 1)] := l4
  refine c_nil ?_
  refine wp_ret ?_
  cases hs
  have hO := hO.drop
  exact ⟨_, a1, (some ⟨b1, 0, none⟩), 1, 1, (b1 :: ((e4) ++ ([]))), fr_ovl 96 ⟨rfl, trivial⟩, l4, hC, e5, hO.top⟩
 refine c_condF (congrArg Value.bool l0) ?_
 refine c_sr ?_
 refine pl_val (.bool (k == 5)) (y_eql rfl rfl) ?_
 refine pl_val (.bool (k == 5)) (y_assign rfl) ?_
 refine c_nil ?_
 rcases bif_some hs with ⟨l5, hs⟩ | ⟨l5, hs⟩
 ·refine c_condT (congrArg Value.bool l5) ?_
  refine c_sr ?_
  obtain ⟨r47, I0, hs⟩ := bind_some hs
  refine pl_call Bd108 rfl (c_spec_l2Binary (M := M) (ByteArray.mk #[48, 49, 48, 49, 49, 50, 48, 50, 50])  hO.fut I0) ?_
  rintro _ I1 ⟨v9, w1, w2, e6, rfl, l6, l7, I2⟩
  have a0 := a0.cn l6
  have hC := hC.ext l6
  have hO := Own.join0 hO l6 I2
  have hO := hO.perm (R := e6 ++ (([a1]) ++ ([]))) (by simp)
  obtain ⟨w3, b2, I3, w4, h8, w5⟩ := new_block I1 [(.int .i64 r47.1), (.slice v9 w1 w2)] 27
  refine pl_val (w' := w3) (.slice (some ⟨b2, 0, none⟩) 1 1) (y_bslice rfl (by rw [I3, w4]; kernel_rfl)) ?_
  have a0 := a0.cn h8
  have l7 := l7.ext h8
  have hC := hC.ext h8
  have hO := hO.new1 h8 w4 w5.lt
  have hO := hO.perm (R := (b2 :: ((e6) ++ ([]))) ++ (([a1]) ++ ([]))) (by simp)
  have I4 := hO.nd
  have e7 := os_of_box (r := (RT.pr (RT.int .i64) (RT.os 3 (RT.int .i64)))) (M := M) (css := [[(.int .i64 r47.1), (.slice v9 w1 w2)]]) (fps := [(e6 : List Nat)]) (xs := ([(r47.1, r47.2)] : List (Int × (List Int)))) w5 ⟨⟨_, _, _, _, rfl, rfl, ⟨rfl, rfl⟩, (os_unval l7)⟩, trivial⟩ (Nat.le_of_ble_eq_true rfl) I4
  have e7 : (RT.os 27 (RT.pr (RT.int .i64) (RT.os 3 (RT.int .i64)))).val M w3 (.slice (some ⟨b2, 0, none⟩) 1 1) [(r47.1, r47.2)] (b2 :: ((e6) ++ ([]))) := e7
  refine pl_val (.agg #[(.int .i64 3), (.slice (some ⟨b2, 0, none⟩) 1 1)]) (y_build rfl (by kernel_rfl)) ?_
  obtain ⟨w6, I5, l8, l9⟩ := box_store (P := Try.prog) a0 [] [(.int .i64 0), (.slice none 0 0)] [] [(.int .i64 3), (.slice (some ⟨b2, 0, none⟩) 1 1)] rfl rfl (by intro u hu; simp only [List.mem_cons, List.not_mem_nil, or_false] at hu; rcases hu with rfl | rfl <;> rfl)
  refine pl_skip (w' := w6) (ys_store rfl rfl (I5 _ _ rfl Sz98)) ?_
  have hO := hO.fr1
  have e7 := e7.ma l8 hO same_ (fun _ e => (mem_l (e)))
  have hC := hC.st l8 hO same_
  have hO := hO.ext l8
  have l9 : BoxV w6 a1 98 [(.int .i64 3), (.slice (some ⟨b2, 0, none⟩) 1 1)] := l9
  refine c_nil ?_
  refine wp_ret ?_
  cases hs
  have hO := hO.drop
  exact ⟨_, a1, (some ⟨b2, 0, none⟩), 1, 1, (b2 :: ((e6) ++ ([]))), fr_ovl 96 ⟨rfl, trivial⟩, l9, hC, e7, hO.top⟩
 refine c_condF (congrArg Value.bool l5) ?_
 refine c_sr ?_
 refine pl_val (.bool (k == 6)) (y_eql rfl rfl) ?_
 refine pl_val (.bool (k == 6)) (y_assign rfl) ?_
 refine c_nil ?_
 rcases bif_some hs with ⟨m0, hs⟩ | ⟨m0, hs⟩
 ·refine c_condT (congrArg Value.bool m0) ?_
  refine c_sr ?_
  obtain ⟨r54, I6, hs⟩ := bind_some hs
  refine pl_call Bd108 rfl (c_spec_l2Binary (M := M) (ByteArray.mk #[48, 49, 50, 51, 49, 48, 51, 50, 50, 51, 48, 49, 51, 50, 49, 48])  hO.fut I6) ?_
  rintro _ I7 ⟨w7, w8, w9, e8, rfl, m1, m2, I8⟩
  have a0 := a0.cn m1
  have hC := hC.ext m1
  have hO := Own.join0 hO m1 I8
  have hO := hO.perm (R := e8 ++ (([a1]) ++ ([]))) (by simp)
  obtain ⟨x0, b3, I9, x1, h9, x2⟩ := new_block I7 [(.int .i64 r54.1), (.slice w7 w8 w9)] 27
  refine pl_val (w' := x0) (.slice (some ⟨b3, 0, none⟩) 1 1) (y_bslice rfl (by rw [I9, x1]; kernel_rfl)) ?_
  have a0 := a0.cn h9
  have m2 := m2.ext h9
  have hC := hC.ext h9
  have hO := hO.new1 h9 x1 x2.lt
  have hO := hO.perm (R := (b3 :: ((e8) ++ ([]))) ++ (([a1]) ++ ([]))) (by simp)
  have J0 := hO.nd
  have e9 := os_of_box (r := (RT.pr (RT.int .i64) (RT.os 3 (RT.int .i64)))) (M := M) (css := [[(.int .i64 r54.1), (.slice w7 w8 w9)]]) (fps := [(e8 : List Nat)]) (xs := ([(r54.1, r54.2)] : List (Int × (List Int)))) x2 ⟨⟨_, _, _, _, rfl, rfl, ⟨rfl, rfl⟩, (os_unval m2)⟩, trivial⟩ (Nat.le_of_ble_eq_true rfl) J0
  have e9 : (RT.os 27 (RT.pr (RT.int .i64) (RT.os 3 (RT.int .i64)))).val M x0 (.slice (some ⟨b3, 0, none⟩) 1 1) [(r54.1, r54.2)] (b3 :: ((e8) ++ ([]))) := e9
  refine pl_val (.agg #[(.int .i64 4), (.slice (some ⟨b3, 0, none⟩) 1 1)]) (y_build rfl (by kernel_rfl)) ?_
  obtain ⟨x3, J1, m3, m4⟩ := box_store (P := Try.prog) a0 [] [(.int .i64 0), (.slice none 0 0)] [] [(.int .i64 4), (.slice (some ⟨b3, 0, none⟩) 1 1)] rfl rfl (by intro u hu; simp only [List.mem_cons, List.not_mem_nil, or_false] at hu; rcases hu with rfl | rfl <;> rfl)
  refine pl_skip (w' := x3) (ys_store rfl rfl (J1 _ _ rfl Sz98)) ?_
  have hO := hO.fr1
  have e9 := e9.ma m3 hO same_ (fun _ e => (mem_l (e)))
  have hC := hC.st m3 hO same_
  have hO := hO.ext m3
  have m4 : BoxV x3 a1 98 [(.int .i64 4), (.slice (some ⟨b3, 0, none⟩) 1 1)] := m4
  refine c_nil ?_
  refine wp_ret ?_
  cases hs
  have hO := hO.drop
  exact ⟨_, a1, (some ⟨b3, 0, none⟩), 1, 1, (b3 :: ((e8) ++ ([]))), fr_ovl 96 ⟨rfl, trivial⟩, m4, hC, e9, hO.top⟩
 refine c_condF (congrArg Value.bool m0) ?_
 refine c_sr ?_
 refine pl_val (.bool (k == 7)) (y_eql rfl rfl) ?_
 refine pl_val (.bool (k == 7)) (y_assign rfl) ?_
 refine c_nil ?_
 rcases bif_some hs with ⟨m5, hs⟩ | ⟨m5, hs⟩
 ·refine c_condT (congrArg Value.bool m5) ?_
  refine c_sr ?_
  obtain ⟨r61, J2, hs⟩ := bind_some hs
  refine pl_call Bd108 rfl (c_spec_l2Binary (M := M) (ByteArray.mk #[48, 48, 48, 48, 49, 49, 48, 49, 50])  hO.fut J2) ?_
  rintro _ O8 ⟨x4, x5, x6, c8, rfl, m6, f0, J3⟩
  have a0 := a0.cn m6
  have hC := hC.ext m6
  have hO := Own.join0 hO m6 J3
  have hO := hO.perm (R := c8 ++ (([a1]) ++ ([]))) (by simp)
  obtain ⟨r64, J4, hs⟩ := bind_some hs
  refine pl_call Bd108 rfl (c_spec_l2Binary (M := M) (ByteArray.mk #[48, 49, 50, 49, 49, 50, 50, 50, 50])  hO.fut J4) ?_
  rintro _ J5 ⟨x7, x8, x9, f1, rfl, i0, m7, J6⟩
  have a0 := a0.cn i0
  have f0 := f0.ext i0
  have hC := hC.ext i0
  have hO := Own.join0 hO i0 J6
  have hO := hO.perm (R := f1 ++ (c8 ++ (([a1]) ++ ([])))) (by simp)
  obtain ⟨y0, b4, J7, y1, f2, y2⟩ := new_block J5 [(.int .i64 r61.1), (.slice x4 x5 x6), (.int .i64 r64.1), (.slice x7 x8 x9)] 27
  refine pl_val (w' := y0) (.slice (some ⟨b4, 0, none⟩) 2 2) (y_bslice rfl (by rw [J7, y1]; kernel_rfl)) ?_
  have a0 := a0.cn f2
  have f0 := f0.ext f2
  have m7 := m7.ext f2
  have hC := hC.ext f2
  have hO := hO.fr1
  have hO := hO.new1 f2 y1 y2.lt
  have hO := hO.perm (R := (b4 :: ((c8) ++ ((f1) ++ ([])))) ++ (([a1]) ++ ([]))) (by simp)
  have J8 := hO.nd
  have f3 := os_of_box (r := (RT.pr (RT.int .i64) (RT.os 3 (RT.int .i64)))) (M := M) (css := [[(.int .i64 r61.1), (.slice x4 x5 x6)], [(.int .i64 r64.1), (.slice x7 x8 x9)]]) (fps := [(c8 : List Nat), (f1 : List Nat)]) (xs := ([(r61.1, r61.2), (r64.1, r64.2)] : List (Int × (List Int)))) y2 ⟨⟨_, _, _, _, rfl, rfl, ⟨rfl, rfl⟩, (os_unval f0)⟩, ⟨⟨_, _, _, _, rfl, rfl, ⟨rfl, rfl⟩, (os_unval m7)⟩, trivial⟩⟩ (Nat.le_of_ble_eq_true rfl) J8
  have f3 : (RT.os 27 (RT.pr (RT.int .i64) (RT.os 3 (RT.int .i64)))).val M y0 (.slice (some ⟨b4, 0, none⟩) 2 2) [(r61.1, r61.2), (r64.1, r64.2)] (b4 :: ((c8) ++ ((f1) ++ ([])))) := f3
  refine pl_val (.agg #[(.int .i64 3), (.slice (some ⟨b4, 0, none⟩) 2 2)]) (y_build rfl (by kernel_rfl)) ?_
  obtain ⟨y3, J9, m8, m9⟩ := box_store (P := Try.prog) a0 [] [(.int .i64 0), (.slice none 0 0)] [] [(.int .i64 3), (.slice (some ⟨b4, 0, none⟩) 2 2)] rfl rfl (by intro u hu; simp only [List.mem_cons, List.not_mem_nil, or_false] at hu; rcases hu with rfl | rfl <;> rfl)
  refine pl_skip (w' := y3) (ys_store rfl rfl (J9 _ _ rfl Sz98)) ?_
  have hO := hO.fr1
  have f3 := f3.ma m8 hO same_ (fun _ e => (mem_l (e)))
  have hC := hC.st m8 hO same_
  have hO := hO.ext m8
  have m9 : BoxV y3 a1 98 [(.int .i64 3), (.slice (some ⟨b4, 0, none⟩) 2 2)] := m9
  refine c_nil ?_
  refine wp_ret ?_
  cases hs
  have hO := hO.drop
  exact ⟨_, a1, (some ⟨b4, 0, none⟩), 2, 2, (b4 :: ((c8) ++ ((f1) ++ ([])))), fr_ovl 96 ⟨rfl, trivial⟩, m9, hC, f3, hO.top⟩
 refine c_condF (congrArg Value.bool m5) ?_
 refine c_sr ?_
 refine pl_val (.bool (k == 8)) (y_eql rfl rfl) ?_
 refine pl_val (.bool (k == 8)) (y_assign rfl) ?_
 refine c_nil ?_
 rcases bif_some hs with ⟨n0, hs⟩ | ⟨n0, hs⟩
 ·refine c_condT (congrArg Value.bool n0) ?_
  refine c_sr ?_
  obtain ⟨n1, a3, K0, y4, n2, y5⟩ := new_block d0 [(.int .i64 1), (.int .i64 2), (.int .i64 3), (.int .i64 0)] 3
  refine pl_val (w' := n1) (.slice (some ⟨a3, 0, none⟩) 4 4) (y_bslice rfl (by rw [K0, y4]; kernel_rfl)) ?_
  have a0 := a0.cn n2
  have hC := hC.ext n2
  have hO := hO.new1 n2 y4 y5.lt
  have f4 := os_of_box (r := (RT.int .i64)) (M := M) (css := [[(.int .i64 1)], [(.int .i64 2)], [(.int .i64 3)], [(.int .i64 0)]]) (fps := [([] : List Nat), ([] : List Nat), ([] : List Nat), ([] : List Nat)]) (xs := ([1, 2, 3, 0] : List Int)) y5 ⟨⟨rfl, rfl⟩, ⟨⟨rfl, rfl⟩, ⟨⟨rfl, rfl⟩, ⟨⟨rfl, rfl⟩, trivial⟩⟩⟩⟩ (Nat.le_of_ble_eq_true rfl) (List.nodup_cons.2 ⟨(fun h => nomatch h), List.nodup_nil⟩)
  have f4 : (RT.os 3 (RT.int .i64)).val M n1 (.slice (some ⟨a3, 0, none⟩) 4 4) [1, 2, 3, 0] [a3] := f4
  refine pl_val (.agg #[(.int .i64 1), (.slice (some ⟨a3, 0, none⟩) 4 4)]) (y_build rfl (by kernel_rfl)) ?_
  obtain ⟨y6, b5, K1, y7, i1, y8⟩ := new_block n1 [(.int .i64 1), (.slice (some ⟨a3, 0, none⟩) 4 4)] 27
  refine pl_val (w' := y6) (.slice (some ⟨b5, 0, none⟩) 1 1) (y_bslice rfl (by rw [K1, y7]; kernel_rfl)) ?_
  have a0 := a0.cn i1
  have f4 := f4.ext i1
  have hC := hC.ext i1
  have hO := hO.new1 i1 y7 y8.lt
  have hO := hO.perm (R := (b5 :: ((([a3])) ++ ([]))) ++ (([a1]) ++ ([]))) (by simp)
  have K2 := hO.nd
  have f5 := os_of_box (r := (RT.pr (RT.int .i64) (RT.os 3 (RT.int .i64)))) (M := M) (css := [[(.int .i64 1), (.slice (some ⟨a3, 0, none⟩) 4 4)]]) (fps := [([a3] : List Nat)]) (xs := ([(1, [1, 2, 3, 0])] : List (Int × (List Int)))) y8 ⟨⟨_, _, _, _, rfl, rfl, ⟨rfl, rfl⟩, (os_unval f4)⟩, trivial⟩ (Nat.le_of_ble_eq_true rfl) K2
  have f5 : (RT.os 27 (RT.pr (RT.int .i64) (RT.os 3 (RT.int .i64)))).val M y6 (.slice (some ⟨b5, 0, none⟩) 1 1) [(1, [1, 2, 3, 0])] (b5 :: ((([a3])) ++ ([]))) := f5
  refine pl_val (.agg #[(.int .i64 4), (.slice (some ⟨b5, 0, none⟩) 1 1)]) (y_build rfl (by kernel_rfl)) ?_
  obtain ⟨y9, K3, n3, n4⟩ := box_store (P := Try.prog) a0 [] [(.int .i64 0), (.slice none 0 0)] [] [(.int .i64 4), (.slice (some ⟨b5, 0, none⟩) 1 1)] rfl rfl (by intro u hu; simp only [List.mem_cons, List.not_mem_nil, or_false] at hu; rcases hu with rfl | rfl <;> rfl)
  refine pl_skip (w' := y9) (ys_store rfl rfl (K3 _ _ rfl Sz98)) ?_
  have hO := hO.fr1
  have f5 := f5.ma n3 hO same_ (fun _ e => (mem_l (e)))
  have hC := hC.st n3 hO same_
  have hO := hO.ext n3
  have n4 : BoxV y9 a1 98 [(.int .i64 4), (.slice (some ⟨b5, 0, none⟩) 1 1)] := n4
  refine c_nil ?_
  refine wp_ret ?_
  cases hs
  have hO := hO.drop
  exact ⟨_, a1, (some ⟨b5, 0, none⟩), 1, 1, (b5 :: ((([a3])) ++ ([]))), fr_ovl 96 ⟨rfl, trivial⟩, n4, hC, f5, hO.top⟩
 refine c_condF (congrArg Value.bool n0) ?_
 refine c_sr ?_
 refine pl_val (.bool (k == 9)) (y_eql rfl rfl) ?_
 refine pl_val (.bool (k == 9)) (y_assign rfl) ?_
 refine c_nil ?_
 rcases bif_some hs with ⟨n5, hs⟩ | ⟨n5, hs⟩
 ·refine c_condT (congrArg Value.bool n5) ?_
  refine c_sr ?_
  obtain ⟨n6, a4, K4, z0, n7, z1⟩ := new_block d0 [(.int .i64 0), (.int .i64 0), (.int .i64 0), (.int .i64 1), (.int .i64 0), (.int .i64 1), (.int .i64 1), (.int .i64 1)] 3
  refine pl_val (w' := n6) (.slice (some ⟨a4, 0, none⟩) 8 8) (y_bslice rfl (by rw [K4, z0]; kernel_rfl)) ?_
  have a0 := a0.cn n7
  have hC := hC.ext n7
  have hO := hO.new1 n7 z0 z1.lt
  have f6 := os_of_box (r := (RT.int .i64)) (M := M) (css := [[(.int .i64 0)], [(.int .i64 0)], [(.int .i64 0)], [(.int .i64 1)], [(.int .i64 0)], [(.int .i64 1)], [(.int .i64 1)], [(.int .i64 1)]]) (fps := [([] : List Nat), ([] : List Nat), ([] : List Nat), ([] : List Nat), ([] : List Nat), ([] : List Nat), ([] : List Nat), ([] : List Nat)]) (xs := ([0, 0, 0, 1, 0, 1, 1, 1] : List Int)) z1 ⟨⟨rfl, rfl⟩, ⟨⟨rfl, rfl⟩, ⟨⟨rfl, rfl⟩, ⟨⟨rfl, rfl⟩, ⟨⟨rfl, rfl⟩, ⟨⟨rfl, rfl⟩, ⟨⟨rfl, rfl⟩, ⟨⟨rfl, rfl⟩, trivial⟩⟩⟩⟩⟩⟩⟩⟩ (Nat.le_of_ble_eq_true rfl) (List.nodup_cons.2 ⟨(fun h => nomatch h), List.nodup_nil⟩)
  have f6 : (RT.os 3 (RT.int .i64)).val M n6 (.slice (some ⟨a4, 0, none⟩) 8 8) [0, 0, 0, 1, 0, 1, 1, 1] [a4] := f6
  refine pl_val (.agg #[(.int .i64 3), (.slice (some ⟨a4, 0, none⟩) 8 8)]) (y_build rfl (by kernel_rfl)) ?_
  obtain ⟨z2, b6, K5, z3, i2, z4⟩ := new_block n6 [(.int .i64 3), (.slice (some ⟨a4, 0, none⟩) 8 8)] 27
  refine pl_val (w' := z2) (.slice (some ⟨b6, 0, none⟩) 1 1) (y_bslice rfl (by rw [K5, z3]; kernel_rfl)) ?_
  have a0 := a0.cn i2
  have f6 := f6.ext i2
  have hC := hC.ext i2
  have hO := hO.new1 i2 z3 z4.lt
  have hO := hO.perm (R := (b6 :: ((([a4])) ++ ([]))) ++ (([a1]) ++ ([]))) (by simp)
  have K6 := hO.nd
  have f7 := os_of_box (r := (RT.pr (RT.int .i64) (RT.os 3 (RT.int .i64)))) (M := M) (css := [[(.int .i64 3), (.slice (some ⟨a4, 0, none⟩) 8 8)]]) (fps := [([a4] : List Nat)]) (xs := ([(3, [0, 0, 0, 1, 0, 1, 1, 1])] : List (Int × (List Int)))) z4 ⟨⟨_, _, _, _, rfl, rfl, ⟨rfl, rfl⟩, (os_unval f6)⟩, trivial⟩ (Nat.le_of_ble_eq_true rfl) K6
  have f7 : (RT.os 27 (RT.pr (RT.int .i64) (RT.os 3 (RT.int .i64)))).val M z2 (.slice (some ⟨b6, 0, none⟩) 1 1) [(3, [0, 0, 0, 1, 0, 1, 1, 1])] (b6 :: ((([a4])) ++ ([]))) := f7
  refine pl_val (.agg #[(.int .i64 2), (.slice (some ⟨b6, 0, none⟩) 1 1)]) (y_build rfl (by kernel_rfl)) ?_
  obtain ⟨z5, K7, n8, n9⟩ := box_store (P := Try.prog) a0 [] [(.int .i64 0), (.slice none 0 0)] [] [(.int .i64 2), (.slice (some ⟨b6, 0, none⟩) 1 1)] rfl rfl (by intro u hu; simp only [List.mem_cons, List.not_mem_nil, or_false] at hu; rcases hu with rfl | rfl <;> rfl)
  refine pl_skip (w' := z5) (ys_store rfl rfl (K7 _ _ rfl Sz98)) ?_
  have hO := hO.fr1
  have f7 := f7.ma n8 hO same_ (fun _ e => (mem_l (e)))
  have hC := hC.st n8 hO same_
  have hO := hO.ext n8
  have n9 : BoxV z5 a1 98 [(.int .i64 2), (.slice (some ⟨b6, 0, none⟩) 1 1)] := n9
  refine c_nil ?_
  refine wp_ret ?_
  cases hs
  have hO := hO.drop
  exact ⟨_, a1, (some ⟨b6, 0, none⟩), 1, 1, (b6 :: ((([a4])) ++ ([]))), fr_ovl 96 ⟨rfl, trivial⟩, n9, hC, f7, hO.top⟩
 refine c_condF (congrArg Value.bool n5) ?_
 refine c_sr ?_
 refine pl_val (.bool (k == 10)) (y_eql rfl rfl) ?_
 refine pl_val (.bool (k == 10)) (y_assign rfl) ?_
 refine c_nil ?_
 rcases bif_some hs with ⟨o0, hs⟩ | ⟨o0, hs⟩
 ·refine c_condT (congrArg Value.bool o0) ?_
  refine c_sr ?_
  obtain ⟨r83, K8, hs⟩ := bind_some hs
  refine pl_call Bd108 rfl (c_spec_l2Binary (M := M) (ByteArray.mk #[48, 48, 48, 49, 49, 49, 50, 50, 50])  hO.fut K8) ?_
  rintro _ K9 ⟨z6, z7, z8, f8, rfl, o1, o2, L0⟩
  have a0 := a0.cn o1
  have hC := hC.ext o1
  have hO := Own.join0 hO o1 L0
  have hO := hO.perm (R := f8 ++ (([a1]) ++ ([]))) (by simp)
  obtain ⟨z9, b7, L1, A0, i3, A1⟩ := new_block K9 [(.int .i64 r83.1), (.slice z6 z7 z8)] 27
  refine pl_val (w' := z9) (.slice (some ⟨b7, 0, none⟩) 1 1) (y_bslice rfl (by rw [L1, A0]; kernel_rfl)) ?_
  have a0 := a0.cn i3
  have o2 := o2.ext i3
  have hC := hC.ext i3
  have hO := hO.new1 i3 A0 A1.lt
  have hO := hO.perm (R := (b7 :: ((f8) ++ ([]))) ++ (([a1]) ++ ([]))) (by simp)
  have L2 := hO.nd
  have f9 := os_of_box (r := (RT.pr (RT.int .i64) (RT.os 3 (RT.int .i64)))) (M := M) (css := [[(.int .i64 r83.1), (.slice z6 z7 z8)]]) (fps := [(f8 : List Nat)]) (xs := ([(r83.1, r83.2)] : List (Int × (List Int)))) A1 ⟨⟨_, _, _, _, rfl, rfl, ⟨rfl, rfl⟩, (os_unval o2)⟩, trivial⟩ (Nat.le_of_ble_eq_true rfl) L2
  have f9 : (RT.os 27 (RT.pr (RT.int .i64) (RT.os 3 (RT.int .i64)))).val M z9 (.slice (some ⟨b7, 0, none⟩) 1 1) [(r83.1, r83.2)] (b7 :: ((f8) ++ ([]))) := f9
  refine pl_val (.agg #[(.int .i64 3), (.slice (some ⟨b7, 0, none⟩) 1 1)]) (y_build rfl (by kernel_rfl)) ?_
  obtain ⟨A2, L3, o3, o4⟩ := box_store (P := Try.prog) a0 [] [(.int .i64 0), (.slice none 0 0)] [] [(.int .i64 3), (.slice (some ⟨b7, 0, none⟩) 1 1)] rfl rfl (by intro u hu; simp only [List.mem_cons, List.not_mem_nil, or_false] at hu; rcases hu with rfl | rfl <;> rfl)
  refine pl_skip (w' := A2) (ys_store rfl rfl (L3 _ _ rfl Sz98)) ?_
  have hO := hO.fr1
  have f9 := f9.ma o3 hO same_ (fun _ e => (mem_l (e)))
  have hC := hC.st o3 hO same_
  have hO := hO.ext o3
  have o4 : BoxV A2 a1 98 [(.int .i64 3), (.slice (some ⟨b7, 0, none⟩) 1 1)] := o4
  refine c_nil ?_
  refine wp_ret ?_
  cases hs
  have hO := hO.drop
  exact ⟨_, a1, (some ⟨b7, 0, none⟩), 1, 1, (b7 :: ((f8) ++ ([]))), fr_ovl 96 ⟨rfl, trivial⟩, o4, hC, f9, hO.top⟩
 refine c_condF (congrArg Value.bool o0) ?_
 refine c_sr ?_
 refine pl_val (.bool (k == 11)) (y_eql rfl rfl) ?_
 refine pl_val (.bool (k == 11)) (y_assign rfl) ?_
 refine c_nil ?_
 rcases bif_some hs with ⟨o5, hs⟩ | ⟨o5, hs⟩
 ·refine c_condT (congrArg Value.bool o5) ?_
  refine c_sr ?_
  obtain ⟨r90, L4, hs⟩ := bind_some hs
  refine pl_call Bd108 rfl (c_spec_l2Binary (M := M) (ByteArray.mk #[48, 48, 48, 48, 48, 48, 49, 48, 48, 49, 48, 48, 50, 48, 50, 48, 48, 48, 51, 51, 48, 49, 50, 51, 52])  hO.fut L4) ?_
  rintro _ O9 ⟨A3, A4, A5, c9, rfl, o6, g0, L5⟩
  have a0 := a0.cn o6
  have hC := hC.ext o6
  have hO := Own.join0 hO o6 L5
  have hO := hO.perm (R := c9 ++ (([a1]) ++ ([]))) (by simp)
  obtain ⟨r93, L6, hs⟩ := bind_some hs
  refine pl_call Bd108 rfl (c_spec_l2Binary (M := M) (ByteArray.mk #[48, 49, 50, 51, 52, 49, 49, 52, 52, 52, 50, 52, 50, 52, 52, 51, 52, 52, 51, 52, 52, 52, 52, 52, 52])  hO.fut L6) ?_
  rintro _ L7 ⟨A6, A7, A8, g1, rfl, i4, o7, L8⟩
  have a0 := a0.cn i4
  have g0 := g0.ext i4
  have hC := hC.ext i4
  have hO := Own.join0 hO i4 L8
  have hO := hO.perm (R := g1 ++ (c9 ++ (([a1]) ++ ([])))) (by simp)
  obtain ⟨A9, b8, L9, B0, g2, B1⟩ := new_block L7 [(.int .i64 r90.1), (.slice A3 A4 A5), (.int .i64 r93.1), (.slice A6 A7 A8)] 27
  refine pl_val (w' := A9) (.slice (some ⟨b8, 0, none⟩) 2 2) (y_bslice rfl (by rw [L9, B0]; kernel_rfl)) ?_
  have a0 := a0.cn g2
  have g0 := g0.ext g2
  have o7 := o7.ext g2
  have hC := hC.ext g2
  have hO := hO.fr1
  have hO := hO.new1 g2 B0 B1.lt
  have hO := hO.perm (R := (b8 :: ((c9) ++ ((g1) ++ ([])))) ++ (([a1]) ++ ([]))) (by simp)
  have M0 := hO.nd
  have g3 := os_of_box (r := (RT.pr (RT.int .i64) (RT.os 3 (RT.int .i64)))) (M := M) (css := [[(.int .i64 r90.1), (.slice A3 A4 A5)], [(.int .i64 r93.1), (.slice A6 A7 A8)]]) (fps := [(c9 : List Nat), (g1 : List Nat)]) (xs := ([(r90.1, r90.2), (r93.1, r93.2)] : List (Int × (List Int)))) B1 ⟨⟨_, _, _, _, rfl, rfl, ⟨rfl, rfl⟩, (os_unval g0)⟩, ⟨⟨_, _, _, _, rfl, rfl, ⟨rfl, rfl⟩, (os_unval o7)⟩, trivial⟩⟩ (Nat.le_of_ble_eq_true rfl) M0
  have g3 : (RT.os 27 (RT.pr (RT.int .i64) (RT.os 3 (RT.int .i64)))).val M A9 (.slice (some ⟨b8, 0, none⟩) 2 2) [(r90.1, r90.2), (r93.1, r93.2)] (b8 :: ((c9) ++ ((g1) ++ ([])))) := g3
  refine pl_val (.agg #[(.int .i64 5), (.slice (some ⟨b8, 0, none⟩) 2 2)]) (y_build rfl (by kernel_rfl)) ?_
  obtain ⟨B2, M1, o8, o9⟩ := box_store (P := Try.prog) a0 [] [(.int .i64 0), (.slice none 0 0)] [] [(.int .i64 5), (.slice (some ⟨b8, 0, none⟩) 2 2)] rfl rfl (by intro u hu; simp only [List.mem_cons, List.not_mem_nil, or_false] at hu; rcases hu with rfl | rfl <;> rfl)
  refine pl_skip (w' := B2) (ys_store rfl rfl (M1 _ _ rfl Sz98)) ?_
  have hO := hO.fr1
  have g3 := g3.ma o8 hO same_ (fun _ e => (mem_l (e)))
  have hC := hC.st o8 hO same_
  have hO := hO.ext o8
  have o9 : BoxV B2 a1 98 [(.int .i64 5), (.slice (some ⟨b8, 0, none⟩) 2 2)] := o9
  refine c_nil ?_
  refine wp_ret ?_
  cases hs
  have hO := hO.drop
  exact ⟨_, a1, (some ⟨b8, 0, none⟩), 2, 2, (b8 :: ((c9) ++ ((g1) ++ ([])))), fr_ovl 96 ⟨rfl, trivial⟩, o9, hC, g3, hO.top⟩
 refine c_condF (congrArg Value.bool o5) ?_
 refine c_sr ?_
 refine pl_val (.bool (k == 12)) (y_eql rfl rfl) ?_
 refine pl_val (.bool (k == 12)) (y_assign rfl) ?_
 refine c_nil ?_
 rcases bif_some hs with ⟨p0, hs⟩ | ⟨p0, hs⟩
 ·refine c_condT (congrArg Value.bool p0) ?_
  refine c_sr ?_
  obtain ⟨r100, M2, hs⟩ := bind_some hs
  refine pl_call Bd108 rfl (c_spec_l2Binary (M := M) (ByteArray.mk #[48, 49, 50, 51, 49, 50, 51, 48, 50, 51, 48, 49, 51, 48, 49, 50])  hO.fut M2) ?_
  rintro _ M3 ⟨B3, B4, B5, g4, rfl, p1, p2, M4⟩
  have a0 := a0.cn p1
  have hC := hC.ext p1
  have hO := Own.join0 hO p1 M4
  have hO := hO.perm (R := g4 ++ (([a1]) ++ ([]))) (by simp)
  obtain ⟨B6, b9, M5, B7, i5, B8⟩ := new_block M3 [(.int .i64 r100.1), (.slice B3 B4 B5)] 27
  refine pl_val (w' := B6) (.slice (some ⟨b9, 0, none⟩) 1 1) (y_bslice rfl (by rw [M5, B7]; kernel_rfl)) ?_
  have a0 := a0.cn i5
  have p2 := p2.ext i5
  have hC := hC.ext i5
  have hO := hO.new1 i5 B7 B8.lt
  have hO := hO.perm (R := (b9 :: ((g4) ++ ([]))) ++ (([a1]) ++ ([]))) (by simp)
  have M6 := hO.nd
  have g5 := os_of_box (r := (RT.pr (RT.int .i64) (RT.os 3 (RT.int .i64)))) (M := M) (css := [[(.int .i64 r100.1), (.slice B3 B4 B5)]]) (fps := [(g4 : List Nat)]) (xs := ([(r100.1, r100.2)] : List (Int × (List Int)))) B8 ⟨⟨_, _, _, _, rfl, rfl, ⟨rfl, rfl⟩, (os_unval p2)⟩, trivial⟩ (Nat.le_of_ble_eq_true rfl) M6
  have g5 : (RT.os 27 (RT.pr (RT.int .i64) (RT.os 3 (RT.int .i64)))).val M B6 (.slice (some ⟨b9, 0, none⟩) 1 1) [(r100.1, r100.2)] (b9 :: ((g4) ++ ([]))) := g5
  refine pl_val (.agg #[(.int .i64 4), (.slice (some ⟨b9, 0, none⟩) 1 1)]) (y_build rfl (by kernel_rfl)) ?_
  obtain ⟨B9, M7, p3, p4⟩ := box_store (P := Try.prog) a0 [] [(.int .i64 0), (.slice none 0 0)] [] [(.int .i64 4), (.slice (some ⟨b9, 0, none⟩) 1 1)] rfl rfl (by intro u hu; simp only [List.mem_cons, List.not_mem_nil, or_false] at hu; rcases hu with rfl | rfl <;> rfl)
  refine pl_skip (w' := B9) (ys_store rfl rfl (M7 _ _ rfl Sz98)) ?_
  have hO := hO.fr1
  have g5 := g5.ma p3 hO same_ (fun _ e => (mem_l (e)))
  have hC := hC.st p3 hO same_
  have hO := hO.ext p3
  have p4 : BoxV B9 a1 98 [(.int .i64 4), (.slice (some ⟨b9, 0, none⟩) 1 1)] := p4
  refine c_nil ?_
  refine wp_ret ?_
  cases hs
  have hO := hO.drop
  exact ⟨_, a1, (some ⟨b9, 0, none⟩), 1, 1, (b9 :: ((g4) ++ ([]))), fr_ovl 96 ⟨rfl, trivial⟩, p4, hC, g5, hO.top⟩
 refine c_condF (congrArg Value.bool p0) ?_
 refine c_sr ?_
 refine pl_val (.bool (k == 13)) (y_eql rfl rfl) ?_
 refine pl_val (.bool (k == 13)) (y_assign rfl) ?_
 refine c_nil ?_
 rcases bif_some hs with ⟨p5, hs⟩ | ⟨p5, hs⟩
 ·refine c_condT (congrArg Value.bool p5) ?_
  refine c_sr ?_
  obtain ⟨p6, a5, M8, C0, p7, C1⟩ := new_block d0 [(.int .i64 0), (.int .i64 0), (.int .i64 1)] 3
  refine pl_val (w' := p6) (.slice (some ⟨a5, 0, none⟩) 3 3) (y_bslice rfl (by rw [M8, C0]; kernel_rfl)) ?_
  have a0 := a0.cn p7
  have hC := hC.ext p7
  have hO := hO.new1 p7 C0 C1.lt
  have c4 := os_of_box (r := (RT.int .i64)) (M := M) (css := [[(.int .i64 0)], [(.int .i64 0)], [(.int .i64 1)]]) (fps := [([] : List Nat), ([] : List Nat), ([] : List Nat)]) (xs := ([0, 0, 1] : List Int)) C1 ⟨⟨rfl, rfl⟩, ⟨⟨rfl, rfl⟩, ⟨⟨rfl, rfl⟩, trivial⟩⟩⟩ (Nat.le_of_ble_eq_true rfl) (List.nodup_cons.2 ⟨(fun h => nomatch h), List.nodup_nil⟩)
  have c4 : (RT.os 3 (RT.int .i64)).val M p6 (.slice (some ⟨a5, 0, none⟩) 3 3) [0, 0, 1] [a5] := c4
  refine pl_val (.agg #[(.int .i64 1), (.slice (some ⟨a5, 0, none⟩) 3 3)]) (y_build rfl (by kernel_rfl)) ?_
  obtain ⟨p8, a6, M9, C2, i6, C3⟩ := new_block p6 [(.int .i64 2)] 3
  refine pl_val (w' := p8) (.slice (some ⟨a6, 0, none⟩) 1 1) (y_bslice rfl (by rw [M9, C2]; kernel_rfl)) ?_
  have a0 := a0.cn i6
  have c4 := c4.ext i6
  have hC := hC.ext i6
  have hO := hO.new1 i6 C2 C3.lt
  have g6 := os_of_box (r := (RT.int .i64)) (M := M) (css := [[(.int .i64 2)]]) (fps := [([] : List Nat)]) (xs := ([2] : List Int)) C3 ⟨⟨rfl, rfl⟩, trivial⟩ (Nat.le_of_ble_eq_true rfl) (List.nodup_cons.2 ⟨(fun h => nomatch h), List.nodup_nil⟩)
  have g6 : (RT.os 3 (RT.int .i64)).val M p8 (.slice (some ⟨a6, 0, none⟩) 1 1) [2] [a6] := g6
  refine pl_val (.agg #[(.int .i64 0), (.slice (some ⟨a6, 0, none⟩) 1 1)]) (y_build rfl (by kernel_rfl)) ?_
  obtain ⟨C4, c0, N0, C5, g7, C6⟩ := new_block p8 [(.int .i64 1), (.slice (some ⟨a5, 0, none⟩) 3 3), (.int .i64 0), (.slice (some ⟨a6, 0, none⟩) 1 1)] 27
  refine pl_val (w' := C4) (.slice (some ⟨c0, 0, none⟩) 2 2) (y_bslice rfl (by rw [N0, C5]; kernel_rfl)) ?_
  have a0 := a0.cn g7
  have c4 := c4.ext g7
  have g6 := g6.ext g7
  have hC := hC.ext g7
  have hO := hO.fr1
  have hO := hO.new1 g7 C5 C6.lt
  have hO := hO.perm (R := (c0 :: ((([a5])) ++ ((([a6])) ++ ([])))) ++ (([a1]) ++ ([]))) (by simp)
  have N1 := hO.nd
  have g8 := os_of_box (r := (RT.pr (RT.int .i64) (RT.os 3 (RT.int .i64)))) (M := M) (css := [[(.int .i64 1), (.slice (some ⟨a5, 0, none⟩) 3 3)], [(.int .i64 0), (.slice (some ⟨a6, 0, none⟩) 1 1)]]) (fps := [([a5] : List Nat), ([a6] : List Nat)]) (xs := ([(1, [0, 0, 1]), (0, [2])] : List (Int × (List Int)))) C6 ⟨⟨_, _, _, _, rfl, rfl, ⟨rfl, rfl⟩, (os_unval c4)⟩, ⟨⟨_, _, _, _, rfl, rfl, ⟨rfl, rfl⟩, (os_unval g6)⟩, trivial⟩⟩ (Nat.le_of_ble_eq_true rfl) N1
  have g8 : (RT.os 27 (RT.pr (RT.int .i64) (RT.os 3 (RT.int .i64)))).val M C4 (.slice (some ⟨c0, 0, none⟩) 2 2) [(1, [0, 0, 1]), (0, [2])] (c0 :: ((([a5])) ++ ((([a6])) ++ ([])))) := g8
  refine pl_val (.agg #[(.int .i64 3), (.slice (some ⟨c0, 0, none⟩) 2 2)]) (y_build rfl (by kernel_rfl)) ?_
  obtain ⟨C7, N2, p9, q0⟩ := box_store (P := Try.prog) a0 [] [(.int .i64 0), (.slice none 0 0)] [] [(.int .i64 3), (.slice (some ⟨c0, 0, none⟩) 2 2)] rfl rfl (by intro u hu; simp only [List.mem_cons, List.not_mem_nil, or_false] at hu; rcases hu with rfl | rfl <;> rfl)
  refine pl_skip (w' := C7) (ys_store rfl rfl (N2 _ _ rfl Sz98)) ?_
  have hO := hO.fr1
  have g8 := g8.ma p9 hO same_ (fun _ e => (mem_l (e)))
  have hC := hC.st p9 hO same_
  have hO := hO.ext p9
  have q0 : BoxV C7 a1 98 [(.int .i64 3), (.slice (some ⟨c0, 0, none⟩) 2 2)] := q0
  refine c_nil ?_
  refine wp_ret ?_
  cases hs
  have hO := hO.drop
  exact ⟨_, a1, (some ⟨c0, 0, none⟩), 2, 2, (c0 :: ((([a5])) ++ ((([a6])) ++ ([])))), fr_ovl 96 ⟨rfl, trivial⟩, q0, hC, g8, hO.top⟩
 refine c_condF (congrArg Value.bool p5) ?_
 refine c_sr ?_
 refine pl_val (.bool (k == 14)) (y_eql rfl rfl) ?_
 refine pl_val (.bool (k == 14)) (y_assign rfl) ?_
 refine c_nil ?_
 rcases bif_some hs with ⟨q1, hs⟩ | ⟨q1, hs⟩
 ·refine c_condT (congrArg Value.bool q1) ?_
  refine c_sr ?_
  obtain ⟨r115, N3, hs⟩ := bind_some hs
  refine pl_call Bd108 rfl (c_spec_l2Binary (M := M) (ByteArray.mk #[48])  hO.fut N3) ?_
  rintro _ N4 ⟨C8, C9, D0, g9, rfl, q2, q3, N5⟩
  have a0 := a0.cn q2
  have hC := hC.ext q2
  have hO := Own.join0 hO q2 N5
  have hO := hO.perm (R := g9 ++ (([a1]) ++ ([]))) (by simp)
  obtain ⟨D1, c1, N6, D2, i7, D3⟩ := new_block N4 [(.int .i64 r115.1), (.slice C8 C9 D0)] 27
  refine pl_val (w' := D1) (.slice (some ⟨c1, 0, none⟩) 1 1) (y_bslice rfl (by rw [N6, D2]; kernel_rfl)) ?_
  have a0 := a0.cn i7
  have q3 := q3.ext i7
  have hC := hC.ext i7
  have hO := hO.new1 i7 D2 D3.lt
  have hO := hO.perm (R := (c1 :: ((g9) ++ ([]))) ++ (([a1]) ++ ([]))) (by simp)
  have N7 := hO.nd
  have h0 := os_of_box (r := (RT.pr (RT.int .i64) (RT.os 3 (RT.int .i64)))) (M := M) (css := [[(.int .i64 r115.1), (.slice C8 C9 D0)]]) (fps := [(g9 : List Nat)]) (xs := ([(r115.1, r115.2)] : List (Int × (List Int)))) D3 ⟨⟨_, _, _, _, rfl, rfl, ⟨rfl, rfl⟩, (os_unval q3)⟩, trivial⟩ (Nat.le_of_ble_eq_true rfl) N7
  have h0 : (RT.os 27 (RT.pr (RT.int .i64) (RT.os 3 (RT.int .i64)))).val M D1 (.slice (some ⟨c1, 0, none⟩) 1 1) [(r115.1, r115.2)] (c1 :: ((g9) ++ ([]))) := h0
  refine pl_val (.agg #[(.int .i64 1), (.slice (some ⟨c1, 0, none⟩) 1 1)]) (y_build rfl (by kernel_rfl)) ?_
  obtain ⟨D4, N8, q4, q5⟩ := box_store (P := Try.prog) a0 [] [(.int .i64 0), (.slice none 0 0)] [] [(.int .i64 1), (.slice (some ⟨c1, 0, none⟩) 1 1)] rfl rfl (by intro u hu; simp only [List.mem_cons, List.not_mem_nil, or_false] at hu; rcases hu with rfl | rfl <;> rfl)
  refine pl_skip (w' := D4) (ys_store rfl rfl (N8 _ _ rfl Sz98)) ?_
  have hO := hO.fr1
  have h0 := h0.ma q4 hO same_ (fun _ e => (mem_l (e)))
  have hC := hC.st q4 hO same_
  have hO := hO.ext q4
  have q5 : BoxV D4 a1 98 [(.int .i64 1), (.slice (some ⟨c1, 0, none⟩) 1 1)] := q5
  refine c_nil ?_
  refine wp_ret ?_
  cases hs
  have hO := hO.drop
  exact ⟨_, a1, (some ⟨c1, 0, none⟩), 1, 1, (c1 :: ((g9) ++ ([]))), fr_ovl 96 ⟨rfl, trivial⟩, q5, hC, h0, hO.top⟩
 refine c_condF (congrArg Value.bool q1) ?_
 refine c_sr ?_
 refine pl_val (.bool (k == 15)) (y_eql rfl rfl) ?_
 refine pl_val (.bool (k == 15)) (y_assign rfl) ?_
 refine c_nil ?_
 rcases bif_some hs with ⟨q6, hs⟩ | ⟨q6, hs⟩
 ·refine c_condT (congrArg Value.bool q6) ?_
  refine c_sr ?_
  obtain ⟨r122, N9, hs⟩ := bind_some hs
  refine pl_call Bd109 rfl (c_spec_l2Affine (M := M) 3  hO.fut N9) ?_
  rintro _ O0 ⟨D5, D6, D7, h1, rfl, q7, q8, O1⟩
  have a0 := a0.cn q7
  have hC := hC.ext q7
  have hO := Own.join0 hO q7 O1
  have hO := hO.perm (R := h1 ++ (([a1]) ++ ([]))) (by simp)
  obtain ⟨D8, c2, O2, D9, i9, E0⟩ := new_block O0 [(.int .i64 r122.1), (.slice D5 D6 D7)] 27
  refine pl_val (w' := D8) (.slice (some ⟨c2, 0, none⟩) 1 1) (y_bslice rfl (by rw [O2, D9]; kernel_rfl)) ?_
  have a0 := a0.cn i9
  have q8 := q8.ext i9
  have hC := hC.ext i9
  have hO := hO.new1 i9 D9 E0.lt
  have hO := hO.perm (R := (c2 :: ((h1) ++ ([]))) ++ (([a1]) ++ ([]))) (by simp)
  have O3 := hO.nd
  have h2 := os_of_box (r := (RT.pr (RT.int .i64) (RT.os 3 (RT.int .i64)))) (M := M) (css := [[(.int .i64 r122.1), (.slice D5 D6 D7)]]) (fps := [(h1 : List Nat)]) (xs := ([(r122.1, r122.2)] : List (Int × (List Int)))) E0 ⟨⟨_, _, _, _, rfl, rfl, ⟨rfl, rfl⟩, (os_unval q8)⟩, trivial⟩ (Nat.le_of_ble_eq_true rfl) O3
  have h2 : (RT.os 27 (RT.pr (RT.int .i64) (RT.os 3 (RT.int .i64)))).val M D8 (.slice (some ⟨c2, 0, none⟩) 1 1) [(r122.1, r122.2)] (c2 :: ((h1) ++ ([]))) := h2
  refine pl_val (.agg #[(.int .i64 3), (.slice (some ⟨c2, 0, none⟩) 1 1)]) (y_build rfl (by kernel_rfl)) ?_
  obtain ⟨E1, O4, q9, r0⟩ := box_store (P := Try.prog) a0 [] [(.int .i64 0), (.slice none 0 0)] [] [(.int .i64 3), (.slice (some ⟨c2, 0, none⟩) 1 1)] rfl rfl (by intro u hu; simp only [List.mem_cons, List.not_mem_nil, or_false] at hu; rcases hu with rfl | rfl <;> rfl)
  refine pl_skip (w' := E1) (ys_store rfl rfl (O4 _ _ rfl Sz98)) ?_
  have hO := hO.fr1
  have h2 := h2.ma q9 hO same_ (fun _ e => (mem_l (e)))
  have hC := hC.st q9 hO same_
  have hO := hO.ext q9
  have r0 : BoxV E1 a1 98 [(.int .i64 3), (.slice (some ⟨c2, 0, none⟩) 1 1)] := r0
  refine c_nil ?_
  refine wp_ret ?_
  cases hs
  have hO := hO.drop
  exact ⟨_, a1, (some ⟨c2, 0, none⟩), 1, 1, (c2 :: ((h1) ++ ([]))), fr_ovl 96 ⟨rfl, trivial⟩, r0, hC, h2, hO.top⟩
 refine c_condF (congrArg Value.bool q6) ?_
 refine wp_skip ?_
 refine c_sr ?_
 refine pl_val (.agg #[(.int .i64 2), (.slice none 0 0)]) (y_build rfl (by kernel_rfl)) ?_
 obtain ⟨E2, O5, E3, r1⟩ := box_store (P := Try.prog) a0 [] [(.int .i64 0), (.slice none 0 0)] [] [(.int .i64 2), (.slice none 0 0)] rfl rfl (by intro u hu; simp only [List.mem_cons, List.not_mem_nil, or_false] at hu; rcases hu with rfl | rfl <;> rfl)
 refine pl_skip (w' := E2) (ys_store rfl rfl (O5 _ _ rfl Sz98)) ?_
 have hC := hC.st E3 hO same_
 have hO := hO.ext E3
 have r1 : BoxV E2 a1 98 [(.int .i64 2), (.slice none 0 0)] := r1
 refine c_nil ?_
 refine wp_ret ?_
 cases hs
 have hO := hO.drop
 have hO := hO.nil
 exact ⟨_, a1, none, 0, 0, [], fr_ovl 96 ⟨rfl, trivial⟩, r1, hC, os_nil, hO.top⟩

def k_spec_l1Own (M : Nat → Prop) (w0 : World) (r : (List Int)) (a : Act) (w : World) : Prop :=
  ∃ (σ : Nat → Value) (ra0 : Option Addr) (rn0 rc0 : Nat) (rf0 : List Nat), a = fr 6 (ovl σ [(2, (.slice ra0 rn0 rc0))]) ∧ Chg [] w0 w ∧ (RT.os 3 (RT.int .i64)).val M w (.slice ra0 rn0 rc0) r rf0 ∧ Own (Nw w0 []) (fun _ => True) w (rf0 ++ ([]))
def s_spec_l1Own (l : List Int) : Option ((List Int)) :=
  (app ([]) l).bind fun y5 =>
  some y5
set_option maxHeartbeats 4000000 in
theorem c_spec_l1Own {M : Nat → Prop} {w : World} {pa0 : Option Addr} {pn0 pc0 : Nat} (l : List Int) (h0 : (RT.rs (RT.int .i64)).val M w (.slice pa0 pn0 pc0) l ([])) (hM : ∀ g, w.heap.size ≤ g → M g) {r : (List Int)} (hs : s_spec_l1Own l = some r) :
    Gives Try.prog 102 [(.slice pa0 pn0 pc0)] w (fun v w' => ∃ (ra0 : Option Addr) (rn0 rc0 : Nat) (rf0 : List Nat), v = (.slice ra0 rn0 rc0) ∧ Chg [] w w' ∧ (RT.os 3 (RT.int .i64)).val M w' (.slice ra0 rn0 rc0) r rf0 ∧ Own (Nw w []) (fun _ => True) w' (rf0 ++ ([]))) := by
 refine calls_fr Try.func102 rfl Try.ntmps102 (Nat.le_of_ble_eq_true rfl) ?_
 have hO := Own.start (N := Nw w []) hM Nw.fut
 have hC := Chg.refl [] w
 unfold s_spec_l1Own at hs
 refine wp_mono (Q := KPost (k_spec_l1Own M w r)) ?_ (fun e a b8 h => ?_)
 rotate_left
 ·cases e
  case ret =>
   obtain ⟨σ, ra0, rn0, rc0, rf0, rfl, hrest⟩ := h
   exact ret1x Try.results102 (res_tmp rfl) ⟨ra0, rn0, rc0, rf0, rfl, hrest⟩
  all_goals exact (h : False).elim
 refine c_sr ?_
 refine pl_val (.slice none 0 0) (y_assign rfl) ?_
 refine c_nil ?_
 refine c_sr ?_
 obtain ⟨a8, a1, b2, a9, a2, b0⟩ := new_block w [] 3
 refine pl_val (w' := a8) (.slice (some ⟨a1, 0, none⟩) 0 0) (y_bslice rfl (by rw [b2, a9]; kernel_rfl)) ?_
 have h0 := h0.ext a2
 have hC := hC.ext a2
 have hO := hO.new1 a2 a9 b0.lt
 have a0 := os_of_box (r := (RT.int .i64)) (M := M) (css := []) (fps := []) (xs := ([] : List Int)) b0 trivial (Nat.zero_le _) (List.nodup_cons.2 ⟨(fun h => nomatch h), List.nodup_nil⟩)
 have a0 : (RT.os 3 (RT.int .i64)).val M a8 (.slice (some ⟨a1, 0, none⟩) 0 0) [] [a1] := a0
 refine pl_val (.slice pa0 pn0 pc0) (y_move rfl) ?_
 obtain ⟨y5, b3, hs⟩ := bind_some hs
 obtain ⟨a3, a4, a5, b4, b5, b6, a6, b7, a7⟩ := app_rs Rw25 b3 a0 h0 hO.inM
 have b1 := os_block a0
 refine pl_val (w' := b4) (.slice a3 a4 a5) (y_append rfl rfl (b6 _)) ?_
 have h0 := h0.mt a6 hO b1
 have hC := hC.st a6 hO b1
 have hO := hO.grow a6 b7 (os_nodup a7) a7.fpl
 refine pl_val (.slice a3 a4 a5) (y_assign rfl) ?_
 refine c_nil ?_
 refine wp_ret ?_
 cases hs
 exact ⟨_, a3, a4, a5, b5, fr_ovl 6 ⟨rfl, trivial⟩, hC, a7, hO.top⟩

theorem Bd102 : Bodied Try.prog 102 := bodied Try.func102 (by kernel_rfl) rfl

def k_spec_l2Copy (M : Nat → Prop) (w0 : World) (r : (Int × (List Int))) (a : Act) (w : World) : Prop :=
  ∃ (σ : Nat → Value) (rg2 : Nat) (ra0 : Option Addr) (rn0 rc0 : Nat) (rf0 : List Nat), a = fr 9 (ovl σ [(2, (.pointer (some ⟨rg2, 0, none⟩)))]) ∧ BoxV w rg2 27 [(.int .i64 r.1), (.slice ra0 rn0 rc0)] ∧ Chg [] w0 w ∧ (RT.os 3 (RT.int .i64)).val M w (.slice ra0 rn0 rc0) r.2 rf0 ∧ Own (Nw w0 []) (fun _ => True) w (rf0 ++ ([]))
def s_spec_l2Copy (op : Int × (List Int)) : Option ((Int × (List Int))) :=
  (s_spec_l1Own op.2).bind fun r6 =>
  some (op.1, r6)
set_option maxHeartbeats 4000000 in
theorem c_spec_l2Copy {M : Nat → Prop} {w : World} {pa0 : Option Addr} {pn0 pc0 : Nat} (op : Int × (List Int)) (h0 : (RT.rs (RT.int .i64)).val M w (.slice pa0 pn0 pc0) op.2 ([])) (hM : ∀ g, w.heap.size ≤ g → M g) {r : (Int × (List Int))} (hs : s_spec_l2Copy op = some r) :
    Gives Try.prog 105 [(.agg #[(.int .i64 op.1), (.slice pa0 pn0 pc0)])] w (fun v w' => ∃ (ra0 : Option Addr) (rn0 rc0 : Nat) (rf0 : List Nat), v = (.agg #[(.int .i64 r.1), (.slice ra0 rn0 rc0)]) ∧ Chg [] w w' ∧ (RT.os 3 (RT.int .i64)).val M w' (.slice ra0 rn0 rc0) r.2 rf0 ∧ Own (Nw w []) (fun _ => True) w' (rf0 ++ ([]))) := by
 refine calls_fr Try.func105 rfl Try.ntmps105 (Nat.le_of_ble_eq_true rfl) ?_
 have hO := Own.start (N := Nw w []) hM Nw.fut
 have hC := Chg.refl [] w
 unfold s_spec_l2Copy at hs
 refine wp_mono (Q := KPost (k_spec_l2Copy M w r)) ?_ (fun e a c6 h => ?_)
 rotate_left
 ·cases e
  case ret =>
   obtain ⟨σ, rg2, ra0, rn0, rc0, rf0, rfl, hbrg2, hrest⟩ := h
   exact ret1x Try.results105 (res_cell rfl (box_load Ag27 Sz27 hbrg2 [] _ [] rfl rfl (fun h => nomatch h))) ⟨ra0, rn0, rc0, rf0, rfl, hrest⟩
  all_goals exact (h : False).elim
 refine c_sr ?_
 obtain ⟨b6, a8, c1, b7, b2, a0⟩ := new_block w [(.int .i64 op.1), (.slice pa0 pn0 pc0)] 27
 refine pl_val (w' := b6) (.pointer (some ⟨a8, 0, none⟩)) (y_box rfl (by rw [c1, b7]; kernel_rfl)) ?_
 have h0 := h0.ext b2
 have hC := hC.ext b2
 have hO := hO.new1 b2 b7 a0.lt
 obtain ⟨b3, a9, c2, b8, b0, a2⟩ := new_block b6 [(.int .i64 0), (.slice none 0 0)] 27
 refine pl_val (w' := b3) (.pointer (some ⟨a9, 0, none⟩)) (y_alloc (by rw [c2, b8]; kernel_rfl)) ?_
 have h0 := h0.ext b0
 have a0 := a0.cn b0
 have hC := hC.ext b0
 have hO := hO.new1 b0 b8 a2.lt
 refine c_nil ?_
 refine c_seq ?_
 refine x_start [6] Mx rfl ?_
 have a3 := Chg.drew b3
 generalize World.drew b3 = c3 at a3 ⊢
 have h0 := h0.ext a3
 have a0 := a0.cn a3
 have a2 := a2.cn a3
 have hC := hC.ext a3
 have hO := hO.ext a3
 have hS := Chg.refl [] c3
 refine x_p 0 (.pointer (some ⟨a8, 0, none⟩)) rfl (by kernel_rfl)  (fun _ => y_faddr rfl Fa27x0) (fun _ => hS) ?_
 refine x_l 1 (.int .i64 op.1) rfl (by kernel_rfl)  (fun w' hw' => y_load rfl ((box_load Ag3 Sz3 a0 [] [(.int .i64 op.1)] [(.slice pa0 pn0 pc0)] rfl rfl (fun _ => rfl)) w' hw')) hS ?_
 refine x_p 2 (.pointer (some ⟨a8, 1, none⟩)) rfl (by kernel_rfl)  (fun _ => y_faddr rfl Fa27x1) (fun _ => hS) ?_
 refine x_l 3 (.slice pa0 pn0 pc0) rfl (by kernel_rfl)  (fun w' hw' => y_load rfl ((box_load Ag25 Sz25 a0 [(.int .i64 op.1)] [(.slice pa0 pn0 pc0)] [] rfl rfl (fun _ => rfl)) w' hw')) hS ?_
 refine x_one (i := 4) (by kernel_rfl) ?_
 obtain ⟨r6, c4, hs⟩ := bind_some hs
 refine xk_call (b := false) rfl  Bd102 rfl (c_spec_l1Own (M := M) op.2 h0 hO.fut c4) rfl (by rintro _ _ _ ⟨a4, a5, a6, b4, rfl, a1, b1, b9⟩; exact hS.ext a1) ?_
 rintro _ c7 ⟨a4, a5, a6, b4, rfl, a1, b1, b9⟩
 have h0 := h0.ext a1
 have a0 := a0.cn a1
 have a2 := a2.cn a1
 have hC := hC.ext a1
 have hO := Own.join0 hO a1 b9
 have hO := hO.perm (R := b4 ++ (([a9]) ++ (([a8]) ++ ([])))) (by simp)
 have hS := hS.ext a1
 refine x_p 5 (.agg #[(.int .i64 op.1), (.slice a4 a5 a6)]) rfl (by kernel_rfl)  (fun _ => y_build rfl (by kernel_rfl)) (fun _ => hS) ?_
 refine x_one (i := 6) (by kernel_rfl) ?_
 obtain ⟨c0, c5, a7, b5⟩ := box_store (P := Try.prog) a2 [] [(.int .i64 0), (.slice none 0 0)] [] [(.int .i64 op.1), (.slice a4 a5 a6)] rfl rfl (by intro u hu; simp only [List.mem_cons, List.not_mem_nil, or_false] at hu; rcases hu with rfl | rfl <;> rfl)
 refine xk_skip (w' := c0) (b := true) rfl (ys_store rfl rfl (c5 _ _ rfl Sz27)) rfl (fun h => nomatch h) ?_
 have hO := hO.fr1
 have h0 := h0.mt a7 hO same_
 have a0 := a0.ap a7 hO same_ (mem_r (mem_l (List.mem_singleton.2 rfl)))
 have b1 := b1.ma a7 hO same_ (fun _ e => (mem_l (e)))
 have hC := hC.st a7 hO same_
 have hO := hO.ext a7
 have b5 : BoxV c0 a9 27 [(.int .i64 op.1), (.slice a4 a5 a6)] := b5
 refine x_end (by kernel_rfl) ?_
 clear hS
 refine wp_ret ?_
 cases hs
 have hO := hO.drop
 have hO := hO.fr1
 have hO := hO.drop
 exact ⟨_, a9, a4, a5, a6, b4, fr_ovl 9 ⟨rfl, trivial⟩, b5, hC, b1, hO.top⟩

def k_spec_l2Pow (M : Nat → Prop) (w0 : World) (r : Int) (a : Act) (w : World) : Prop :=
  ∃ (σ : Nat → Value) , a = fr 14 (ovl σ [(4, (.int .i64 r))]) ∧ Chg [] w0 w
def s_spec_l2Pow (n : Int) (k : Int) : Option (Int) :=
  (iter (S := Int × Int) (R := Int) (fun s2 =>
  (bif (decide (0 < s2.1)) then some (.nx (w64 (s2.1 - 1), w64 (s2.2 * n))) else some (.br (s2.1, s2.2)))) FU (k, 1)).bind fun o6 => after o6 (fun r_ => some r_) (fun s2 =>
  some s2.2)
set_option maxHeartbeats 4000000 in
theorem c_spec_l2Pow {M : Nat → Prop} {w : World}  (n : Int) (k : Int)  (hM : ∀ g, w.heap.size ≤ g → M g) {r : Int} (hs : s_spec_l2Pow n k = some r) :
    Gives Try.prog 93 [(.int .i64 n), (.int .i64 k)] w (fun v w' => v = (.int .i64 r) ∧ Chg [] w w') := by
 refine calls_fr Try.func93 rfl Try.ntmps93 (Nat.le_of_ble_eq_true rfl) ?_
 have hO := Own.start (N := Nw w []) hM Nw.fut
 have hC := Chg.refl [] w
 unfold s_spec_l2Pow at hs
 refine wp_mono (Q := KPost (k_spec_l2Pow M w r)) ?_ (fun e a a2 h => ?_)
 rotate_left
 ·cases e
  case ret =>
   obtain ⟨σ, rfl, hrest⟩ := h
   exact ret1x Try.results93 (res_tmp rfl) ⟨rfl, hrest⟩
  all_goals exact (h : False).elim
 refine c_sr ?_
 refine pl_val (.int .i64 0) (y_assign rfl) ?_
 refine c_nil ?_
 refine c_sr ?_
 refine pl_val (.int .i64 1) (y_assign rfl) ?_
 refine c_nil ?_
 refine c_seq ?_
 obtain ⟨o6, a3, hs⟩ := bind_some hs
 refine wp_block ?_
 refine wp_iter (id := 0) (I := fun s2 a a0 => ∃ (σ : Nat → Value), a = fr 14 (ovl σ [(0, (.int .i64 n)), (1, (.int .i64 s2.1)), (5, (.int .i64 s2.2))]) ∧ Chg [] w a0 ∧ Own (Nw w []) M a0 ([])) (J := fun s2 a a0 => ∃ (σ : Nat → Value), a = fr 14 (ovl σ [(5, (.int .i64 s2.2))]) ∧ Chg [] w a0 ∧ Own (Nw w []) M a0 ([])) (K := (k_spec_l2Pow M w)) ?_ FU (k, 1) o6 _ _ ?_ a3 ?_
 ·rintro s2 o6 a a0 ⟨σ, rfl, hC, hO⟩ hs
  refine c_seq ?_
  refine c_sr ?_
  refine pl_val (.int .i64 s2.1) (y_move rfl) ?_
  refine pl_val (.bool (decide (0 < s2.1))) (y_gtr rfl rfl) ?_
  refine c_nil ?_
  rcases bif_some hs with ⟨a1, hs⟩ | ⟨a1, hs⟩
  ·refine c_condT (congrArg Value.bool a1) ?_
   refine wp_skip ?_
   refine c_seq ?_
   refine wp_block ?_
   refine c_region ?_
   refine pl_val (.int .i64 s2.2) (y_move rfl) ?_
   refine pl_val (.int .i64 n) (y_move rfl) ?_
   refine pl_val (.int .i64 (w64 (s2.2 * n))) (y_mul rfl rfl) ?_
   refine pl_val (.int .i64 (w64 (s2.2 * n))) (y_assign rfl) ?_
   refine c_nil ?_
   refine c_region ?_
   refine pl_val (.int .i64 s2.1) (y_move rfl) ?_
   refine pl_val (.int .i64 (w64 (s2.1 - 1))) (y_sub rfl rfl) ?_
   refine pl_val (.int .i64 (w64 (s2.1 - 1))) (y_assign rfl) ?_
   refine c_nil ?_
   cases hs
   exact ⟨_, fr_ovl 14 ⟨rfl, rfl, rfl, trivial⟩, hC, hO⟩
  refine c_condF (congrArg Value.bool a1) ?_
  refine wp_exit ?_
  cases hs
  exact ⟨rfl, _, fr_ovl 14 ⟨rfl, trivial⟩, hC, hO⟩
 ·skip
  exact ⟨_, fr_ovl 14 ⟨rfl, rfl, rfl, trivial⟩, hC, hO⟩
 cases o6 with
 | nx _ => exact True.intro
 | rt r_ =>
  have hs := after_rt hs
  intro a4 a2 hK
  cases hs
  exact hK
 | br s2 =>
  have hs := after_br hs
  rintro a4 a0 ⟨σ, rfl, hC, hO⟩
  refine c_sr ?_
  refine pl_val (.int .i64 s2.2) (y_move rfl) ?_
  refine pl_val (.int .i64 s2.2) (y_assign rfl) ?_
  refine c_nil ?_
  refine wp_ret ?_
  cases hs
  exact ⟨_, fr_ovl 14 ⟨rfl, trivial⟩, hC⟩

theorem Bd75 : Bodied Try.prog 75 := bodied Try.func75 (by kernel_rfl) rfl

theorem Bd104 : Bodied Try.prog 104 := bodied Try.func104 (by kernel_rfl) rfl

theorem Fa98x0 : ∀ (a : Addr) (w : World), (Instr.fieldAt 98 (.pointer (some a)) 0).run Try.prog w = .ok (.pointer (some (a.add 0))) w := fun _ _ => by kernel_rfl

theorem Fa98x1 : ∀ (a : Addr) (w : World), (Instr.fieldAt 98 (.pointer (some a)) 1).run Try.prog w = .ok (.pointer (some (a.add 1))) w := fun _ _ => by kernel_rfl

theorem Ag96 : AggT Try.prog 96 false := fun _ => by kernel_rfl

theorem Sz96 : SzT Try.prog 96 1 := ⟨_, rfl, rfl⟩

theorem Sl96 : SlT Try.prog 96 27 := Try.underlying96

theorem Bd105 : Bodied Try.prog 105 := bodied Try.func105 (by kernel_rfl) rfl

theorem Bd93 : Bodied Try.prog 93 := bodied Try.func93 (by kernel_rfl) rfl

end Go.Proofs
