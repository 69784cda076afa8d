/- What functions of the program compute, as plain functions, and that a call gives just that. Conditions: those named in each theorem. -/
import Derived.Test.YtmghggenjagioaaGCallm
import Derived.Test.YtmghggenjagioaaRows
set_option linter.unusedVariables false
namespace Go.Proofs
open Go.G Go.RowKit
set_option maxRecDepth 100000

theorem Sl37 : SlT Try.prog 37 3 := Try.underlying37

def k_laws_szIntS (M : Nat → Prop) (w0 : World) (r : Int) (a : Act) (w : World) : Prop :=
  ∃ (σ : Nat → Value) , a = fr 12 (ovl σ [(4, (.int .i64 r))]) ∧ Chg [] w0 w
def s_laws_szIntS (a_ : List Int) (left : Int) : Option (Int) :=
  (bif (decide ((w64 (left - (a_.length : Int))) < 0)) then some (-1) else some (w64 (left - (a_.length : Int))))
set_option maxHeartbeats 4000000 in
theorem c_laws_szIntS {M : Nat → Prop} {w : World} {pa0 : Option Addr} {pn0 pc0 : Nat} (a_ : List Int) (left : Int) (h0 : (RT.rs (RT.int .i64)).val M w (.slice pa0 pn0 pc0) a_ ([])) (hM : ∀ g, w.heap.size ≤ g → M g) {r : Int} (hs : s_laws_szIntS a_ left = some r) :
    Gives Try.prog 93 [(.slice pa0 pn0 pc0), (.int .i64 left)] w (fun v w' => v = (.int .i64 r) ∧ Chg [] w w') := by
 refine calls_fr Try.func93 rfl Try.ntmps93 (Nat.le_of_ble_eq_true rfl) ?_
 have hO := Own.start (N := Nw w []) hM Nw.fut
 have hC := Chg.refl [] w
 unfold s_laws_szIntS at hs
 refine wp_mono (Q := KPost (k_laws_szIntS M w r)) ?_ (fun e a a1 h => ?_)
 rotate_left
 ·cases e
  case ret =>
   obtain ⟨σ, rfl, hrest⟩ := h
   exact ret1x Try.results93 (res_tmp rfl) ⟨rfl, hrest⟩
  all_goals exact (h : False).elim
 refine c_sr ?_
 refine pl_val (.int .i64 0) (y_assign rfl) ?_
 refine c_nil ?_
 refine c_sr ?_
 refine pl_val (.int .i64 left) (y_move rfl) ?_
 refine pl_val (.slice pa0 pn0 pc0) (y_move rfl) ?_
 refine pl_val (.int .i64 (a_.length : Int)) (y_len' Sl37 (rs_len h0) rfl) ?_
 refine pl_val (.int .i64 (w64 (left - (a_.length : Int)))) (y_sub rfl rfl) ?_
 refine pl_val (.int .i64 (w64 (left - (a_.length : Int)))) (y_assign rfl) ?_
 refine c_nil ?_
 refine c_seq ?_
 refine c_sr ?_
 refine pl_val (.int .i64 (w64 (left - (a_.length : Int)))) (y_move rfl) ?_
 refine pl_val (.bool (decide ((w64 (left - (a_.length : Int))) < 0))) (y_lss rfl rfl) ?_
 refine c_nil ?_
 rcases bif_some hs with ⟨a0, hs⟩ | ⟨a0, hs⟩
 ·refine c_condT (congrArg Value.bool a0) ?_
  refine c_sr ?_
  refine pl_val (.int .i64 (-1)) (y_assign rfl) ?_
  refine c_nil ?_
  refine wp_ret ?_
  cases hs
  exact ⟨_, fr_ovl 12 ⟨rfl, trivial⟩, hC⟩
 refine c_condF (congrArg Value.bool a0) ?_
 refine wp_skip ?_
 refine c_sr ?_
 refine pl_val (.int .i64 (w64 (left - (a_.length : Int)))) (y_move rfl) ?_
 refine pl_val (.int .i64 (w64 (left - (a_.length : Int)))) (y_assign rfl) ?_
 refine c_nil ?_
 refine wp_ret ?_
 cases hs
 exact ⟨_, fr_ovl 12 ⟨rfl, trivial⟩, hC⟩

theorem Fa75x1 : ∀ (a : Addr) (w : World), (Instr.fieldAt 75 (.pointer (some a)) 1).run Try.prog w = .ok (.pointer (some (a.add 1))) w := fun _ _ => by kernel_rfl

theorem Ag37 : AggT Try.prog 37 false := fun _ => by kernel_rfl

theorem Sz37 : SzT Try.prog 37 1 := ⟨_, rfl, rfl⟩

theorem Bd93 : Bodied Try.prog 93 := bodied Try.func93 (by kernel_rfl) rfl

def k_laws_szOp (M : Nat → Prop) (w0 : World) (r : Int) (a : Act) (w : World) : Prop :=
  ∃ (σ : Nat → Value) , a = fr 12 (ovl σ [(4, (.int .i64 r))]) ∧ Chg [] w0 w
def s_laws_szOp (a_ : Int × (List Int)) (left : Int) : Option (Int) :=
  (s_laws_szIntS a_.2 left).bind fun r4 =>
  (bif (decide (r4 < 0)) then some (-1) else some r4)
set_option maxHeartbeats 4000000 in
theorem c_laws_szOp {M : Nat → Prop} {w : World} {pa0 : Option Addr} {pn0 pc0 : Nat} (a_ : Int × (List Int)) (left : Int) (h0 : (RT.rs (RT.int .i64)).val M w (.slice pa0 pn0 pc0) a_.2 ([])) (hM : ∀ g, w.heap.size ≤ g → M g) {r : Int} (hs : s_laws_szOp a_ left = some r) :
    Gives Try.prog 63 [(.agg #[(.int .i64 a_.1), (.slice pa0 pn0 pc0)]), (.int .i64 left)] w (fun v w' => v = (.int .i64 r) ∧ Chg [] w w') := by
 refine calls_fr Try.func63 rfl Try.ntmps63 (Nat.le_of_ble_eq_true rfl) ?_
 have hO := Own.start (N := Nw w []) hM Nw.fut
 have hC := Chg.refl [] w
 unfold s_laws_szOp at hs
 refine wp_mono (Q := KPost (k_laws_szOp M w r)) ?_ (fun e a a9 h => ?_)
 rotate_left
 ·cases e
  case ret =>
   obtain ⟨σ, rfl, hrest⟩ := h
   exact ret1x Try.results63 (res_tmp rfl) ⟨rfl, hrest⟩
  all_goals exact (h : False).elim
 refine c_sr ?_
 obtain ⟨a6, a4, a7, a5, a2, a0⟩ := new_block w [(.int .i64 a_.1), (.slice pa0 pn0 pc0)] 75
 refine pl_val (w' := a6) (.pointer (some ⟨a4, 0, none⟩)) (y_box rfl (by rw [a7, a5]; kernel_rfl)) ?_
 have h0 := h0.ext a2
 have hC := hC.ext a2
 have hO := hO.new1 a2 a5 a0.lt
 refine pl_val (.int .i64 0) (y_assign rfl) ?_
 refine c_nil ?_
 refine c_sr ?_
 refine pl_val (.pointer (some ⟨a4, 1, none⟩)) (y_faddr rfl Fa75x1) ?_
 refine pl_val (.slice pa0 pn0 pc0) (y_load rfl ((box_load Ag37 Sz37 a0 [(.int .i64 a_.1)] [(.slice pa0 pn0 pc0)] [] rfl rfl (fun _ => rfl)) _ (Chg.refl _ _))) ?_
 refine pl_val (.int .i64 left) (y_move rfl) ?_
 obtain ⟨r4, a8, hs⟩ := bind_some hs
 refine pl_call Bd93 rfl (c_laws_szIntS (M := M) a_.2 left h0 hO.fut a8) ?_
 rintro _ b0 ⟨rfl, a1⟩
 have h0 := h0.ext a1
 have a0 := a0.cn a1
 have hC := hC.ext a1
 have hO := hO.ext a1
 refine pl_val (.int .i64 r4) (y_assign rfl) ?_
 refine c_nil ?_
 have hO := hO.drop
 refine c_seq ?_
 refine c_sr ?_
 refine pl_val (.int .i64 r4) (y_move rfl) ?_
 refine pl_val (.bool (decide (r4 < 0))) (y_lss rfl rfl) ?_
 refine c_nil ?_
 rcases bif_some hs with ⟨a3, hs⟩ | ⟨a3, hs⟩
 ·refine c_condT (congrArg Value.bool a3) ?_
  refine c_sr ?_
  refine pl_val (.int .i64 (-1)) (y_assign rfl) ?_
  refine c_nil ?_
  refine wp_ret ?_
  cases hs
  exact ⟨_, fr_ovl 12 ⟨rfl, trivial⟩, hC⟩
 refine c_condF (congrArg Value.bool a3) ?_
 refine wp_skip ?_
 refine c_sr ?_
 refine pl_val (.int .i64 r4) (y_move rfl) ?_
 refine pl_val (.int .i64 r4) (y_assign rfl) ?_
 refine c_nil ?_
 refine wp_ret ?_
 cases hs
 exact ⟨_, fr_ovl 12 ⟨rfl, trivial⟩, hC⟩

theorem Sl22 : SlT Try.prog 22 75 := Try.underlying22

theorem Sz75 : SzT Try.prog 75 2 := ⟨_, rfl, rfl⟩

theorem Ag75 : AggT Try.prog 75 true := fun _ => by kernel_rfl

theorem Bd63 : Bodied Try.prog 63 := bodied Try.func63 (by kernel_rfl) rfl

def k_laws_szOpS (M : Nat → Prop) (w0 : World) (r : Int) (a : Act) (w : World) : Prop :=
  ∃ (σ : Nat → Value) , a = fr 27 (ovl σ [(4, (.int .i64 r))]) ∧ Chg [] w0 w
def s_laws_szOpS (a_ : List (Int × (List Int))) (left : Int) : Option (Int) :=
  (bif (decide ((w64 (left - (a_.length : Int))) < 0)) then some (-1) else (forC (S := Int) (R := Int) (fun k12 s10 =>
  (idx a_ k12).bind fun x16 =>
  (s_laws_szOp (x16.1, x16.2) s10).bind fun r21 =>
  (bif (decide (r21 < 0)) then some (.rt (-1)) else some (.nx r21))) 0 (a_.length : Int) (w64 (left - (a_.length : Int)))).bind fun o14 => after o14 (fun r_ => some r_) (fun s10 =>
  some s10))
set_option maxHeartbeats 4000000 in
theorem c_laws_szOpS {M : Nat → Prop} {w : World} {pa0 : Option Addr} {pn0 pc0 : Nat} (a_ : List (Int × (List Int))) (left : Int) (h0 : (RT.rs (RT.pr (RT.int .i64) (RT.rs (RT.int .i64)))).val M w (.slice pa0 pn0 pc0) a_ ([])) (hM : ∀ g, w.heap.size ≤ g → M g) {r : Int} (hs : s_laws_szOpS a_ left = some r) :
    Gives Try.prog 28 [(.slice pa0 pn0 pc0), (.int .i64 left)] w (fun v w' => v = (.int .i64 r) ∧ Chg [] w w') := by
 refine calls_fr Try.func28 rfl Try.ntmps28 (Nat.le_of_ble_eq_true rfl) ?_
 have hO := Own.start (N := Nw w []) hM Nw.fut
 have hC := Chg.refl [] w
 unfold s_laws_szOpS at hs
 refine wp_mono (Q := KPost (k_laws_szOpS M w r)) ?_ (fun e a a6 h => ?_)
 rotate_left
 ·cases e
  case ret =>
   obtain ⟨σ, rfl, hrest⟩ := h
   exact ret1x Try.results28 (res_tmp rfl) ⟨rfl, hrest⟩
  all_goals exact (h : False).elim
 refine c_sr ?_
 refine pl_val (.int .i64 0) (y_assign rfl) ?_
 refine c_nil ?_
 refine c_sr ?_
 refine pl_val (.int .i64 left) (y_move rfl) ?_
 refine pl_val (.slice pa0 pn0 pc0) (y_move rfl) ?_
 refine pl_val (.int .i64 (a_.length : Int)) (y_len' Sl22 (rs_len h0) rfl) ?_
 refine pl_val (.int .i64 (w64 (left - (a_.length : Int)))) (y_sub rfl rfl) ?_
 refine pl_val (.int .i64 (w64 (left - (a_.length : Int)))) (y_assign rfl) ?_
 refine c_nil ?_
 refine c_seq ?_
 refine c_sr ?_
 refine pl_val (.int .i64 (w64 (left - (a_.length : Int)))) (y_move rfl) ?_
 refine pl_val (.bool (decide ((w64 (left - (a_.length : Int))) < 0))) (y_lss rfl rfl) ?_
 refine c_nil ?_
 rcases bif_some hs with ⟨a2, hs⟩ | ⟨a2, hs⟩
 ·refine c_condT (congrArg Value.bool a2) ?_
  refine c_sr ?_
  refine pl_val (.int .i64 (-1)) (y_assign rfl) ?_
  refine c_nil ?_
  refine wp_ret ?_
  cases hs
  exact ⟨_, fr_ovl 27 ⟨rfl, trivial⟩, hC⟩
 refine c_condF (congrArg Value.bool a2) ?_
 refine wp_skip ?_
 refine c_seq ?_
 refine c_sr ?_
 refine pl_val (.int .i64 0) (y_assign rfl) ?_
 refine c_nil ?_
 obtain ⟨o14, a7, hs⟩ := bind_some hs
 refine wp_block ?_
 refine wp_forC (id := 0) (a_.length : Int) (I := fun k12 s10 a a0 => ∃ (σ : Nat → Value), a = fr 27 (ovl σ [(0, (.slice pa0 pn0 pc0)), (1, (.int .i64 s10)), (5, (.int .i64 k12))]) ∧ Chg [] w a0 ∧ Own (Nw w []) M a0 ([]) ∧ (RT.rs (RT.pr (RT.int .i64) (RT.rs (RT.int .i64)))).val M a0 (.slice pa0 pn0 pc0) a_ ([])) (J := fun s10 a a0 => ∃ (σ : Nat → Value), a = fr 27 (ovl σ [(1, (.int .i64 s10))]) ∧ Chg [] w a0 ∧ Own (Nw w []) M a0 ([]) ∧ (RT.rs (RT.pr (RT.int .i64) (RT.rs (RT.int .i64)))).val M a0 (.slice pa0 pn0 pc0) a_ ([])) (K := (k_laws_szOpS M w)) ?_ ?_ 0 (w64 (left - (a_.length : Int))) o14 _ _ ?_ a7 ?_
 ·rintro k12 s10 a a0 ⟨σ, rfl, hC, hO, h0⟩ hlt
  refine c_seq ?_
  refine c_sr ?_
  refine pl_val (.int .i64 k12) (y_move rfl) ?_
  refine pl_val (.slice pa0 pn0 pc0) (y_move rfl) ?_
  refine pl_val (.int .i64 (a_.length : Int)) (y_len' Sl22 (rs_len h0) rfl) ?_
  refine pl_val (.bool (decide (k12 < (a_.length : Int)))) (y_lss rfl rfl) ?_
  refine c_nil ?_
  refine c_condF (congrArg Value.bool (decide_eq_false hlt)) ?_
  refine wp_exit ?_
  exact ⟨rfl, _, fr_ovl 27 ⟨rfl, trivial⟩, hC, hO, h0⟩
 ·rintro k12 s10 o14 a a0 ⟨σ, rfl, hC, hO, h0⟩ hlt hw hs
  refine c_seq ?_
  refine c_sr ?_
  refine pl_val (.int .i64 k12) (y_move rfl) ?_
  refine pl_val (.slice pa0 pn0 pc0) (y_move rfl) ?_
  refine pl_val (.int .i64 (a_.length : Int)) (y_len' Sl22 (rs_len h0) rfl) ?_
  refine pl_val (.bool (decide (k12 < (a_.length : Int)))) (y_lss rfl rfl) ?_
  refine c_nil ?_
  refine c_condT (congrArg Value.bool (decide_eq_true hlt)) ?_
  refine wp_skip ?_
  refine c_seq ?_
  refine wp_block ?_
  refine c_sr ?_
  refine pl_val (.slice pa0 pn0 pc0) (y_move rfl) ?_
  refine pl_val (.int .i64 k12) (y_move rfl) ?_
  obtain ⟨x16, a8, hs⟩ := bind_some hs
  obtain ⟨a9, b0, b1, a3⟩ := rs_idx Sl22 Sz75 h0 a8
  refine pl_val (.pointer (some ⟨a9, b0, none⟩)) (b1 _ _ _ _ _ _ _ _ _ rfl rfl) ?_
  obtain ⟨c2, b2, b3⟩ := at_load Ag75 Sz75 (by intro h; cases h) a3
  obtain ⟨c3, rfl, b4⟩ := b3
  obtain ⟨c4, c5, rfl, b5, b6⟩ := pr_open b4
  obtain rfl := int_rel b5
  obtain ⟨b7, b8, b9, rfl, a4⟩ := rs_rel b6
  refine pl_val (.agg #[(.int .i64 x16.1), (.slice b7 b8 b9)]) (y_load rfl (b2 _ (Chg.refl _ _))) ?_
  refine pl_val (.int .i64 s10) (y_move rfl) ?_
  obtain ⟨r21, c0, hs⟩ := bind_some hs
  refine pl_call Bd63 rfl (c_laws_szOp (M := M) (x16.1, x16.2) s10 a4 hO.fut c0) ?_
  rintro _ c6 ⟨rfl, a1⟩
  have h0 := h0.ext a1
  have a4 := a4.ext a1
  have a3 := at_ext a3 a1
  have hC := hC.ext a1
  have hO := hO.ext a1
  refine pl_val (.int .i64 r21) (y_assign rfl) ?_
  refine c_nil ?_
  refine c_sr ?_
  refine pl_val (.int .i64 r21) (y_move rfl) ?_
  refine pl_val (.bool (decide (r21 < 0))) (y_lss rfl rfl) ?_
  refine c_nil ?_
  rcases bif_some hs with ⟨a5, hs⟩ | ⟨a5, hs⟩
  ·refine c_condT (congrArg Value.bool a5) ?_
   refine c_sr ?_
   refine pl_val (.int .i64 (-1)) (y_assign rfl) ?_
   refine c_nil ?_
   refine wp_ret ?_
   cases hs
   exact ⟨_, fr_ovl 27 ⟨rfl, trivial⟩, hC⟩
  refine c_condF (congrArg Value.bool a5) ?_
  refine wp_skip ?_
  refine c_region ?_
  refine pl_val (.int .i64 k12) (y_move rfl) ?_
  refine pl_val (.int .i64 (w64 (k12 + 1))) (y_add rfl rfl) ?_
  refine pl_val (.int .i64 (w64 (k12 + 1))) (y_assign rfl) ?_
  refine c_nil ?_
  cases hs
  exact ⟨_, fr_ovl 27 ⟨rfl, rfl, congrArg (Value.int .i64) hw, trivial⟩, hC, hO, h0⟩
 ·skip
  exact ⟨_, fr_ovl 27 ⟨rfl, rfl, rfl, trivial⟩, hC, hO, h0⟩
 cases o14 with
 | nx _ => exact True.intro
 | rt r_ =>
  have hs := after_rt hs
  intro c1 a6 hK
  cases hs
  exact hK
 | br s10 =>
  have hs := after_br hs
  rintro c1 a0 ⟨σ, rfl, hC, hO, h0⟩
  refine c_sr ?_
  refine pl_val (.int .i64 s10) (y_move rfl) ?_
  refine pl_val (.int .i64 s10) (y_assign rfl) ?_
  refine c_nil ?_
  refine wp_ret ?_
  cases hs
  exact ⟨_, fr_ovl 27 ⟨rfl, trivial⟩, hC⟩

theorem Fa24x1 : ∀ (a : Addr) (w : World), (Instr.fieldAt 24 (.pointer (some a)) 1).run Try.prog w = .ok (.pointer (some (a.add 1))) w := fun _ _ => by kernel_rfl

theorem Ag22 : AggT Try.prog 22 false := fun _ => by kernel_rfl

theorem Sz22 : SzT Try.prog 22 1 := ⟨_, rfl, rfl⟩

theorem Bd28 : Bodied Try.prog 28 := bodied Try.func28 (by kernel_rfl) rfl

def k_laws_szAlgebra (M : Nat → Prop) (w0 : World) (r : Int) (a : Act) (w : World) : Prop :=
  ∃ (σ : Nat → Value) , a = fr 12 (ovl σ [(4, (.int .i64 r))]) ∧ Chg [] w0 w
def s_laws_szAlgebra (a_ : Int × (List (Int × (List Int)))) (left : Int) : Option (Int) :=
  (s_laws_szOpS a_.2 left).bind fun r4 =>
  (bif (decide (r4 < 0)) then some (-1) else some r4)
set_option maxHeartbeats 4000000 in
theorem c_laws_szAlgebra {M : Nat → Prop} {w : World} {pa0 : Option Addr} {pn0 pc0 : Nat} (a_ : Int × (List (Int × (List Int)))) (left : Int) (h0 : (RT.rs (RT.pr (RT.int .i64) (RT.rs (RT.int .i64)))).val M w (.slice pa0 pn0 pc0) a_.2 ([])) (hM : ∀ g, w.heap.size ≤ g → M g) {r : Int} (hs : s_laws_szAlgebra a_ left = some r) :
    Gives Try.prog 11 [(.agg #[(.int .i64 a_.1), (.slice pa0 pn0 pc0)]), (.int .i64 left)] w (fun v w' => v = (.int .i64 r) ∧ Chg [] w w') := by
 refine calls_fr Try.func11 rfl Try.ntmps11 (Nat.le_of_ble_eq_true rfl) ?_
 have hO := Own.start (N := Nw w []) hM Nw.fut
 have hC := Chg.refl [] w
 unfold s_laws_szAlgebra at hs
 refine wp_mono (Q := KPost (k_laws_szAlgebra M w r)) ?_ (fun e a a9 h => ?_)
 rotate_left
 ·cases e
  case ret =>
   obtain ⟨σ, rfl, hrest⟩ := h
   exact ret1x Try.results11 (res_tmp rfl) ⟨rfl, hrest⟩
  all_goals exact (h : False).elim
 refine c_sr ?_
 obtain ⟨a6, a4, a7, a5, a2, a0⟩ := new_block w [(.int .i64 a_.1), (.slice pa0 pn0 pc0)] 24
 refine pl_val (w' := a6) (.pointer (some ⟨a4, 0, none⟩)) (y_box rfl (by rw [a7, a5]; kernel_rfl)) ?_
 have h0 := h0.ext a2
 have hC := hC.ext a2
 have hO := hO.new1 a2 a5 a0.lt
 refine pl_val (.int .i64 0) (y_assign rfl) ?_
 refine c_nil ?_
 refine c_sr ?_
 refine pl_val (.pointer (some ⟨a4, 1, none⟩)) (y_faddr rfl Fa24x1) ?_
 refine pl_val (.slice pa0 pn0 pc0) (y_load rfl ((box_load Ag22 Sz22 a0 [(.int .i64 a_.1)] [(.slice pa0 pn0 pc0)] [] rfl rfl (fun _ => rfl)) _ (Chg.refl _ _))) ?_
 refine pl_val (.int .i64 left) (y_move rfl) ?_
 obtain ⟨r4, a8, hs⟩ := bind_some hs
 refine pl_call Bd28 rfl (c_laws_szOpS (M := M) a_.2 left h0 hO.fut a8) ?_
 rintro _ b0 ⟨rfl, a1⟩
 have h0 := h0.ext a1
 have a0 := a0.cn a1
 have hC := hC.ext a1
 have hO := hO.ext a1
 refine pl_val (.int .i64 r4) (y_assign rfl) ?_
 refine c_nil ?_
 have hO := hO.drop
 refine c_seq ?_
 refine c_sr ?_
 refine pl_val (.int .i64 r4) (y_move rfl) ?_
 refine pl_val (.bool (decide (r4 < 0))) (y_lss rfl rfl) ?_
 refine c_nil ?_
 rcases bif_some hs with ⟨a3, hs⟩ | ⟨a3, hs⟩
 ·refine c_condT (congrArg Value.bool a3) ?_
  refine c_sr ?_
  refine pl_val (.int .i64 (-1)) (y_assign rfl) ?_
  refine c_nil ?_
  refine wp_ret ?_
  cases hs
  exact ⟨_, fr_ovl 12 ⟨rfl, trivial⟩, hC⟩
 refine c_condF (congrArg Value.bool a3) ?_
 refine wp_skip ?_
 refine c_sr ?_
 refine pl_val (.int .i64 r4) (y_move rfl) ?_
 refine pl_val (.int .i64 r4) (y_assign rfl) ?_
 refine c_nil ?_
 refine wp_ret ?_
 cases hs
 exact ⟨_, fr_ovl 12 ⟨rfl, trivial⟩, hC⟩

theorem Rw37 : RowT Try.prog 37 3 1 [(.int .i64 0)] := ⟨Try.underlying37, ⟨_, _, rfl, rfl, rfl, rfl, by decide⟩, rfl, by decide⟩

theorem Sz3 : SzT Try.prog 3 1 := ⟨_, rfl, rfl⟩

theorem Ag3 : AggT Try.prog 3 false := fun _ => by kernel_rfl

def k_laws_toIntS (M : Nat → Prop) (w0 : World) (r : (List Int)) (a : Act) (w : World) : Prop :=
  ∃ (σ : Nat → Value) (ra0 : Option Addr) (rn0 rc0 : Nat) (rf0 : List Nat), a = fr 22 (ovl σ [(2, (.slice ra0 rn0 rc0))]) ∧ Chg [] w0 w ∧ (RT.os 3 (RT.int .i64)).val M w (.slice ra0 rn0 rc0) r rf0 ∧ Own (Nw w0 []) (fun _ => True) w (rf0 ++ ([]))
def s_laws_toIntS (a_ : List Int) : Option ((List Int)) :=
  (mks (a_.length : Int) (0 : Int)).bind fun y3 =>
  (forC (S := (List Int)) (R := (List Int)) (fun k18 s16 =>
  (idx a_ k18).bind fun x24 =>
  (idx s16 k18).bind fun x26 =>
  some (.nx (List.set s16 (Int.toNat k18) x24))) 0 (a_.length : Int) y3).bind fun o20 => after o20 (fun r_ => some r_) (fun s16 =>
  some s16)
set_option maxHeartbeats 4000000 in
theorem c_laws_toIntS {M : Nat → Prop} {w : World} {pa0 : Option Addr} {pn0 pc0 : Nat} (a_ : List Int) (h0 : (RT.rs (RT.int .i64)).val M w (.slice pa0 pn0 pc0) a_ ([])) (hM : ∀ g, w.heap.size ≤ g → M g) {r : (List Int)} (hs : s_laws_toIntS a_ = some r) :
    Gives Try.prog 25 [(.slice pa0 pn0 pc0)] w (fun v w' => ∃ (ra0 : Option Addr) (rn0 rc0 : Nat) (rf0 : List Nat), v = (.slice ra0 rn0 rc0) ∧ Chg [] w w' ∧ (RT.os 3 (RT.int .i64)).val M w' (.slice ra0 rn0 rc0) r rf0 ∧ Own (Nw w []) (fun _ => True) w' (rf0 ++ ([]))) := by
 refine calls_fr Try.func25 rfl Try.ntmps25 (Nat.le_of_ble_eq_true rfl) ?_
 have hO := Own.start (N := Nw w []) hM Nw.fut
 have hC := Chg.refl [] w
 unfold s_laws_toIntS at hs
 refine wp_mono (Q := KPost (k_laws_toIntS M w r)) ?_ (fun e a b4 h => ?_)
 rotate_left
 ·cases e
  case ret =>
   obtain ⟨σ, ra0, rn0, rc0, rf0, rfl, hrest⟩ := h
   exact ret1x Try.results25 (res_tmp rfl) ⟨ra0, rn0, rc0, rf0, rfl, hrest⟩
  all_goals exact (h : False).elim
 refine c_sr ?_
 refine pl_val (.slice none 0 0) (y_assign rfl) ?_
 refine c_nil ?_
 refine c_sr ?_
 refine pl_val (.slice pa0 pn0 pc0) (y_move rfl) ?_
 refine pl_val (.int .i64 (a_.length : Int)) (y_len' Sl37 (rs_len h0) rfl) ?_
 obtain ⟨y3, b5, hs⟩ := bind_some hs
 obtain ⟨a1, a2, a3, b6, b7, b8, a7, b9, a8⟩ := mk_os (M := M) (w := w) (r := (RT.int .i64)) Rw37 b5 (fun _ _ => ⟨rfl, rfl⟩)
 refine pl_val (w' := b6) (.slice a1 a2 a3) (y_make rfl rfl b8) ?_
 have h0 := h0.ext a7
 have hC := hC.ext a7
 have hO := hO.new a7 b9 (os_nodup a8) a8.fpl
 refine pl_val (.slice a1 a2 a3) (y_assign rfl) ?_
 refine c_nil ?_
 refine c_seq ?_
 refine c_sr ?_
 refine pl_val (.int .i64 0) (y_assign rfl) ?_
 refine c_nil ?_
 obtain ⟨o20, c0, hs⟩ := bind_some hs
 refine wp_block ?_
 refine wp_forC (id := 0) (a_.length : Int) (I := fun k18 s16 a a0 => ∃ (σ : Nat → Value) (a4 : List Nat), a = fr 22 (ovl σ [(0, (.slice pa0 pn0 pc0)), (3, (.slice a1 a2 a3)), (4, (.int .i64 k18))]) ∧ Chg [] w a0 ∧ Own (Nw w []) M a0 (a4 ++ []) ∧ (RT.rs (RT.int .i64)).val M a0 (.slice pa0 pn0 pc0) a_ ([]) ∧ (RT.os 3 (RT.int .i64)).val M a0 (.slice a1 a2 a3) s16 a4) (J := fun s16 a a0 => ∃ (σ : Nat → Value) (a6 : List Nat), a = fr 22 (ovl σ [(3, (.slice a1 a2 a3))]) ∧ Chg [] w a0 ∧ Own (Nw w []) M a0 (a6 ++ []) ∧ (RT.rs (RT.int .i64)).val M a0 (.slice pa0 pn0 pc0) a_ ([]) ∧ (RT.os 3 (RT.int .i64)).val M a0 (.slice a1 a2 a3) s16 a6) (K := (k_laws_toIntS M w)) ?_ ?_ 0 y3 o20 _ _ ?_ c0 ?_
 ·rintro k18 s16 a a0 ⟨σ, a4, rfl, hC, hO, h0, a5⟩ hlt
  refine c_seq ?_
  refine c_sr ?_
  refine pl_val (.int .i64 k18) (y_move rfl) ?_
  refine pl_val (.slice pa0 pn0 pc0) (y_move rfl) ?_
  refine pl_val (.int .i64 (a_.length : Int)) (y_len' Sl37 (rs_len h0) rfl) ?_
  refine pl_val (.bool (decide (k18 < (a_.length : Int)))) (y_lss rfl rfl) ?_
  refine c_nil ?_
  refine c_condF (congrArg Value.bool (decide_eq_false hlt)) ?_
  refine wp_exit ?_
  exact ⟨rfl, _, a4, fr_ovl 22 ⟨rfl, trivial⟩, hC, hO, h0, a5⟩
 ·rintro k18 s16 o20 a a0 ⟨σ, a4, rfl, hC, hO, h0, a5⟩ hlt hw hs
  refine c_seq ?_
  refine c_sr ?_
  refine pl_val (.int .i64 k18) (y_move rfl) ?_
  refine pl_val (.slice pa0 pn0 pc0) (y_move rfl) ?_
  refine pl_val (.int .i64 (a_.length : Int)) (y_len' Sl37 (rs_len h0) rfl) ?_
  refine pl_val (.bool (decide (k18 < (a_.length : Int)))) (y_lss rfl rfl) ?_
  refine c_nil ?_
  refine c_condT (congrArg Value.bool (decide_eq_true hlt)) ?_
  refine wp_skip ?_
  refine c_seq ?_
  refine wp_block ?_
  refine c_region ?_
  refine pl_val (.slice a1 a2 a3) (y_move rfl) ?_
  refine pl_val (.int .i64 k18) (y_move rfl) ?_
  refine pl_val (.slice pa0 pn0 pc0) (y_move rfl) ?_
  refine pl_val (.int .i64 k18) (y_move rfl) ?_
  obtain ⟨x24, c1, hs⟩ := bind_some hs
  obtain ⟨c2, c3, c4, c5⟩ := rs_idx Sl37 Sz3 h0 c1
  refine pl_val (.pointer (some ⟨c2, c3, none⟩)) (c4 _ _ _ _ _ _ _ _ _ rfl rfl) ?_
  refine pl_val (.int .i64 x24) (y_load rfl ((at_load_int Ag3 Sz3 c5) _ (Chg.refl _ _))) ?_
  obtain ⟨x26, c6, hs⟩ := bind_some hs
  obtain ⟨b1, d5, b2, c7, c8, d6, d7⟩ := os_idx Sl37 Sz3 a5 c6
  refine pl_val (.pointer (some ⟨b1, 0 + Int.toNat k18 * 1, none⟩)) (c8 _ _ _ _ _ _ _ _ _ rfl rfl) ?_
  obtain ⟨c9, d0, d1, a9, d2, b0⟩ := os_store (P := Try.prog) (c' := [(.int .i64 x24)]) b2 a5 c7 (fun g hg => hO.inM g (os_block a5 g (by simpa using hg))) ⟨rfl, rfl⟩ List.nodup_nil (fun _ h => nomatch h) (fun _ h => .inl h)
  have b3 : ∀ q ∈ [b1], q ∈ a4 := fun q hq => os_block a5 q (by rw [b2]; exact hq)
  refine pl_skip (w' := c9) (ys_store rfl rfl (d1 _ _ rfl Sz3)) ?_
  have h0 := h0.mt a9 hO b3
  have hC := hC.st a9 hO b3
  have hO := hO.grow a9 (fun q hq => .inl ((d2 q hq).resolve_right (fun h => nomatch h))) (os_nodup b0) b0.fpl
  refine c_nil ?_
  refine c_region ?_
  refine pl_val (.int .i64 k18) (y_move rfl) ?_
  refine pl_val (.int .i64 (w64 (k18 + 1))) (y_add rfl rfl) ?_
  refine pl_val (.int .i64 (w64 (k18 + 1))) (y_assign rfl) ?_
  refine c_nil ?_
  cases hs
  exact ⟨_, d0, fr_ovl 22 ⟨rfl, rfl, congrArg (Value.int .i64) hw, trivial⟩, hC, hO, h0, b0⟩
 ·skip
  exact ⟨_, b7, fr_ovl 22 ⟨rfl, rfl, rfl, trivial⟩, hC, hO, h0, a8⟩
 cases o20 with
 | nx _ => exact True.intro
 | rt r_ =>
  have hs := after_rt hs
  intro d3 b4 hK
  cases hs
  exact hK
 | br s16 =>
  have hs := after_br hs
  rintro d3 a0 ⟨σ, a6, rfl, hC, hO, h0, d4⟩
  refine c_sr ?_
  refine pl_val (.slice a1 a2 a3) (y_move rfl) ?_
  refine pl_val (.slice a1 a2 a3) (y_assign rfl) ?_
  refine c_nil ?_
  refine wp_ret ?_
  cases hs
  exact ⟨_, a1, a2, a3, a6, fr_ovl 22 ⟨rfl, trivial⟩, hC, d4, hO.top⟩

theorem Ag64 : AggT Try.prog 64 true := fun _ => by kernel_rfl

theorem Sz64 : SzT Try.prog 64 2 := ⟨_, rfl, rfl⟩

theorem Fa75x0 : ∀ (a : Addr) (w : World), (Instr.fieldAt 75 (.pointer (some a)) 0).run Try.prog w = .ok (.pointer (some (a.add 0))) w := fun _ _ => by kernel_rfl

theorem Fa64x0 : ∀ (a : Addr) (w : World), (Instr.fieldAt 64 (.pointer (some a)) 0).run Try.prog w = .ok (.pointer (some (a.add 0))) w := fun _ _ => by kernel_rfl

theorem Bd25 : Bodied Try.prog 25 := bodied Try.func25 (by kernel_rfl) rfl

theorem Fa64x1 : ∀ (a : Addr) (w : World), (Instr.fieldAt 64 (.pointer (some a)) 1).run Try.prog w = .ok (.pointer (some (a.add 1))) w := fun _ _ => by kernel_rfl

def k_laws_toOp (M : Nat → Prop) (w0 : World) (r : (Int × (List Int))) (a : Act) (w : World) : Prop :=
  ∃ (σ : Nat → Value) (rg2 : Nat) (ra0 : Option Addr) (rn0 rc0 : Nat) (rf0 : List Nat), a = fr 12 (ovl σ [(2, (.pointer (some ⟨rg2, 0, none⟩)))]) ∧ BoxV w rg2 64 [(.int .i64 r.1), (.slice ra0 rn0 rc0)] ∧ Chg [] w0 w ∧ (RT.os 3 (RT.int .i64)).val M w (.slice ra0 rn0 rc0) r.2 rf0 ∧ Own (Nw w0 []) (fun _ => True) w (rf0 ++ ([]))
def s_laws_toOp (a_ : Int × (List Int)) : Option ((Int × (List Int))) :=
  (s_laws_toIntS a_.2).bind fun r7 =>
  some (a_.1, r7)
set_option maxHeartbeats 4000000 in
theorem c_laws_toOp {M : Nat → Prop} {w : World} {pa0 : Option Addr} {pn0 pc0 : Nat} (a_ : Int × (List Int)) (h0 : (RT.rs (RT.int .i64)).val M w (.slice pa0 pn0 pc0) a_.2 ([])) (hM : ∀ g, w.heap.size ≤ g → M g) {r : (Int × (List Int))} (hs : s_laws_toOp a_ = some r) :
    Gives Try.prog 68 [(.agg #[(.int .i64 a_.1), (.slice pa0 pn0 pc0)])] w (fun v w' => ∃ (ra0 : Option Addr) (rn0 rc0 : Nat) (rf0 : List Nat), v = (.agg #[(.int .i64 r.1), (.slice ra0 rn0 rc0)]) ∧ Chg [] w w' ∧ (RT.os 3 (RT.int .i64)).val M w' (.slice ra0 rn0 rc0) r.2 rf0 ∧ Own (Nw w []) (fun _ => True) w' (rf0 ++ ([]))) := by
 refine calls_fr Try.func68 rfl Try.ntmps68 (Nat.le_of_ble_eq_true rfl) ?_
 have hO := Own.start (N := Nw w []) hM Nw.fut
 have hC := Chg.refl [] w
 unfold s_laws_toOp at hs
 refine wp_mono (Q := KPost (k_laws_toOp M w r)) ?_ (fun e a d8 h => ?_)
 rotate_left
 ·cases e
  case ret =>
   obtain ⟨σ, rg2, ra0, rn0, rc0, rf0, rfl, hbrg2, hrest⟩ := h
   exact ret1x Try.results68 (res_cell rfl (box_load Ag64 Sz64 hbrg2 [] _ [] rfl rfl (fun h => nomatch h))) ⟨ra0, rn0, rc0, rf0, rfl, hrest⟩
  all_goals exact (h : False).elim
 refine c_sr ?_
 obtain ⟨b9, b3, c9, c0, b7, a0⟩ := new_block w [(.int .i64 a_.1), (.slice pa0 pn0 pc0)] 75
 refine pl_val (w' := b9) (.pointer (some ⟨b3, 0, none⟩)) (y_box rfl (by rw [c9, c0]; kernel_rfl)) ?_
 have h0 := h0.ext b7
 have hC := hC.ext b7
 have hO := hO.new1 b7 c0 a0.lt
 obtain ⟨c1, b4, d0, c2, b5, a1⟩ := new_block b9 [(.int .i64 0), (.slice none 0 0)] 64
 refine pl_val (w' := c1) (.pointer (some ⟨b4, 0, none⟩)) (y_alloc (by rw [d0, c2]; kernel_rfl)) ?_
 have h0 := h0.ext b5
 have a0 := a0.cn b5
 have hC := hC.ext b5
 have hO := hO.new1 b5 c2 a1.lt
 refine c_nil ?_
 refine c_sr ?_
 obtain ⟨d1, a5, d2, c3, a8, c4⟩ := new_block c1 [(.int .i64 0), (.slice none 0 0)] 64
 refine pl_val (w' := d1) (.pointer (some ⟨a5, 0, none⟩)) (y_alloc (by rw [d2, c3]; kernel_rfl)) ?_
 have h0 := h0.ext a8
 have a0 := a0.cn a8
 have a1 := a1.cn a8
 have hC := hC.ext a8
 have hO := hO.new1 a8 c3 c4.lt
 refine c_nil ?_
 refine c_sr ?_
 refine pl_val (.pointer (some ⟨b3, 0, none⟩)) (y_faddr rfl Fa75x0) ?_
 refine pl_val (.int .i64 a_.1) (y_load rfl ((box_load Ag3 Sz3 a0 [] [(.int .i64 a_.1)] [(.slice pa0 pn0 pc0)] rfl rfl (fun _ => rfl)) _ (Chg.refl _ _))) ?_
 refine pl_val (.pointer (some ⟨a5, 0, none⟩)) (y_faddr rfl Fa64x0) ?_
 obtain ⟨c5, d3, a9, b0⟩ := box_store (P := Try.prog) c4 [] [(.int .i64 0)] [(.slice none 0 0)] [(.int .i64 a_.1)] rfl rfl (by intro u hu; simp only [List.mem_cons, List.not_mem_nil, or_false] at hu; rcases hu with rfl <;> rfl)
 refine pl_skip (w' := c5) (ys_store rfl rfl (d3 _ _ rfl Sz3)) ?_
 have h0 := h0.mt a9 hO same_
 have a0 := a0.ap a9 hO same_ (mem_r (mem_l (List.mem_singleton.2 rfl)))
 have a1 := a1.ap a9 hO same_ (mem_l (List.mem_singleton.2 rfl))
 have hC := hC.st a9 hO same_
 have hO := hO.ext a9
 have b0 : BoxV c5 a5 64 [(.int .i64 a_.1), (.slice none 0 0)] := b0
 refine c_nil ?_
 refine c_sr ?_
 refine pl_val (.pointer (some ⟨b3, 1, none⟩)) (y_faddr rfl Fa75x1) ?_
 refine pl_val (.slice pa0 pn0 pc0) (y_load rfl ((box_load Ag37 Sz37 a0 [(.int .i64 a_.1)] [(.slice pa0 pn0 pc0)] [] rfl rfl (fun _ => rfl)) _ (Chg.refl _ _))) ?_
 obtain ⟨r7, d4, hs⟩ := bind_some hs
 refine pl_call Bd25 rfl (c_laws_toIntS (M := M) a_.2 h0 hO.fut d4) ?_
 rintro _ d9 ⟨a2, a3, a4, c6, rfl, a6, b1, d5⟩
 have h0 := h0.ext a6
 have a0 := a0.cn a6
 have a1 := a1.cn a6
 have b0 := b0.cn a6
 have hC := hC.ext a6
 have hO := Own.join0 hO a6 d5
 have hO := hO.perm (R := c6 ++ (([a5]) ++ (([b4]) ++ (([b3]) ++ ([]))))) (by simp)
 refine pl_val (.pointer (some ⟨a5, 1, none⟩)) (y_faddr rfl Fa64x1) ?_
 obtain ⟨c7, d6, a7, b2⟩ := box_store (P := Try.prog) b0 [(.int .i64 a_.1)] [(.slice none 0 0)] [] [(.slice a2 a3 a4)] rfl rfl (by intro u hu; simp only [List.mem_cons, List.not_mem_nil, or_false] at hu; rcases hu with rfl <;> rfl)
 refine pl_skip (w' := c7) (ys_store rfl rfl (d6 _ _ rfl Sz37)) ?_
 have hO := hO.fr1
 have h0 := h0.mt a7 hO same_
 have a0 := a0.ap a7 hO same_ (mem_r (mem_r (mem_l (List.mem_singleton.2 rfl))))
 have a1 := a1.ap a7 hO same_ (mem_r (mem_l (List.mem_singleton.2 rfl)))
 have b1 := b1.ma a7 hO same_ (fun _ e => (mem_l (e)))
 have hC := hC.st a7 hO same_
 have hO := hO.ext a7
 have b2 : BoxV c7 a5 64 [(.int .i64 a_.1), (.slice a2 a3 a4)] := b2
 refine c_nil ?_
 have hO := hO.fr3
 have hO := hO.drop
 refine c_sr ?_
 refine pl_val (.agg #[(.int .i64 a_.1), (.slice a2 a3 a4)]) (y_load rfl ((box_load Ag64 Sz64 b2 [] [(.int .i64 a_.1), (.slice a2 a3 a4)] [] rfl rfl (fun h => nomatch h)) _ (Chg.refl _ _))) ?_
 obtain ⟨c8, d7, b6, b8⟩ := box_store (P := Try.prog) a1 [] [(.int .i64 0), (.slice none 0 0)] [] [(.int .i64 a_.1), (.slice a2 a3 a4)] rfl rfl (by intro u hu; simp only [List.mem_cons, List.not_mem_nil, or_false] at hu; rcases hu with rfl | rfl <;> rfl)
 refine pl_skip (w' := c8) (ys_store rfl rfl (d7 _ _ rfl Sz64)) ?_
 have hO := hO.fr2
 have b2 := b2.ap b6 hO same_ (mem_l (List.mem_singleton.2 rfl))
 have b1 := b1.ma b6 hO same_ (fun _ e => (mem_r (mem_l (e))))
 have hC := hC.st b6 hO same_
 have hO := hO.ext b6
 have b8 : BoxV c8 b4 64 [(.int .i64 a_.1), (.slice a2 a3 a4)] := b8
 refine c_nil ?_
 have hO := hO.fr1
 have hO := hO.drop
 refine wp_ret ?_
 cases hs
 have hO := hO.drop
 exact ⟨_, b4, a2, a3, a4, c6, fr_ovl 12 ⟨rfl, trivial⟩, b8, hC, b1, hO.top⟩

theorem Rw26 : RowT Try.prog 26 64 2 [(.int .i64 0), (.slice none 0 0)] := ⟨Try.underlying26, ⟨_, _, rfl, rfl, rfl, rfl, by decide⟩, rfl, by decide⟩

theorem Bd68 : Bodied Try.prog 68 := bodied Try.func68 (by kernel_rfl) rfl

theorem Sl26 : SlT Try.prog 26 64 := Try.underlying26

def k_laws_toOpS (M : Nat → Prop) (w0 : World) (r : (List (Int × (List Int)))) (a : Act) (w : World) : Prop :=
  ∃ (σ : Nat → Value) (ra0 : Option Addr) (rn0 rc0 : Nat) (rf0 : List Nat), a = fr 23 (ovl σ [(2, (.slice ra0 rn0 rc0))]) ∧ Chg [] w0 w ∧ (RT.os 64 (RT.pr (RT.int .i64) (RT.os 3 (RT.int .i64)))).val M w (.slice ra0 rn0 rc0) r rf0 ∧ Own (Nw w0 []) (fun _ => True) w (rf0 ++ ([]))
def s_laws_toOpS (a_ : List (Int × (List Int))) : Option ((List (Int × (List Int)))) :=
  (mks (a_.length : Int) ((0, []) : Int × (List Int))).bind fun y3 =>
  (forC (S := (List (Int × (List Int)))) (R := (List (Int × (List Int)))) (fun k28 s26 =>
  (idx a_ k28).bind fun x34 =>
  (s_laws_toOp (x34.1, x34.2)).bind fun r39 =>
  (idx s26 k28).bind fun x41 =>
  some (.nx (List.set s26 (Int.toNat k28) (r39.1, r39.2)))) 0 (a_.length : Int) y3).bind fun o30 => after o30 (fun r_ => some r_) (fun s26 =>
  some s26)
set_option maxHeartbeats 4000000 in
theorem c_laws_toOpS {M : Nat → Prop} {w : World} {pa0 : Option Addr} {pn0 pc0 : Nat} (a_ : List (Int × (List Int))) (h0 : (RT.rs (RT.pr (RT.int .i64) (RT.rs (RT.int .i64)))).val M w (.slice pa0 pn0 pc0) a_ ([])) (hM : ∀ g, w.heap.size ≤ g → M g) {r : (List (Int × (List Int)))} (hs : s_laws_toOpS a_ = some r) :
    Gives Try.prog 30 [(.slice pa0 pn0 pc0)] w (fun v w' => ∃ (ra0 : Option Addr) (rn0 rc0 : Nat) (rf0 : List Nat), v = (.slice ra0 rn0 rc0) ∧ Chg [] w w' ∧ (RT.os 64 (RT.pr (RT.int .i64) (RT.os 3 (RT.int .i64)))).val M w' (.slice ra0 rn0 rc0) r rf0 ∧ Own (Nw w []) (fun _ => True) w' (rf0 ++ ([]))) := by
 refine calls_fr Try.func30 rfl Try.ntmps30 (Nat.le_of_ble_eq_true rfl) ?_
 have hO := Own.start (N := Nw w []) hM Nw.fut
 have hC := Chg.refl [] w
 unfold s_laws_toOpS at hs
 refine wp_mono (Q := KPost (k_laws_toOpS M w r)) ?_ (fun e a b8 h => ?_)
 rotate_left
 ·cases e
  case ret =>
   obtain ⟨σ, ra0, rn0, rc0, rf0, rfl, hrest⟩ := h
   exact ret1x Try.results30 (res_tmp rfl) ⟨ra0, rn0, rc0, rf0, rfl, hrest⟩
  all_goals exact (h : False).elim
 refine c_sr ?_
 refine pl_val (.slice none 0 0) (y_assign rfl) ?_
 refine c_nil ?_
 refine c_sr ?_
 refine pl_val (.slice pa0 pn0 pc0) (y_move rfl) ?_
 refine pl_val (.int .i64 (a_.length : Int)) (y_len' Sl22 (rs_len h0) rfl) ?_
 obtain ⟨y3, b9, hs⟩ := bind_some hs
 obtain ⟨a1, a2, a3, c0, c1, c2, b0, c3, b1⟩ := mk_os (M := M) (w := w) (r := (RT.pr (RT.int .i64) (RT.os 3 (RT.int .i64)))) Rw26 b9 (fun _ _ => ⟨_, _, [], [], rfl, rfl, ⟨rfl, rfl⟩, (os_unval os_nil)⟩)
 refine pl_val (w' := c0) (.slice a1 a2 a3) (y_make rfl rfl c2) ?_
 have h0 := h0.ext b0
 have hC := hC.ext b0
 have hO := hO.new b0 c3 (os_nodup b1) b1.fpl
 refine pl_val (.slice a1 a2 a3) (y_assign rfl) ?_
 refine c_nil ?_
 refine c_seq ?_
 refine c_sr ?_
 refine pl_val (.int .i64 0) (y_assign rfl) ?_
 refine c_nil ?_
 obtain ⟨o30, c4, hs⟩ := bind_some hs
 refine wp_block ?_
 refine wp_forC (id := 0) (a_.length : Int) (I := fun k28 s26 a a0 => ∃ (σ : Nat → Value) (a4 : List Nat), a = fr 23 (ovl σ [(0, (.slice pa0 pn0 pc0)), (3, (.slice a1 a2 a3)), (4, (.int .i64 k28))]) ∧ Chg [] w a0 ∧ Own (Nw w []) M a0 (a4 ++ []) ∧ (RT.rs (RT.pr (RT.int .i64) (RT.rs (RT.int .i64)))).val M a0 (.slice pa0 pn0 pc0) a_ ([]) ∧ (RT.os 64 (RT.pr (RT.int .i64) (RT.os 3 (RT.int .i64)))).val M a0 (.slice a1 a2 a3) s26 a4) (J := fun s26 a a0 => ∃ (σ : Nat → Value) (a8 : List Nat), a = fr 23 (ovl σ [(3, (.slice a1 a2 a3))]) ∧ Chg [] w a0 ∧ Own (Nw w []) M a0 (a8 ++ []) ∧ (RT.rs (RT.pr (RT.int .i64) (RT.rs (RT.int .i64)))).val M a0 (.slice pa0 pn0 pc0) a_ ([]) ∧ (RT.os 64 (RT.pr (RT.int .i64) (RT.os 3 (RT.int .i64)))).val M a0 (.slice a1 a2 a3) s26 a8) (K := (k_laws_toOpS M w)) ?_ ?_ 0 y3 o30 _ _ ?_ c4 ?_
 ·rintro k28 s26 a a0 ⟨σ, a4, rfl, hC, hO, h0, a5⟩ hlt
  refine c_seq ?_
  refine c_sr ?_
  refine pl_val (.int .i64 k28) (y_move rfl) ?_
  refine pl_val (.slice pa0 pn0 pc0) (y_move rfl) ?_
  refine pl_val (.int .i64 (a_.length : Int)) (y_len' Sl22 (rs_len h0) rfl) ?_
  refine pl_val (.bool (decide (k28 < (a_.length : Int)))) (y_lss rfl rfl) ?_
  refine c_nil ?_
  refine c_condF (congrArg Value.bool (decide_eq_false hlt)) ?_
  refine wp_exit ?_
  exact ⟨rfl, _, a4, fr_ovl 23 ⟨rfl, trivial⟩, hC, hO, h0, a5⟩
 ·rintro k28 s26 o30 a a0 ⟨σ, a4, rfl, hC, hO, h0, a5⟩ hlt hw hs
  refine c_seq ?_
  refine c_sr ?_
  refine pl_val (.int .i64 k28) (y_move rfl) ?_
  refine pl_val (.slice pa0 pn0 pc0) (y_move rfl) ?_
  refine pl_val (.int .i64 (a_.length : Int)) (y_len' Sl22 (rs_len h0) rfl) ?_
  refine pl_val (.bool (decide (k28 < (a_.length : Int)))) (y_lss rfl rfl) ?_
  refine c_nil ?_
  refine c_condT (congrArg Value.bool (decide_eq_true hlt)) ?_
  refine wp_skip ?_
  refine c_seq ?_
  refine wp_block ?_
  refine c_region ?_
  refine pl_val (.slice a1 a2 a3) (y_move rfl) ?_
  refine pl_val (.int .i64 k28) (y_move rfl) ?_
  refine pl_val (.slice pa0 pn0 pc0) (y_move rfl) ?_
  refine pl_val (.int .i64 k28) (y_move rfl) ?_
  obtain ⟨x34, c5, hs⟩ := bind_some hs
  obtain ⟨c6, c7, c8, b2⟩ := rs_idx Sl22 Sz75 h0 c5
  refine pl_val (.pointer (some ⟨c6, c7, none⟩)) (c8 _ _ _ _ _ _ _ _ _ rfl rfl) ?_
  obtain ⟨f4, c9, d0⟩ := at_load Ag75 Sz75 (by intro h; cases h) b2
  obtain ⟨f5, rfl, d1⟩ := d0
  obtain ⟨f6, f7, rfl, d2, d3⟩ := pr_open d1
  obtain rfl := int_rel d2
  obtain ⟨d4, d5, d6, rfl, a7⟩ := rs_rel d3
  refine pl_val (.agg #[(.int .i64 x34.1), (.slice d4 d5 d6)]) (y_load rfl (c9 _ (Chg.refl _ _))) ?_
  obtain ⟨r39, d7, hs⟩ := bind_some hs
  refine pl_call Bd68 rfl (c_laws_toOp (M := M) (x34.1, x34.2) a7 hO.fut d7) ?_
  rintro _ f8 ⟨d8, d9, e0, b3, rfl, a6, e1, e2⟩
  have h0 := h0.ext a6
  have a5 := a5.ext a6
  have a7 := a7.ext a6
  have b2 := at_ext b2 a6
  have hC := hC.ext a6
  have hO := Own.join0 hO a6 e2
  have hO := hO.perm (R := b3 ++ (a4 ++ ([]))) (by simp)
  obtain ⟨x41, e3, hs⟩ := bind_some hs
  obtain ⟨b6, f9, b7, e4, e5, e6, e7⟩ := os_idx Sl26 Sz64 a5 e3
  have g0 := own_row (Frz.pr Frz.int (Frz.os Frz.int)) e6 e7
  refine pl_val (.pointer (some ⟨b6, 0 + Int.toNat k28 * 2, none⟩)) (e5 _ _ _ _ _ _ _ _ _ rfl rfl) ?_
  have hO := hO.fr1
  obtain ⟨e8, e9, f0, a9, f1, b4⟩ := os_store (P := Try.prog) (c' := [(.int .i64 r39.1), (.slice d8 d9 e0)]) b7 a5 e4 (fun g hg => hO.inM g (os_block a5 g (by simpa using hg))) ⟨_, _, _, _, rfl, rfl, ⟨rfl, rfl⟩, (os_unval e1)⟩ (hO.drop.perm (R := (([] : List Nat) ++ b3) ++ ([])) (by simp)).nd (fun g hg hq => hO.apart g hq (by simp only [List.mem_append, List.not_mem_nil, false_or, or_false] at hg ⊢; simp [hg])) (fun _ h => .inl h)
  have b5 : ∀ q ∈ [b6], q ∈ a4 := fun q hq => os_block a5 q (by rw [b7]; exact hq)
  refine pl_skip (w' := e8) (ys_store rfl rfl (f0 _ _ rfl Sz64)) ?_
  have hO := hO.fr1
  have hO := hO.fr1
  have h0 := h0.mt a9 hO b5
  have a7 := a7.mt a9 hO b5
  have hC := hC.st a9 hO b5
  have hO := hO.perm (R := a4 ++ ((([] : List Nat) ++ b3) ++ ([]))) (by simp)
  have hO := hO.eat a9 (fun q hq => (f1 q hq).elim .inl (fun h => .inr (.inl h))) (os_nodup b4) b4.fpl
  refine c_nil ?_
  refine c_region ?_
  refine pl_val (.int .i64 k28) (y_move rfl) ?_
  refine pl_val (.int .i64 (w64 (k28 + 1))) (y_add rfl rfl) ?_
  refine pl_val (.int .i64 (w64 (k28 + 1))) (y_assign rfl) ?_
  refine c_nil ?_
  cases hs
  exact ⟨_, e9, fr_ovl 23 ⟨rfl, rfl, congrArg (Value.int .i64) hw, trivial⟩, hC, hO, h0, b4⟩
 ·skip
  exact ⟨_, c1, fr_ovl 23 ⟨rfl, rfl, rfl, trivial⟩, hC, hO, h0, b1⟩
 cases o30 with
 | nx _ => exact True.intro
 | rt r_ =>
  have hs := after_rt hs
  intro f2 b8 hK
  cases hs
  exact hK
 | br s26 =>
  have hs := after_br hs
  rintro f2 a0 ⟨σ, a8, rfl, hC, hO, h0, f3⟩
  refine c_sr ?_
  refine pl_val (.slice a1 a2 a3) (y_move rfl) ?_
  refine pl_val (.slice a1 a2 a3) (y_assign rfl) ?_
  refine c_nil ?_
  refine wp_ret ?_
  cases hs
  exact ⟨_, a1, a2, a3, a8, fr_ovl 23 ⟨rfl, trivial⟩, hC, f3, hO.top⟩

theorem Ag30 : AggT Try.prog 30 true := fun _ => by kernel_rfl

theorem Sz30 : SzT Try.prog 30 2 := ⟨_, rfl, rfl⟩

theorem Fa24x0 : ∀ (a : Addr) (w : World), (Instr.fieldAt 24 (.pointer (some a)) 0).run Try.prog w = .ok (.pointer (some (a.add 0))) w := fun _ _ => by kernel_rfl

theorem Fa30x0 : ∀ (a : Addr) (w : World), (Instr.fieldAt 30 (.pointer (some a)) 0).run Try.prog w = .ok (.pointer (some (a.add 0))) w := fun _ _ => by kernel_rfl

theorem Bd30 : Bodied Try.prog 30 := bodied Try.func30 (by kernel_rfl) rfl

theorem Fa30x1 : ∀ (a : Addr) (w : World), (Instr.fieldAt 30 (.pointer (some a)) 1).run Try.prog w = .ok (.pointer (some (a.add 1))) w := fun _ _ => by kernel_rfl

theorem Sz26 : SzT Try.prog 26 1 := ⟨_, rfl, rfl⟩

def k_laws_toAlgebra (M : Nat → Prop) (w0 : World) (r : (Int × (List (Int × (List Int))))) (a : Act) (w : World) : Prop :=
  ∃ (σ : Nat → Value) (rg2 : Nat) (ra0 : Option Addr) (rn0 rc0 : Nat) (rf0 : List Nat), a = fr 12 (ovl σ [(2, (.pointer (some ⟨rg2, 0, none⟩)))]) ∧ BoxV w rg2 30 [(.int .i64 r.1), (.slice ra0 rn0 rc0)] ∧ Chg [] w0 w ∧ (RT.os 64 (RT.pr (RT.int .i64) (RT.os 3 (RT.int .i64)))).val M w (.slice ra0 rn0 rc0) r.2 rf0 ∧ Own (Nw w0 []) (fun _ => True) w (rf0 ++ ([]))
def s_laws_toAlgebra (a_ : Int × (List (Int × (List Int)))) : Option ((Int × (List (Int × (List Int))))) :=
  (s_laws_toOpS a_.2).bind fun r7 =>
  some (a_.1, r7)
set_option maxHeartbeats 4000000 in
theorem c_laws_toAlgebra {M : Nat → Prop} {w : World} {pa0 : Option Addr} {pn0 pc0 : Nat} (a_ : Int × (List (Int × (List Int)))) (h0 : (RT.rs (RT.pr (RT.int .i64) (RT.rs (RT.int .i64)))).val M w (.slice pa0 pn0 pc0) a_.2 ([])) (hM : ∀ g, w.heap.size ≤ g → M g) {r : (Int × (List (Int × (List Int))))} (hs : s_laws_toAlgebra a_ = some r) :
    Gives Try.prog 13 [(.agg #[(.int .i64 a_.1), (.slice pa0 pn0 pc0)])] w (fun v w' => ∃ (ra0 : Option Addr) (rn0 rc0 : Nat) (rf0 : List Nat), v = (.agg #[(.int .i64 r.1), (.slice ra0 rn0 rc0)]) ∧ Chg [] w w' ∧ (RT.os 64 (RT.pr (RT.int .i64) (RT.os 3 (RT.int .i64)))).val M w' (.slice ra0 rn0 rc0) r.2 rf0 ∧ Own (Nw w []) (fun _ => True) w' (rf0 ++ ([]))) := by
 refine calls_fr Try.func13 rfl Try.ntmps13 (Nat.le_of_ble_eq_true rfl) ?_
 have hO := Own.start (N := Nw w []) hM Nw.fut
 have hC := Chg.refl [] w
 unfold s_laws_toAlgebra at hs
 refine wp_mono (Q := KPost (k_laws_toAlgebra M w r)) ?_ (fun e a d8 h => ?_)
 rotate_left
 ·cases e
  case ret =>
   obtain ⟨σ, rg2, ra0, rn0, rc0, rf0, rfl, hbrg2, hrest⟩ := h
   exact ret1x Try.results13 (res_cell rfl (box_load Ag30 Sz30 hbrg2 [] _ [] rfl rfl (fun h => nomatch h))) ⟨ra0, rn0, rc0, rf0, rfl, hrest⟩
  all_goals exact (h : False).elim
 refine c_sr ?_
 obtain ⟨b9, b3, c9, c0, b7, a0⟩ := new_block w [(.int .i64 a_.1), (.slice pa0 pn0 pc0)] 24
 refine pl_val (w' := b9) (.pointer (some ⟨b3, 0, none⟩)) (y_box rfl (by rw [c9, c0]; kernel_rfl)) ?_
 have h0 := h0.ext b7
 have hC := hC.ext b7
 have hO := hO.new1 b7 c0 a0.lt
 obtain ⟨c1, b4, d0, c2, b5, a1⟩ := new_block b9 [(.int .i64 0), (.slice none 0 0)] 30
 refine pl_val (w' := c1) (.pointer (some ⟨b4, 0, none⟩)) (y_alloc (by rw [d0, c2]; kernel_rfl)) ?_
 have h0 := h0.ext b5
 have a0 := a0.cn b5
 have hC := hC.ext b5
 have hO := hO.new1 b5 c2 a1.lt
 refine c_nil ?_
 refine c_sr ?_
 obtain ⟨d1, a5, d2, c3, a8, c4⟩ := new_block c1 [(.int .i64 0), (.slice none 0 0)] 30
 refine pl_val (w' := d1) (.pointer (some ⟨a5, 0, none⟩)) (y_alloc (by rw [d2, c3]; kernel_rfl)) ?_
 have h0 := h0.ext a8
 have a0 := a0.cn a8
 have a1 := a1.cn a8
 have hC := hC.ext a8
 have hO := hO.new1 a8 c3 c4.lt
 refine c_nil ?_
 refine c_sr ?_
 refine pl_val (.pointer (some ⟨b3, 0, none⟩)) (y_faddr rfl Fa24x0) ?_
 refine pl_val (.int .i64 a_.1) (y_load rfl ((box_load Ag3 Sz3 a0 [] [(.int .i64 a_.1)] [(.slice pa0 pn0 pc0)] rfl rfl (fun _ => rfl)) _ (Chg.refl _ _))) ?_
 refine pl_val (.pointer (some ⟨a5, 0, none⟩)) (y_faddr rfl Fa30x0) ?_
 obtain ⟨c5, d3, a9, b0⟩ := box_store (P := Try.prog) c4 [] [(.int .i64 0)] [(.slice none 0 0)] [(.int .i64 a_.1)] rfl rfl (by intro u hu; simp only [List.mem_cons, List.not_mem_nil, or_false] at hu; rcases hu with rfl <;> rfl)
 refine pl_skip (w' := c5) (ys_store rfl rfl (d3 _ _ rfl Sz3)) ?_
 have h0 := h0.mt a9 hO same_
 have a0 := a0.ap a9 hO same_ (mem_r (mem_l (List.mem_singleton.2 rfl)))
 have a1 := a1.ap a9 hO same_ (mem_l (List.mem_singleton.2 rfl))
 have hC := hC.st a9 hO same_
 have hO := hO.ext a9
 have b0 : BoxV c5 a5 30 [(.int .i64 a_.1), (.slice none 0 0)] := b0
 refine c_nil ?_
 refine c_sr ?_
 refine pl_val (.pointer (some ⟨b3, 1, none⟩)) (y_faddr rfl Fa24x1) ?_
 refine pl_val (.slice pa0 pn0 pc0) (y_load rfl ((box_load Ag22 Sz22 a0 [(.int .i64 a_.1)] [(.slice pa0 pn0 pc0)] [] rfl rfl (fun _ => rfl)) _ (Chg.refl _ _))) ?_
 obtain ⟨r7, d4, hs⟩ := bind_some hs
 refine pl_call Bd30 rfl (c_laws_toOpS (M := M) a_.2 h0 hO.fut d4) ?_
 rintro _ d9 ⟨a2, a3, a4, c6, rfl, a6, b1, d5⟩
 have h0 := h0.ext a6
 have a0 := a0.cn a6
 have a1 := a1.cn a6
 have b0 := b0.cn a6
 have hC := hC.ext a6
 have hO := Own.join0 hO a6 d5
 have hO := hO.perm (R := c6 ++ (([a5]) ++ (([b4]) ++ (([b3]) ++ ([]))))) (by simp)
 refine pl_val (.pointer (some ⟨a5, 1, none⟩)) (y_faddr rfl Fa30x1) ?_
 obtain ⟨c7, d6, a7, b2⟩ := box_store (P := Try.prog) b0 [(.int .i64 a_.1)] [(.slice none 0 0)] [] [(.slice a2 a3 a4)] rfl rfl (by intro u hu; simp only [List.mem_cons, List.not_mem_nil, or_false] at hu; rcases hu with rfl <;> rfl)
 refine pl_skip (w' := c7) (ys_store rfl rfl (d6 _ _ rfl Sz26)) ?_
 have hO := hO.fr1
 have h0 := h0.mt a7 hO same_
 have a0 := a0.ap a7 hO same_ (mem_r (mem_r (mem_l (List.mem_singleton.2 rfl))))
 have a1 := a1.ap a7 hO same_ (mem_r (mem_l (List.mem_singleton.2 rfl)))
 have b1 := b1.ma a7 hO same_ (fun _ e => (mem_l (e)))
 have hC := hC.st a7 hO same_
 have hO := hO.ext a7
 have b2 : BoxV c7 a5 30 [(.int .i64 a_.1), (.slice a2 a3 a4)] := b2
 refine c_nil ?_
 have hO := hO.fr3
 have hO := hO.drop
 refine c_sr ?_
 refine pl_val (.agg #[(.int .i64 a_.1), (.slice a2 a3 a4)]) (y_load rfl ((box_load Ag30 Sz30 b2 [] [(.int .i64 a_.1), (.slice a2 a3 a4)] [] rfl rfl (fun h => nomatch h)) _ (Chg.refl _ _))) ?_
 obtain ⟨c8, d7, b6, b8⟩ := box_store (P := Try.prog) a1 [] [(.int .i64 0), (.slice none 0 0)] [] [(.int .i64 a_.1), (.slice a2 a3 a4)] rfl rfl (by intro u hu; simp only [List.mem_cons, List.not_mem_nil, or_false] at hu; rcases hu with rfl | rfl <;> rfl)
 refine pl_skip (w' := c8) (ys_store rfl rfl (d7 _ _ rfl Sz30)) ?_
 have hO := hO.fr2
 have b2 := b2.ap b6 hO same_ (mem_l (List.mem_singleton.2 rfl))
 have b1 := b1.ma b6 hO same_ (fun _ e => (mem_r (mem_l (e))))
 have hC := hC.st b6 hO same_
 have hO := hO.ext b6
 have b8 : BoxV c8 b4 30 [(.int .i64 a_.1), (.slice a2 a3 a4)] := b8
 refine c_nil ?_
 have hO := hO.fr1
 have hO := hO.drop
 refine wp_ret ?_
 cases hs
 have hO := hO.drop
 exact ⟨_, b4, a2, a3, a4, c6, fr_ovl 12 ⟨rfl, trivial⟩, b8, hC, b1, hO.top⟩

def k_spec_l1In (M : Nat → Prop) (w0 : World) (r : Bool) (a : Act) (w : World) : Prop :=
  ∃ (σ : Nat → Value) , a = fr 15 (ovl σ [(6, (.bool r))]) ∧ Chg [] w0 w
def s_spec_l1In (x_ : Int) (a_ : Int) (b : Int) : Option (Bool) :=
  (bif (decide (a_ ≤ x_)) then some (decide (x_ ≤ b)) else some false)
set_option maxHeartbeats 4000000 in
theorem c_spec_l1In {M : Nat → Prop} {w : World}  (x_ : Int) (a_ : Int) (b : Int)  (hM : ∀ g, w.heap.size ≤ g → M g) {r : Bool} (hs : s_spec_l1In x_ a_ b = some r) :
    Gives Try.prog 90 [(.int .i64 x_), (.int .i64 a_), (.int .i64 b)] w (fun v w' => v = (.bool r) ∧ Chg [] w w') := by
 refine calls_fr Try.func90 rfl Try.ntmps90 (Nat.le_of_ble_eq_true rfl) ?_
 have hO := Own.start (N := Nw w []) hM Nw.fut
 have hC := Chg.refl [] w
 unfold s_spec_l1In at hs
 refine wp_mono (Q := KPost (k_spec_l1In M w r)) ?_ (fun e a a1 h => ?_)
 rotate_left
 ·cases e
  case ret =>
   obtain ⟨σ, rfl, hrest⟩ := h
   exact ret1x Try.results90 (res_tmp rfl) ⟨rfl, hrest⟩
  all_goals exact (h : False).elim
 refine c_sr ?_
 refine pl_val (.bool false) (y_assign rfl) ?_
 refine c_nil ?_
 refine c_sr ?_
 refine pl_val (.int .i64 x_) (y_move rfl) ?_
 refine pl_val (.int .i64 a_) (y_move rfl) ?_
 refine pl_val (.bool (decide (a_ ≤ x_))) (y_geq rfl rfl) ?_
 refine pl_val (.bool (decide (a_ ≤ x_))) (y_move rfl) ?_
 rcases bif_some hs with ⟨a0, hs⟩ | ⟨a0, hs⟩
 ·skip
  refine pl_yes (.int .i64 x_) (tg := 10) (by kernel_rfl) (congrArg Value.bool a0) (y_move rfl) ?_
  refine pl_yes (.int .i64 b) (tg := 10) (by kernel_rfl) (congrArg Value.bool a0) (y_move rfl) ?_
  refine pl_yes (.bool (decide (x_ ≤ b))) (tg := 10) (by kernel_rfl) (congrArg Value.bool a0) (y_leq rfl rfl) ?_
  refine pl_val (.bool (decide (x_ ≤ b))) (y_pick_t (congrArg Value.bool a0) rfl) ?_
  refine pl_val (.bool (decide (x_ ≤ b))) (y_assign rfl) ?_
  refine c_nil ?_
  refine wp_ret ?_
  cases hs
  exact ⟨_, fr_ovl 15 ⟨rfl, trivial⟩, hC⟩
 refine pl_not (tg := 10) (by kernel_rfl) (congrArg Value.bool a0) ?_
 refine pl_not (tg := 10) (by kernel_rfl) (congrArg Value.bool a0) ?_
 refine pl_not (tg := 10) (by kernel_rfl) (congrArg Value.bool a0) ?_
 refine pl_val (.bool false) (y_pick_f (congrArg Value.bool a0) rfl) ?_
 refine pl_val (.bool false) (y_assign rfl) ?_
 refine c_nil ?_
 refine wp_ret ?_
 cases hs
 exact ⟨_, fr_ovl 15 ⟨rfl, trivial⟩, hC⟩

def k_spec_l2Pow (M : Nat → Prop) (w0 : World) (r : Int) (a : Act) (w : World) : Prop :=
  ∃ (σ : Nat → Value) , a = fr 14 (ovl σ [(4, (.int .i64 r))]) ∧ Chg [] w0 w
def s_spec_l2Pow (n : Int) (k : Int) : Option (Int) :=
  (iter (S := Int × Int) (R := Int) (fun s2 =>
  (bif (decide (0 < s2.1)) then some (.nx (w64 (s2.1 - 1), w64 (s2.2 * n))) else some (.br (s2.1, s2.2)))) FU (k, 1)).bind fun o6 => after o6 (fun r_ => some r_) (fun s2 =>
  some s2.2)
set_option maxHeartbeats 4000000 in
theorem c_spec_l2Pow {M : Nat → Prop} {w : World}  (n : Int) (k : Int)  (hM : ∀ g, w.heap.size ≤ g → M g) {r : Int} (hs : s_spec_l2Pow n k = some r) :
    Gives Try.prog 91 [(.int .i64 n), (.int .i64 k)] w (fun v w' => v = (.int .i64 r) ∧ Chg [] w w') := by
 refine calls_fr Try.func91 rfl Try.ntmps91 (Nat.le_of_ble_eq_true rfl) ?_
 have hO := Own.start (N := Nw w []) hM Nw.fut
 have hC := Chg.refl [] w
 unfold s_spec_l2Pow at hs
 refine wp_mono (Q := KPost (k_spec_l2Pow M w r)) ?_ (fun e a a2 h => ?_)
 rotate_left
 ·cases e
  case ret =>
   obtain ⟨σ, rfl, hrest⟩ := h
   exact ret1x Try.results91 (res_tmp rfl) ⟨rfl, hrest⟩
  all_goals exact (h : False).elim
 refine c_sr ?_
 refine pl_val (.int .i64 0) (y_assign rfl) ?_
 refine c_nil ?_
 refine c_sr ?_
 refine pl_val (.int .i64 1) (y_assign rfl) ?_
 refine c_nil ?_
 refine c_seq ?_
 obtain ⟨o6, a3, hs⟩ := bind_some hs
 refine wp_block ?_
 refine wp_iter (id := 0) (I := fun s2 a a0 => ∃ (σ : Nat → Value), a = fr 14 (ovl σ [(0, (.int .i64 n)), (1, (.int .i64 s2.1)), (5, (.int .i64 s2.2))]) ∧ Chg [] w a0 ∧ Own (Nw w []) M a0 ([])) (J := fun s2 a a0 => ∃ (σ : Nat → Value), a = fr 14 (ovl σ [(5, (.int .i64 s2.2))]) ∧ Chg [] w a0 ∧ Own (Nw w []) M a0 ([])) (K := (k_spec_l2Pow M w)) ?_ FU (k, 1) o6 _ _ ?_ a3 ?_
 ·rintro s2 o6 a a0 ⟨σ, rfl, hC, hO⟩ hs
  refine c_seq ?_
  refine c_sr ?_
  refine pl_val (.int .i64 s2.1) (y_move rfl) ?_
  refine pl_val (.bool (decide (0 < s2.1))) (y_gtr rfl rfl) ?_
  refine c_nil ?_
  rcases bif_some hs with ⟨a1, hs⟩ | ⟨a1, hs⟩
  ·refine c_condT (congrArg Value.bool a1) ?_
   refine wp_skip ?_
   refine c_seq ?_
   refine wp_block ?_
   refine c_region ?_
   refine pl_val (.int .i64 s2.2) (y_move rfl) ?_
   refine pl_val (.int .i64 n) (y_move rfl) ?_
   refine pl_val (.int .i64 (w64 (s2.2 * n))) (y_mul rfl rfl) ?_
   refine pl_val (.int .i64 (w64 (s2.2 * n))) (y_assign rfl) ?_
   refine c_nil ?_
   refine c_region ?_
   refine pl_val (.int .i64 s2.1) (y_move rfl) ?_
   refine pl_val (.int .i64 (w64 (s2.1 - 1))) (y_sub rfl rfl) ?_
   refine pl_val (.int .i64 (w64 (s2.1 - 1))) (y_assign rfl) ?_
   refine c_nil ?_
   cases hs
   exact ⟨_, fr_ovl 14 ⟨rfl, rfl, rfl, trivial⟩, hC, hO⟩
  refine c_condF (congrArg Value.bool a1) ?_
  refine wp_exit ?_
  cases hs
  exact ⟨rfl, _, fr_ovl 14 ⟨rfl, trivial⟩, hC, hO⟩
 ·skip
  exact ⟨_, fr_ovl 14 ⟨rfl, rfl, rfl, trivial⟩, hC, hO⟩
 cases o6 with
 | nx _ => exact True.intro
 | rt r_ =>
  have hs := after_rt hs
  intro a4 a2 hK
  cases hs
  exact hK
 | br s2 =>
  have hs := after_br hs
  rintro a4 a0 ⟨σ, rfl, hC, hO⟩
  refine c_sr ?_
  refine pl_val (.int .i64 s2.2) (y_move rfl) ?_
  refine pl_val (.int .i64 s2.2) (y_assign rfl) ?_
  refine c_nil ?_
  refine wp_ret ?_
  cases hs
  exact ⟨_, fr_ovl 14 ⟨rfl, trivial⟩, hC⟩

theorem Mx : Try.prog.follows .mixedOrders = true := by kernel_rfl

theorem Bd90 : Bodied Try.prog 90 := bodied Try.func90 (by kernel_rfl) rfl

theorem Bd91 : Bodied Try.prog 91 := bodied Try.func91 (by kernel_rfl) rfl

def k_spec_l2Op (M : Nat → Prop) (w0 : World) (r : Bool) (a : Act) (w : World) : Prop :=
  ∃ (σ : Nat → Value) , a = fr 36 (ovl σ [(4, (.bool r))]) ∧ Chg [] w0 w
def s_spec_l2Op (n : Int) (op : Int × (List Int)) : Option (Bool) :=
  ((s_spec_l1In op.1 0 3).bind fun r8 =>
  (bif (!r8) then some true else (s_spec_l2Pow n op.1).bind fun r11 =>
  some ((op.2.length : Int) != r11))).bind fun s3 =>
  (bif s3 then some false else (forC (S := Unit) (R := Bool) (fun k24 s22 =>
  (idx op.2 k24).bind fun x28 =>
  (s_spec_l1In x28 0 (w64 (n - 1))).bind fun r31 =>
  (bif (!r31) then some (.rt false) else some (.nx ()))) 0 (op.2.length : Int) ()).bind fun o26 => after o26 (fun r_ => some r_) (fun s22 =>
  some true))
set_option maxHeartbeats 4000000 in
theorem c_spec_l2Op {M : Nat → Prop} {w : World} {pa0 : Option Addr} {pn0 pc0 : Nat} (n : Int) (op : Int × (List Int)) (h0 : (RT.rs (RT.int .i64)).val M w (.slice pa0 pn0 pc0) op.2 ([])) (hM : ∀ g, w.heap.size ≤ g → M g) {r : Bool} (hs : s_spec_l2Op n op = some r) :
    Gives Try.prog 94 [(.int .i64 n), (.agg #[(.int .i64 op.1), (.slice pa0 pn0 pc0)])] w (fun v w' => v = (.bool r) ∧ Chg [] w w') := by
 refine calls_fr Try.func94 rfl Try.ntmps94 (Nat.le_of_ble_eq_true rfl) ?_
 have hO := Own.start (N := Nw w []) hM Nw.fut
 have hC := Chg.refl [] w
 unfold s_spec_l2Op at hs
 refine wp_mono (Q := KPost (k_spec_l2Op M w r)) ?_ (fun e a c0 h => ?_)
 rotate_left
 ·cases e
  case ret =>
   obtain ⟨σ, rfl, hrest⟩ := h
   exact ret1x Try.results94 (res_tmp rfl) ⟨rfl, hrest⟩
  all_goals exact (h : False).elim
 refine c_sr ?_
 obtain ⟨a9, a2, c1, b7, b3, a0⟩ := new_block w [(.int .i64 op.1), (.slice pa0 pn0 pc0)] 64
 refine pl_val (w' := a9) (.pointer (some ⟨a2, 0, none⟩)) (y_box rfl (by rw [c1, b7]; kernel_rfl)) ?_
 have h0 := h0.ext b3
 have hC := hC.ext b3
 have hO := hO.new1 b3 b7 a0.lt
 refine pl_val (.bool false) (y_assign rfl) ?_
 refine c_nil ?_
 refine c_seq ?_
 refine c_seq ?_
 obtain ⟨s3, c2, hs⟩ := bind_some hs
 refine c_mid (I := fun a b8 => ∃ (σ : Nat → Value), a = fr 36 (ovl σ [(0, (.int .i64 n)), (3, (.pointer (some ⟨a2, 0, none⟩))), (4, (.bool false)), (19, (.bool s3))]) ∧ Chg [] a9 b8) ?_ ?_
 ·replace hs := c2
  have hMid := Chg.refl [] a9
  refine x_start [] Mx rfl ?_
  have a8 := Chg.drew a9
  generalize World.drew a9 = c3 at a8 ⊢
  have h0 := h0.ext a8
  have a0 := a0.cn a8
  have hMid := hMid.ext a8
  have hC := hC.ext a8
  have hO := hO.ext a8
  have hS := Chg.refl [] c3
  refine x_p 0 (.pointer (some ⟨a2, 0, none⟩)) rfl (by kernel_rfl)  (fun _ => y_faddr rfl Fa64x0) (fun _ => hS) ?_
  refine x_l 1 (.int .i64 op.1) rfl (by kernel_rfl)  (fun w' hw' => y_load rfl ((box_load Ag3 Sz3 a0 [] [(.int .i64 op.1)] [(.slice pa0 pn0 pc0)] rfl rfl (fun _ => rfl)) w' hw')) hS ?_
  refine x_one (i := 2) (by kernel_rfl) ?_
  obtain ⟨r8, c4, hs⟩ := bind_some hs
  refine xk_call (b := false) rfl  Bd90 rfl (c_spec_l1In (M := M) op.1 0 3  hO.fut c4) rfl (by rintro _ _ _ ⟨rfl, a4⟩; exact hS.ext a4) ?_
  rintro _ d1 ⟨rfl, a4⟩
  have h0 := h0.ext a4
  have a0 := a0.cn a4
  have hMid := hMid.ext a4
  have hC := hC.ext a4
  have hO := hO.ext a4
  have hS := hS.ext a4
  refine x_p 3 (.bool (!r8)) rfl (by kernel_rfl)  (fun _ => y_not rfl) (fun _ => hS) ?_
  refine x_p 4 (.bool (!r8)) rfl (by kernel_rfl)  (fun _ => y_move rfl) (fun _ => hS) ?_
  rcases bif_some hs with ⟨a1, hs⟩ | ⟨a1, hs⟩
  ·skip
   refine x_pn 5 rfl (by kernel_rfl) (tg := 10) (by kernel_rfl) (congrArg Value.bool a1) (fun _ => hS) ?_
   refine x_pn 6 rfl (by kernel_rfl) (tg := 10) (by kernel_rfl) (congrArg Value.bool a1) (fun _ => hS) ?_
   refine x_pn 7 rfl (by kernel_rfl) (tg := 10) (by kernel_rfl) (congrArg Value.bool a1) (fun _ => hS) ?_
   refine x_pn 8 rfl (by kernel_rfl) (tg := 10) (by kernel_rfl) (congrArg Value.bool a1) (fun _ => hS) ?_
   refine x_pn 9 rfl (by kernel_rfl) (tg := 10) (by kernel_rfl) (congrArg Value.bool a1) (fun _ => hS) ?_
   refine x_pn 10 rfl (by kernel_rfl) (tg := 10) (by kernel_rfl) (congrArg Value.bool a1) (fun _ => hS) ?_
   refine x_pn 11 rfl (by kernel_rfl) (tg := 10) (by kernel_rfl) (congrArg Value.bool a1) (fun _ => hS) ?_
   refine x_pn 12 rfl (by kernel_rfl) (tg := 10) (by kernel_rfl) (congrArg Value.bool a1) (fun _ => hS) ?_
   refine x_p 13 (.bool true) rfl (by kernel_rfl)  (fun _ => y_pick_t (congrArg Value.bool a1) rfl) (fun _ => hS) ?_
   refine x_end (by kernel_rfl) ?_
   clear hS
   cases hs
   exact ⟨_, fr_ovl 36 ⟨rfl, rfl, rfl, rfl, trivial⟩, hMid⟩
  refine x_py 5 (.pointer (some ⟨a2, 1, none⟩)) rfl (by kernel_rfl) (tg := 10) (by kernel_rfl) (congrArg Value.bool a1) (fun _ => y_faddr rfl Fa64x1) (fun _ => hS) ?_
  refine x_py 8 (.int .i64 n) rfl (by kernel_rfl) (tg := 10) (by kernel_rfl) (congrArg Value.bool a1) (fun _ => y_move rfl) (fun _ => hS) ?_
  refine x_py 9 (.pointer (some ⟨a2, 0, none⟩)) rfl (by kernel_rfl) (tg := 10) (by kernel_rfl) (congrArg Value.bool a1) (fun _ => y_faddr rfl Fa64x0) (fun _ => hS) ?_
  refine x_two (i := 6) (j := 10) (by kernel_rfl) ?_ ?_
  ·skip
   refine xk_valy (b := false) (.slice pa0 pn0 pc0) rfl (tg := 10) (by kernel_rfl) (congrArg Value.bool a1) (y_load rfl ((box_load Ag37 Sz37 a0 [(.int .i64 op.1)] [(.slice pa0 pn0 pc0)] [] rfl rfl (fun _ => rfl)) _ (Chg.refl _ _))) rfl (fun _ => hS) ?_
   refine x_py 7 (.int .i64 (op.2.length : Int)) rfl (by kernel_rfl) (tg := 10) (by kernel_rfl) (congrArg Value.bool a1) (fun _ => y_len' Sl37 (rs_len h0) rfl) (fun _ => hS) ?_
   refine x_one (i := 10) (by kernel_rfl) ?_
   refine xk_valy (b := false) (.int .i64 op.1) rfl (tg := 10) (by kernel_rfl) (congrArg Value.bool a1) (y_load rfl ((box_load Ag3 Sz3 a0 [] [(.int .i64 op.1)] [(.slice pa0 pn0 pc0)] rfl rfl (fun _ => rfl)) _ (Chg.refl _ _))) rfl (fun _ => hS) ?_
   refine x_one (i := 11) (by kernel_rfl) ?_
   obtain ⟨r11, b0, hs⟩ := bind_some hs
   refine xk_cally (b := false) rfl (tg := 10) (by kernel_rfl) (congrArg Value.bool a1) Bd91 rfl (c_spec_l2Pow (M := M) n op.1  hO.fut b0) rfl (by rintro _ _ _ ⟨rfl, a5⟩; exact hS.ext a5) ?_
   rintro _ d2 ⟨rfl, a5⟩
   have h0 := h0.ext a5
   have a0 := a0.cn a5
   have hMid := hMid.ext a5
   have hC := hC.ext a5
   have hO := hO.ext a5
   have hS := hS.ext a5
   refine x_py 12 (.bool ((op.2.length : Int) != r11)) rfl (by kernel_rfl) (tg := 10) (by kernel_rfl) (congrArg Value.bool a1) (fun _ => y_neq rfl rfl) (fun _ => hS) ?_
   refine x_p 13 (.bool ((op.2.length : Int) != r11)) rfl (by kernel_rfl)  (fun _ => y_pick_f (congrArg Value.bool a1) rfl) (fun _ => hS) ?_
   refine x_end (by kernel_rfl) ?_
   clear hS
   cases hs
   exact ⟨_, fr_ovl 36 ⟨rfl, rfl, rfl, rfl, trivial⟩, hMid⟩
  ·skip
   refine xk_valy (b := false) (.int .i64 op.1) rfl (tg := 10) (by kernel_rfl) (congrArg Value.bool a1) (y_load rfl ((box_load Ag3 Sz3 a0 [] [(.int .i64 op.1)] [(.slice pa0 pn0 pc0)] rfl rfl (fun _ => rfl)) _ (Chg.refl _ _))) rfl (fun _ => hS) ?_
   refine x_two (i := 6) (j := 11) (by kernel_rfl) ?_ ?_
   ·skip
    refine xk_valy (b := false) (.slice pa0 pn0 pc0) rfl (tg := 10) (by kernel_rfl) (congrArg Value.bool a1) (y_load rfl ((box_load Ag37 Sz37 a0 [(.int .i64 op.1)] [(.slice pa0 pn0 pc0)] [] rfl rfl (fun _ => rfl)) _ (Chg.refl _ _))) rfl (fun _ => hS) ?_
    refine x_py 7 (.int .i64 (op.2.length : Int)) rfl (by kernel_rfl) (tg := 10) (by kernel_rfl) (congrArg Value.bool a1) (fun _ => y_len' Sl37 (rs_len h0) rfl) (fun _ => hS) ?_
    refine x_one (i := 11) (by kernel_rfl) ?_
    obtain ⟨r11, b0, hs⟩ := bind_some hs
    refine xk_cally (b := false) rfl (tg := 10) (by kernel_rfl) (congrArg Value.bool a1) Bd91 rfl (c_spec_l2Pow (M := M) n op.1  hO.fut b0) rfl (by rintro _ _ _ ⟨rfl, a6⟩; exact hS.ext a6) ?_
    rintro _ d3 ⟨rfl, a6⟩
    have h0 := h0.ext a6
    have a0 := a0.cn a6
    have hMid := hMid.ext a6
    have hC := hC.ext a6
    have hO := hO.ext a6
    have hS := hS.ext a6
    refine x_py 12 (.bool ((op.2.length : Int) != r11)) rfl (by kernel_rfl) (tg := 10) (by kernel_rfl) (congrArg Value.bool a1) (fun _ => y_neq rfl rfl) (fun _ => hS) ?_
    refine x_p 13 (.bool ((op.2.length : Int) != r11)) rfl (by kernel_rfl)  (fun _ => y_pick_f (congrArg Value.bool a1) rfl) (fun _ => hS) ?_
    refine x_end (by kernel_rfl) ?_
    clear hS
    cases hs
    exact ⟨_, fr_ovl 36 ⟨rfl, rfl, rfl, rfl, trivial⟩, hMid⟩
   ·skip
    obtain ⟨r11, b0, hs⟩ := bind_some hs
    refine xk_cally (b := false) rfl (tg := 10) (by kernel_rfl) (congrArg Value.bool a1) Bd91 rfl (c_spec_l2Pow (M := M) n op.1  hO.fut b0) rfl (by rintro _ _ _ ⟨rfl, a7⟩; exact hS.ext a7) ?_
    rintro _ d4 ⟨rfl, a7⟩
    have h0 := h0.ext a7
    have a0 := a0.cn a7
    have hMid := hMid.ext a7
    have hC := hC.ext a7
    have hO := hO.ext a7
    have hS := hS.ext a7
    refine x_one (i := 6) (by kernel_rfl) ?_
    refine xk_valy (b := false) (.slice pa0 pn0 pc0) rfl (tg := 10) (by kernel_rfl) (congrArg Value.bool a1) (y_load rfl ((box_load Ag37 Sz37 a0 [(.int .i64 op.1)] [(.slice pa0 pn0 pc0)] [] rfl rfl (fun _ => rfl)) _ (Chg.refl _ _))) rfl (fun _ => hS) ?_
    refine x_py 7 (.int .i64 (op.2.length : Int)) rfl (by kernel_rfl) (tg := 10) (by kernel_rfl) (congrArg Value.bool a1) (fun _ => y_len' Sl37 (rs_len h0) rfl) (fun _ => hS) ?_
    refine x_py 12 (.bool ((op.2.length : Int) != r11)) rfl (by kernel_rfl) (tg := 10) (by kernel_rfl) (congrArg Value.bool a1) (fun _ => y_neq rfl rfl) (fun _ => hS) ?_
    refine x_p 13 (.bool ((op.2.length : Int) != r11)) rfl (by kernel_rfl)  (fun _ => y_pick_f (congrArg Value.bool a1) rfl) (fun _ => hS) ?_
    refine x_end (by kernel_rfl) ?_
    clear hS
    cases hs
    exact ⟨_, fr_ovl 36 ⟨rfl, rfl, rfl, rfl, trivial⟩, hMid⟩
 rintro b9 b8 ⟨σ, rfl, b2⟩
 have h0 := h0.ext b2
 have a0 := a0.cn b2
 have hC := hC.ext b2
 have hO := hO.ext b2
 rcases bif_some hs with ⟨b4, hs⟩ | ⟨b4, hs⟩
 ·refine c_condT (congrArg Value.bool b4) ?_
  refine c_sr ?_
  refine pl_val (.bool false) (y_assign rfl) ?_
  refine c_nil ?_
  refine wp_ret ?_
  cases hs
  exact ⟨_, fr_ovl 36 ⟨rfl, trivial⟩, hC⟩
 refine c_condF (congrArg Value.bool b4) ?_
 refine wp_skip ?_
 refine c_seq ?_
 refine c_sr ?_
 refine pl_val (.int .i64 0) (y_assign rfl) ?_
 refine c_nil ?_
 obtain ⟨o26, c5, hs⟩ := bind_some hs
 refine wp_block ?_
 refine wp_forC (id := 0) (op.2.length : Int) (I := fun k24 s22 a a3 => ∃ (σ : Nat → Value), a = fr 36 (ovl σ [(0, (.int .i64 n)), (3, (.pointer (some ⟨a2, 0, none⟩))), (5, (.int .i64 k24))]) ∧ Chg [] w a3 ∧ Own (Nw w []) M a3 (([a2]) ++ []) ∧ (RT.rs (RT.int .i64)).val M a3 (.slice pa0 pn0 pc0) op.2 ([]) ∧ BoxV a3 a2 64 [(.int .i64 op.1), (.slice pa0 pn0 pc0)]) (J := fun s22 a a3 => ∃ (σ : Nat → Value), a = fr 36 (ovl σ []) ∧ Chg [] w a3 ∧ Own (Nw w []) M a3 (([a2]) ++ []) ∧ (RT.rs (RT.int .i64)).val M a3 (.slice pa0 pn0 pc0) op.2 ([]) ∧ BoxV a3 a2 64 [(.int .i64 op.1), (.slice pa0 pn0 pc0)]) (K := (k_spec_l2Op M w)) ?_ ?_ 0 () o26 _ _ ?_ c5 ?_
 ·rintro k24 s22 a a3 ⟨σ, rfl, hC, hO, h0, a0⟩ hlt
  refine c_seq ?_
  refine c_sr ?_
  refine pl_val (.int .i64 k24) (y_move rfl) ?_
  refine pl_val (.pointer (some ⟨a2, 1, none⟩)) (y_faddr rfl Fa64x1) ?_
  refine pl_val (.slice pa0 pn0 pc0) (y_load rfl ((box_load Ag37 Sz37 a0 [(.int .i64 op.1)] [(.slice pa0 pn0 pc0)] [] rfl rfl (fun _ => rfl)) _ (Chg.refl _ _))) ?_
  refine pl_val (.int .i64 (op.2.length : Int)) (y_len' Sl37 (rs_len h0) rfl) ?_
  refine pl_val (.bool (decide (k24 < (op.2.length : Int)))) (y_lss rfl rfl) ?_
  refine c_nil ?_
  refine c_condF (congrArg Value.bool (decide_eq_false hlt)) ?_
  refine wp_exit ?_
  exact ⟨rfl, _, fr_ovl 36 trivial, hC, hO, h0, a0⟩
 ·rintro k24 s22 o26 a a3 ⟨σ, rfl, hC, hO, h0, a0⟩ hlt hw hs
  refine c_seq ?_
  refine c_sr ?_
  refine pl_val (.int .i64 k24) (y_move rfl) ?_
  refine pl_val (.pointer (some ⟨a2, 1, none⟩)) (y_faddr rfl Fa64x1) ?_
  refine pl_val (.slice pa0 pn0 pc0) (y_load rfl ((box_load Ag37 Sz37 a0 [(.int .i64 op.1)] [(.slice pa0 pn0 pc0)] [] rfl rfl (fun _ => rfl)) _ (Chg.refl _ _))) ?_
  refine pl_val (.int .i64 (op.2.length : Int)) (y_len' Sl37 (rs_len h0) rfl) ?_
  refine pl_val (.bool (decide (k24 < (op.2.length : Int)))) (y_lss rfl rfl) ?_
  refine c_nil ?_
  refine c_condT (congrArg Value.bool (decide_eq_true hlt)) ?_
  refine wp_skip ?_
  refine c_seq ?_
  refine wp_block ?_
  refine c_sr ?_
  refine pl_val (.pointer (some ⟨a2, 1, none⟩)) (y_faddr rfl Fa64x1) ?_
  refine pl_val (.slice pa0 pn0 pc0) (y_load rfl ((box_load Ag37 Sz37 a0 [(.int .i64 op.1)] [(.slice pa0 pn0 pc0)] [] rfl rfl (fun _ => rfl)) _ (Chg.refl _ _))) ?_
  refine pl_val (.int .i64 k24) (y_move rfl) ?_
  obtain ⟨x28, c6, hs⟩ := bind_some hs
  obtain ⟨c7, c8, c9, b5⟩ := rs_idx Sl37 Sz3 h0 c6
  refine pl_val (.pointer (some ⟨c7, c8, none⟩)) (c9 _ _ _ _ _ _ _ _ _ rfl rfl) ?_
  refine pl_val (.int .i64 x28) (y_load rfl ((at_load_int Ag3 Sz3 b5) _ (Chg.refl _ _))) ?_
  refine pl_val (.int .i64 n) (y_move rfl) ?_
  refine pl_val (.int .i64 (w64 (n - 1))) (y_sub rfl rfl) ?_
  obtain ⟨r31, d0, hs⟩ := bind_some hs
  refine pl_call Bd90 rfl (c_spec_l1In (M := M) x28 0 (w64 (n - 1))  hO.fut d0) ?_
  rintro _ d5 ⟨rfl, b1⟩
  have h0 := h0.ext b1
  have a0 := a0.cn b1
  have b5 := at_ext b5 b1
  have hC := hC.ext b1
  have hO := hO.ext b1
  refine pl_val (.bool (!r31)) (y_not rfl) ?_
  refine c_nil ?_
  rcases bif_some hs with ⟨b6, hs⟩ | ⟨b6, hs⟩
  ·refine c_condT (congrArg Value.bool b6) ?_
   refine c_sr ?_
   refine pl_val (.bool false) (y_assign rfl) ?_
   refine c_nil ?_
   refine wp_ret ?_
   cases hs
   exact ⟨_, fr_ovl 36 ⟨rfl, trivial⟩, hC⟩
  refine c_condF (congrArg Value.bool b6) ?_
  refine wp_skip ?_
  refine c_region ?_
  refine pl_val (.int .i64 k24) (y_move rfl) ?_
  refine pl_val (.int .i64 (w64 (k24 + 1))) (y_add rfl rfl) ?_
  refine pl_val (.int .i64 (w64 (k24 + 1))) (y_assign rfl) ?_
  refine c_nil ?_
  cases hs
  exact ⟨_, fr_ovl 36 ⟨rfl, rfl, congrArg (Value.int .i64) hw, trivial⟩, hC, hO, h0, a0⟩
 ·skip
  exact ⟨_, fr_ovl 36 ⟨rfl, rfl, rfl, trivial⟩, hC, hO, h0, a0⟩
 cases o26 with
 | nx _ => exact True.intro
 | rt r_ =>
  have hs := after_rt hs
  intro b9 c0 hK
  cases hs
  exact hK
 | br s22 =>
  have hs := after_br hs
  rintro b9 a3 ⟨σ, rfl, hC, hO, h0, a0⟩
  refine c_sr ?_
  refine pl_val (.bool true) (y_assign rfl) ?_
  refine c_nil ?_
  refine wp_ret ?_
  cases hs
  exact ⟨_, fr_ovl 36 ⟨rfl, trivial⟩, hC⟩

theorem Ag26 : AggT Try.prog 26 false := fun _ => by kernel_rfl

theorem Bd94 : Bodied Try.prog 94 := bodied Try.func94 (by kernel_rfl) rfl

def k_spec_l2Good (M : Nat → Prop) (w0 : World) (r : Bool) (a : Act) (w : World) : Prop :=
  ∃ (σ : Nat → Value) , a = fr 30 (ovl σ [(2, (.bool r))]) ∧ Chg [] w0 w
def s_spec_l2Good (a_ : Int × (List (Int × (List Int)))) : Option (Bool) :=
  ((s_spec_l1In a_.1 1 8).bind fun r7 =>
  (bif (!r7) then some true else some (decide (4 < (a_.2.length : Int))))).bind fun s3 =>
  (bif s3 then some false else (forC (S := Unit) (R := Bool) (fun k20 s18 =>
  (idx a_.2 k20).bind fun x25 =>
  (s_spec_l2Op a_.1 (x25.1, x25.2)).bind fun r30 =>
  (bif (!r30) then some (.rt false) else some (.nx ()))) 0 (a_.2.length : Int) ()).bind fun o22 => after o22 (fun r_ => some r_) (fun s18 =>
  some true))
set_option maxHeartbeats 4000000 in
theorem c_spec_l2Good {M : Nat → Prop} {w : World} {pa0 : Option Addr} {pn0 pc0 : Nat} (a_ : Int × (List (Int × (List Int)))) (h0 : (RT.rs (RT.pr (RT.int .i64) (RT.rs (RT.int .i64)))).val M w (.slice pa0 pn0 pc0) a_.2 ([])) (hM : ∀ g, w.heap.size ≤ g → M g) {r : Bool} (hs : s_spec_l2Good a_ = some r) :
    Gives Try.prog 77 [(.agg #[(.int .i64 a_.1), (.slice pa0 pn0 pc0)])] w (fun v w' => v = (.bool r) ∧ Chg [] w w') := by
 refine calls_fr Try.func77 rfl Try.ntmps77 (Nat.le_of_ble_eq_true rfl) ?_
 have hO := Own.start (N := Nw w []) hM Nw.fut
 have hC := Chg.refl [] w
 unfold s_spec_l2Good at hs
 refine wp_mono (Q := KPost (k_spec_l2Good M w r)) ?_ (fun e a b7 h => ?_)
 rotate_left
 ·cases e
  case ret =>
   obtain ⟨σ, rfl, hrest⟩ := h
   exact ret1x Try.results77 (res_tmp rfl) ⟨rfl, hrest⟩
  all_goals exact (h : False).elim
 refine c_sr ?_
 obtain ⟨a8, a2, b8, b4, a9, a0⟩ := new_block w [(.int .i64 a_.1), (.slice pa0 pn0 pc0)] 30
 refine pl_val (w' := a8) (.pointer (some ⟨a2, 0, none⟩)) (y_box rfl (by rw [b8, b4]; kernel_rfl)) ?_
 have h0 := h0.ext a9
 have hC := hC.ext a9
 have hO := hO.new1 a9 b4 a0.lt
 refine pl_val (.bool false) (y_assign rfl) ?_
 refine c_nil ?_
 refine c_seq ?_
 refine c_seq ?_
 obtain ⟨s3, b9, hs⟩ := bind_some hs
 refine c_mid (I := fun a b5 => ∃ (σ : Nat → Value), a = fr 30 (ovl σ [(1, (.pointer (some ⟨a2, 0, none⟩))), (2, (.bool false)), (13, (.bool s3))]) ∧ Chg [] a8 b5) ?_ ?_
 ·replace hs := b9
  have hMid := Chg.refl [] a8
  refine c_region ?_
  refine pl_val (.pointer (some ⟨a2, 0, none⟩)) (y_faddr rfl Fa30x0) ?_
  refine pl_val (.int .i64 a_.1) (y_load rfl ((box_load Ag3 Sz3 a0 [] [(.int .i64 a_.1)] [(.slice pa0 pn0 pc0)] rfl rfl (fun _ => rfl)) _ (Chg.refl _ _))) ?_
  obtain ⟨r7, c0, hs⟩ := bind_some hs
  refine pl_call Bd90 rfl (c_spec_l1In (M := M) a_.1 1 8  hO.fut c0) ?_
  rintro _ d6 ⟨rfl, a5⟩
  have h0 := h0.ext a5
  have a0 := a0.cn a5
  have hMid := hMid.ext a5
  have hC := hC.ext a5
  have hO := hO.ext a5
  refine pl_val (.bool (!r7)) (y_not rfl) ?_
  refine pl_val (.bool (!r7)) (y_move rfl) ?_
  rcases bif_some hs with ⟨a3, hs⟩ | ⟨a3, hs⟩
  ·skip
   refine pl_not (tg := 8) (by kernel_rfl) (congrArg Value.bool a3) ?_
   refine pl_not (tg := 8) (by kernel_rfl) (congrArg Value.bool a3) ?_
   refine pl_not (tg := 8) (by kernel_rfl) (congrArg Value.bool a3) ?_
   refine pl_not (tg := 8) (by kernel_rfl) (congrArg Value.bool a3) ?_
   refine pl_val (.bool true) (y_pick_t (congrArg Value.bool a3) rfl) ?_
   refine c_nil ?_
   cases hs
   exact ⟨_, fr_ovl 30 ⟨rfl, rfl, rfl, trivial⟩, hMid⟩
  refine pl_yes (.pointer (some ⟨a2, 1, none⟩)) (tg := 8) (by kernel_rfl) (congrArg Value.bool a3) (y_faddr rfl Fa30x1) ?_
  refine pl_yes (.slice pa0 pn0 pc0) (tg := 8) (by kernel_rfl) (congrArg Value.bool a3) (y_load rfl ((box_load Ag26 Sz26 a0 [(.int .i64 a_.1)] [(.slice pa0 pn0 pc0)] [] rfl rfl (fun _ => rfl)) _ (Chg.refl _ _))) ?_
  refine pl_yes (.int .i64 (a_.2.length : Int)) (tg := 8) (by kernel_rfl) (congrArg Value.bool a3) (y_len' Sl26 (rs_len h0) rfl) ?_
  refine pl_yes (.bool (decide (4 < (a_.2.length : Int)))) (tg := 8) (by kernel_rfl) (congrArg Value.bool a3) (y_gtr rfl rfl) ?_
  refine pl_val (.bool (decide (4 < (a_.2.length : Int)))) (y_pick_f (congrArg Value.bool a3) rfl) ?_
  refine c_nil ?_
  cases hs
  exact ⟨_, fr_ovl 30 ⟨rfl, rfl, rfl, trivial⟩, hMid⟩
 rintro b6 b5 ⟨σ, rfl, a7⟩
 have h0 := h0.ext a7
 have a0 := a0.cn a7
 have hC := hC.ext a7
 have hO := hO.ext a7
 rcases bif_some hs with ⟨b0, hs⟩ | ⟨b0, hs⟩
 ·refine c_condT (congrArg Value.bool b0) ?_
  refine c_sr ?_
  refine pl_val (.bool false) (y_assign rfl) ?_
  refine c_nil ?_
  refine wp_ret ?_
  cases hs
  exact ⟨_, fr_ovl 30 ⟨rfl, trivial⟩, hC⟩
 refine c_condF (congrArg Value.bool b0) ?_
 refine wp_skip ?_
 refine c_seq ?_
 refine c_sr ?_
 refine pl_val (.int .i64 0) (y_assign rfl) ?_
 refine c_nil ?_
 obtain ⟨o22, c1, hs⟩ := bind_some hs
 refine wp_block ?_
 refine wp_forC (id := 0) (a_.2.length : Int) (I := fun k20 s18 a a1 => ∃ (σ : Nat → Value), a = fr 30 (ovl σ [(1, (.pointer (some ⟨a2, 0, none⟩))), (3, (.int .i64 k20))]) ∧ Chg [] w a1 ∧ Own (Nw w []) M a1 (([a2]) ++ []) ∧ (RT.rs (RT.pr (RT.int .i64) (RT.rs (RT.int .i64)))).val M a1 (.slice pa0 pn0 pc0) a_.2 ([]) ∧ BoxV a1 a2 30 [(.int .i64 a_.1), (.slice pa0 pn0 pc0)]) (J := fun s18 a a1 => ∃ (σ : Nat → Value), a = fr 30 (ovl σ []) ∧ Chg [] w a1 ∧ Own (Nw w []) M a1 (([a2]) ++ []) ∧ (RT.rs (RT.pr (RT.int .i64) (RT.rs (RT.int .i64)))).val M a1 (.slice pa0 pn0 pc0) a_.2 ([]) ∧ BoxV a1 a2 30 [(.int .i64 a_.1), (.slice pa0 pn0 pc0)]) (K := (k_spec_l2Good M w)) ?_ ?_ 0 () o22 _ _ ?_ c1 ?_
 ·rintro k20 s18 a a1 ⟨σ, rfl, hC, hO, h0, a0⟩ hlt
  refine c_seq ?_
  refine c_sr ?_
  refine pl_val (.int .i64 k20) (y_move rfl) ?_
  refine pl_val (.pointer (some ⟨a2, 1, none⟩)) (y_faddr rfl Fa30x1) ?_
  refine pl_val (.slice pa0 pn0 pc0) (y_load rfl ((box_load Ag26 Sz26 a0 [(.int .i64 a_.1)] [(.slice pa0 pn0 pc0)] [] rfl rfl (fun _ => rfl)) _ (Chg.refl _ _))) ?_
  refine pl_val (.int .i64 (a_.2.length : Int)) (y_len' Sl26 (rs_len h0) rfl) ?_
  refine pl_val (.bool (decide (k20 < (a_.2.length : Int)))) (y_lss rfl rfl) ?_
  refine c_nil ?_
  refine c_condF (congrArg Value.bool (decide_eq_false hlt)) ?_
  refine wp_exit ?_
  exact ⟨rfl, _, fr_ovl 30 trivial, hC, hO, h0, a0⟩
 ·rintro k20 s18 o22 a a1 ⟨σ, rfl, hC, hO, h0, a0⟩ hlt hw hs
  refine c_seq ?_
  refine c_sr ?_
  refine pl_val (.int .i64 k20) (y_move rfl) ?_
  refine pl_val (.pointer (some ⟨a2, 1, none⟩)) (y_faddr rfl Fa30x1) ?_
  refine pl_val (.slice pa0 pn0 pc0) (y_load rfl ((box_load Ag26 Sz26 a0 [(.int .i64 a_.1)] [(.slice pa0 pn0 pc0)] [] rfl rfl (fun _ => rfl)) _ (Chg.refl _ _))) ?_
  refine pl_val (.int .i64 (a_.2.length : Int)) (y_len' Sl26 (rs_len h0) rfl) ?_
  refine pl_val (.bool (decide (k20 < (a_.2.length : Int)))) (y_lss rfl rfl) ?_
  refine c_nil ?_
  refine c_condT (congrArg Value.bool (decide_eq_true hlt)) ?_
  refine wp_skip ?_
  refine c_seq ?_
  refine wp_block ?_
  refine c_seq ?_
  refine x_start [] Mx rfl ?_
  have a6 := Chg.drew a1
  generalize World.drew a1 = c2 at a6 ⊢
  have h0 := h0.ext a6
  have a0 := a0.cn a6
  have hC := hC.ext a6
  have hO := hO.ext a6
  have hS := Chg.refl [] c2
  refine x_p 0 (.pointer (some ⟨a2, 0, none⟩)) rfl (by kernel_rfl)  (fun _ => y_faddr rfl Fa30x0) (fun _ => hS) ?_
  refine x_l 1 (.int .i64 a_.1) rfl (by kernel_rfl)  (fun w' hw' => y_load rfl ((box_load Ag3 Sz3 a0 [] [(.int .i64 a_.1)] [(.slice pa0 pn0 pc0)] rfl rfl (fun _ => rfl)) w' hw')) hS ?_
  refine x_p 2 (.pointer (some ⟨a2, 1, none⟩)) rfl (by kernel_rfl)  (fun _ => y_faddr rfl Fa30x1) (fun _ => hS) ?_
  refine x_l 3 (.slice pa0 pn0 pc0) rfl (by kernel_rfl)  (fun w' hw' => y_load rfl ((box_load Ag26 Sz26 a0 [(.int .i64 a_.1)] [(.slice pa0 pn0 pc0)] [] rfl rfl (fun _ => rfl)) w' hw')) hS ?_
  refine x_p 4 (.int .i64 k20) rfl (by kernel_rfl)  (fun _ => y_move rfl) (fun _ => hS) ?_
  obtain ⟨x25, c3, hs⟩ := bind_some hs
  obtain ⟨c4, c5, c6, b1⟩ := rs_idx Sl26 Sz64 h0 c3
  refine x_p 5 (.pointer (some ⟨c4, c5, none⟩)) rfl (by kernel_rfl)  (fun _ => c6 _ _ _ _ _ _ _ _ _ rfl rfl) (fun _ => hS) ?_
  obtain ⟨d7, c7, c8⟩ := at_load Ag64 Sz64 (by intro h; cases h) b1
  obtain ⟨d8, rfl, c9⟩ := c8
  obtain ⟨d9, e0, rfl, d0, d1⟩ := pr_open c9
  obtain rfl := int_rel d0
  obtain ⟨d2, d3, d4, rfl, b2⟩ := rs_rel d1
  refine x_l 6 (.agg #[(.int .i64 x25.1), (.slice d2 d3 d4)]) rfl (by kernel_rfl)  (fun w' hw' => y_load rfl (c7 w' hw')) hS ?_
  refine x_one (i := 7) (by kernel_rfl) ?_
  obtain ⟨r30, d5, hs⟩ := bind_some hs
  refine xk_call (b := false) rfl  Bd94 rfl (c_spec_l2Op (M := M) a_.1 (x25.1, x25.2) b2 hO.fut d5) rfl (by rintro _ _ _ ⟨rfl, a4⟩; exact hS.ext a4) ?_
  rintro _ e1 ⟨rfl, a4⟩
  have h0 := h0.ext a4
  have a0 := a0.cn a4
  have b2 := b2.ext a4
  have b1 := at_ext b1 a4
  have hC := hC.ext a4
  have hO := hO.ext a4
  have hS := hS.ext a4
  refine x_p 8 (.bool (!r30)) rfl (by kernel_rfl)  (fun _ => y_not rfl) (fun _ => hS) ?_
  refine x_end (by kernel_rfl) ?_
  clear hS
  rcases bif_some hs with ⟨b3, hs⟩ | ⟨b3, hs⟩
  ·refine c_condT (congrArg Value.bool b3) ?_
   refine c_sr ?_
   refine pl_val (.bool false) (y_assign rfl) ?_
   refine c_nil ?_
   refine wp_ret ?_
   cases hs
   exact ⟨_, fr_ovl 30 ⟨rfl, trivial⟩, hC⟩
  refine c_condF (congrArg Value.bool b3) ?_
  refine wp_skip ?_
  refine c_region ?_
  refine pl_val (.int .i64 k20) (y_move rfl) ?_
  refine pl_val (.int .i64 (w64 (k20 + 1))) (y_add rfl rfl) ?_
  refine pl_val (.int .i64 (w64 (k20 + 1))) (y_assign rfl) ?_
  refine c_nil ?_
  cases hs
  exact ⟨_, fr_ovl 30 ⟨rfl, congrArg (Value.int .i64) hw, trivial⟩, hC, hO, h0, a0⟩
 ·skip
  exact ⟨_, fr_ovl 30 ⟨rfl, rfl, trivial⟩, hC, hO, h0, a0⟩
 cases o22 with
 | nx _ => exact True.intro
 | rt r_ =>
  have hs := after_rt hs
  intro b6 b7 hK
  cases hs
  exact hK
 | br s18 =>
  have hs := after_br hs
  rintro b6 a1 ⟨σ, rfl, hC, hO, h0, a0⟩
  refine c_sr ?_
  refine pl_val (.bool true) (y_assign rfl) ?_
  refine c_nil ?_
  refine wp_ret ?_
  cases hs
  exact ⟨_, fr_ovl 30 ⟨rfl, trivial⟩, hC⟩

def k_spec_l2Args (M : Nat → Prop) (w0 : World) (r : (List Int)) (a : Act) (w : World) : Prop :=
  ∃ (σ : Nat → Value) (ra0 : Option Addr) (rn0 rc0 : Nat) (rf0 : List Nat), a = fr 27 (ovl σ [(6, (.slice ra0 rn0 rc0))]) ∧ Chg [] w0 w ∧ (RT.os 3 (RT.int .i64)).val M w (.slice ra0 rn0 rc0) r rf0 ∧ Own (Nw w0 []) (fun _ => True) w (rf0 ++ ([]))
def s_spec_l2Args (n : Int) (arity : Int) (at_ : Int) : Option ((List Int)) :=
  (mks arity (0 : Int)).bind fun y2 =>
  (iter (S := Int × Int × (List Int)) (R := (List Int)) (fun s17 =>
  (bif (decide (0 ≤ s17.2.1)) then (nz n).bind fun u26 =>
  (idx s17.2.2 s17.2.1).bind fun x27 =>
  (nz n).bind fun u30 =>
  some (.nx (w64 (Int.tdiv s17.1 n), w64 (s17.2.1 - 1), List.set s17.2.2 (Int.toNat s17.2.1) (Int.tmod s17.1 n))) else some (.br (s17.1, s17.2.1, s17.2.2)))) FU (at_, w64 (arity - 1), y2)).bind fun o21 => after o21 (fun r_ => some r_) (fun s17 =>
  some s17.2.2)
set_option maxHeartbeats 4000000 in
theorem c_spec_l2Args {M : Nat → Prop} {w : World}  (n : Int) (arity : Int) (at_ : Int)  (hM : ∀ g, w.heap.size ≤ g → M g) {r : (List Int)} (hs : s_spec_l2Args n arity at_ = some r) :
    Gives Try.prog 92 [(.int .i64 n), (.int .i64 arity), (.int .i64 at_)] w (fun v w' => ∃ (ra0 : Option Addr) (rn0 rc0 : Nat) (rf0 : List Nat), v = (.slice ra0 rn0 rc0) ∧ Chg [] w w' ∧ (RT.os 3 (RT.int .i64)).val M w' (.slice ra0 rn0 rc0) r rf0 ∧ Own (Nw w []) (fun _ => True) w' (rf0 ++ ([]))) := by
 refine calls_fr Try.func92 rfl Try.ntmps92 (Nat.le_of_ble_eq_true rfl) ?_
 have hO := Own.start (N := Nw w []) hM Nw.fut
 have hC := Chg.refl [] w
 unfold s_spec_l2Args at hs
 refine wp_mono (Q := KPost (k_spec_l2Args M w r)) ?_ (fun e a a7 h => ?_)
 rotate_left
 ·cases e
  case ret =>
   obtain ⟨σ, ra0, rn0, rc0, rf0, rfl, hrest⟩ := h
   exact ret1x Try.results92 (res_tmp rfl) ⟨ra0, rn0, rc0, rf0, rfl, hrest⟩
  all_goals exact (h : False).elim
 refine c_sr ?_
 refine pl_val (.slice none 0 0) (y_assign rfl) ?_
 refine c_nil ?_
 refine c_sr ?_
 refine pl_val (.int .i64 arity) (y_move rfl) ?_
 obtain ⟨y2, b5, hs⟩ := bind_some hs
 obtain ⟨a0, a1, a2, a7, b6, b7, b1, b8, a8⟩ := mk_os (M := M) (w := w) (r := (RT.int .i64)) Rw37 b5 (fun _ _ => ⟨rfl, rfl⟩)
 refine pl_val (w' := a7) (.slice a0 a1 a2) (y_make rfl rfl b7) ?_
 have hC := hC.ext b1
 have hO := hO.new b1 b8 (os_nodup a8) a8.fpl
 refine pl_val (.slice a0 a1 a2) (y_assign rfl) ?_
 refine c_nil ?_
 refine c_seq ?_
 refine c_sr ?_
 refine pl_val (.int .i64 arity) (y_move rfl) ?_
 refine pl_val (.int .i64 (w64 (arity - 1))) (y_sub rfl rfl) ?_
 refine pl_val (.int .i64 (w64 (arity - 1))) (y_assign rfl) ?_
 refine c_nil ?_
 obtain ⟨o21, b9, hs⟩ := bind_some hs
 refine wp_block ?_
 refine wp_iter (id := 0) (I := fun s17 a a3 => ∃ (σ : Nat → Value) (a4 : List Nat), a = fr 27 (ovl σ [(0, (.int .i64 n)), (2, (.int .i64 s17.1)), (7, (.slice a0 a1 a2)), (8, (.int .i64 s17.2.1))]) ∧ Chg [] w a3 ∧ Own (Nw w []) M a3 (a4 ++ []) ∧ (RT.os 3 (RT.int .i64)).val M a3 (.slice a0 a1 a2) s17.2.2 a4) (J := fun s17 a a3 => ∃ (σ : Nat → Value) (a6 : List Nat), a = fr 27 (ovl σ [(7, (.slice a0 a1 a2))]) ∧ Chg [] w a3 ∧ Own (Nw w []) M a3 (a6 ++ []) ∧ (RT.os 3 (RT.int .i64)).val M a3 (.slice a0 a1 a2) s17.2.2 a6) (K := (k_spec_l2Args M w)) ?_ FU (at_, w64 (arity - 1), y2) o21 _ _ ?_ b9 ?_
 ·rintro s17 o21 a a3 ⟨σ, a4, rfl, hC, hO, a5⟩ hs
  refine c_seq ?_
  refine c_sr ?_
  refine pl_val (.int .i64 s17.2.1) (y_move rfl) ?_
  refine pl_val (.bool (decide (0 ≤ s17.2.1))) (y_geq rfl rfl) ?_
  refine c_nil ?_
  rcases bif_some hs with ⟨a9, hs⟩ | ⟨a9, hs⟩
  ·refine c_condT (congrArg Value.bool a9) ?_
   refine wp_skip ?_
   refine c_seq ?_
   refine wp_block ?_
   refine c_sr ?_
   refine pl_val (.slice a0 a1 a2) (y_move rfl) ?_
   refine pl_val (.int .i64 s17.2.1) (y_move rfl) ?_
   refine pl_val (.int .i64 s17.1) (y_move rfl) ?_
   refine pl_val (.int .i64 n) (y_move rfl) ?_
   obtain ⟨u26, c0, hs⟩ := bind_some hs
   refine pl_val (.int .i64 (Int.tmod s17.1 n)) (y_rem rfl rfl (nz_ne c0)) ?_
   obtain ⟨x27, c1, hs⟩ := bind_some hs
   obtain ⟨b2, d1, b3, c2, c3, d2, d3⟩ := os_idx Sl37 Sz3 a5 c1
   refine pl_val (.pointer (some ⟨b2, 0 + Int.toNat s17.2.1 * 1, none⟩)) (c3 _ _ _ _ _ _ _ _ _ rfl rfl) ?_
   obtain ⟨c4, c5, c6, b4, c7, b0⟩ := os_store (P := Try.prog) (c' := [(.int .i64 (Int.tmod s17.1 n))]) b3 a5 c2 (fun g hg => hO.inM g (os_block a5 g (by simpa using hg))) ⟨rfl, rfl⟩ List.nodup_nil (fun _ h => nomatch h) (fun _ h => .inl h)
   have c8 : ∀ q ∈ [b2], q ∈ a4 := fun q hq => os_block a5 q (by rw [b3]; exact hq)
   refine pl_skip (w' := c4) (ys_store rfl rfl (c6 _ _ rfl Sz3)) ?_
   have hC := hC.st b4 hO c8
   have hO := hO.grow b4 (fun q hq => .inl ((c7 q hq).resolve_right (fun h => nomatch h))) (os_nodup b0) b0.fpl
   refine c_nil ?_
   refine c_region ?_
   refine pl_val (.int .i64 s17.1) (y_move rfl) ?_
   refine pl_val (.int .i64 n) (y_move rfl) ?_
   obtain ⟨u30, c9, hs⟩ := bind_some hs
   refine pl_val (.int .i64 (w64 (Int.tdiv s17.1 n))) (y_quo rfl rfl (nz_ne c9)) ?_
   refine pl_val (.int .i64 (w64 (Int.tdiv s17.1 n))) (y_assign rfl) ?_
   refine c_nil ?_
   refine c_region ?_
   refine pl_val (.int .i64 s17.2.1) (y_move rfl) ?_
   refine pl_val (.int .i64 (w64 (s17.2.1 - 1))) (y_sub rfl rfl) ?_
   refine pl_val (.int .i64 (w64 (s17.2.1 - 1))) (y_assign rfl) ?_
   refine c_nil ?_
   cases hs
   exact ⟨_, c5, fr_ovl 27 ⟨rfl, rfl, rfl, rfl, trivial⟩, hC, hO, b0⟩
  refine c_condF (congrArg Value.bool a9) ?_
  refine wp_exit ?_
  cases hs
  exact ⟨rfl, _, a4, fr_ovl 27 ⟨rfl, trivial⟩, hC, hO, a5⟩
 ·skip
  exact ⟨_, b6, fr_ovl 27 ⟨rfl, rfl, rfl, rfl, trivial⟩, hC, hO, a8⟩
 cases o21 with
 | nx _ => exact True.intro
 | rt r_ =>
  have hs := after_rt hs
  intro a0 a7 hK
  cases hs
  exact hK
 | br s17 =>
  have hs := after_br hs
  rintro a0 a3 ⟨σ, a6, rfl, hC, hO, d0⟩
  refine c_sr ?_
  refine pl_val (.slice a0 a1 a2) (y_move rfl) ?_
  refine pl_val (.slice a0 a1 a2) (y_assign rfl) ?_
  refine c_nil ?_
  refine wp_ret ?_
  cases hs
  exact ⟨_, a0, a1, a2, a6, fr_ovl 27 ⟨rfl, trivial⟩, hC, d0, hO.top⟩

theorem Bd92 : Bodied Try.prog 92 := bodied Try.func92 (by kernel_rfl) rfl

def k_spec_l12Projection (M : Nat → Prop) (w0 : World) (r : (List Int)) (a : Act) (w : World) : Prop :=
  ∃ (σ : Nat → Value) (ra0 : Option Addr) (rn0 rc0 : Nat) (rf0 : List Nat), a = fr 28 (ovl σ [(6, (.slice ra0 rn0 rc0))]) ∧ Chg [] w0 w ∧ (RT.os 3 (RT.int .i64)).val M w (.slice ra0 rn0 rc0) r rf0 ∧ Own (Nw w0 []) (fun _ => True) w (rf0 ++ ([]))
def s_spec_l12Projection (n : Int) (k : Int) (place : Int) : Option ((List Int)) :=
  (iter (S := (List Int) × Int) (R := (List Int)) (fun s18 =>
  (s_spec_l2Pow n k).bind fun r29 =>
  (bif (decide (s18.2 < r29)) then (s_spec_l2Args n k s18.2).bind fun r32 =>
  (idx r32 place).bind fun x34 =>
  (app s18.1 ([x34])).bind fun y39 =>
  some (.nx (y39, w64 (s18.2 + 1))) else some (.br (s18.1, s18.2)))) FU ([], 0)).bind fun o22 => after o22 (fun r_ => some r_) (fun s18 =>
  some s18.1)
set_option maxHeartbeats 4000000 in
theorem c_spec_l12Projection {M : Nat → Prop} {w : World}  (n : Int) (k : Int) (place : Int)  (hM : ∀ g, w.heap.size ≤ g → M g) {r : (List Int)} (hs : s_spec_l12Projection n k place = some r) :
    Gives Try.prog 57 [(.int .i64 n), (.int .i64 k), (.int .i64 place)] w (fun v w' => ∃ (ra0 : Option Addr) (rn0 rc0 : Nat) (rf0 : List Nat), v = (.slice ra0 rn0 rc0) ∧ Chg [] w w' ∧ (RT.os 3 (RT.int .i64)).val M w' (.slice ra0 rn0 rc0) r rf0 ∧ Own (Nw w []) (fun _ => True) w' (rf0 ++ ([]))) := by
 refine calls_fr Try.func57 rfl Try.ntmps57 (Nat.le_of_ble_eq_true rfl) ?_
 have hO := Own.start (N := Nw w []) hM Nw.fut
 have hC := Chg.refl [] w
 unfold s_spec_l12Projection at hs
 refine wp_mono (Q := KPost (k_spec_l12Projection M w r)) ?_ (fun e a b2 h => ?_)
 rotate_left
 ·cases e
  case ret =>
   obtain ⟨σ, ra0, rn0, rc0, rf0, rfl, hrest⟩ := h
   exact ret1x Try.results57 (res_tmp rfl) ⟨ra0, rn0, rc0, rf0, rfl, hrest⟩
  all_goals exact (h : False).elim
 refine c_sr ?_
 refine pl_val (.slice none 0 0) (y_assign rfl) ?_
 refine c_nil ?_
 refine c_sr ?_
 obtain ⟨b2, a2, d3, c6, c7, c8⟩ := new_block w [] 3
 refine pl_val (w' := b2) (.slice (some ⟨a2, 0, none⟩) 0 0) (y_bslice rfl (by rw [d3, c6]; kernel_rfl)) ?_
 have hC := hC.ext c7
 have hO := hO.new1 c7 c6 c8.lt
 have b4 := os_of_box (r := (RT.int .i64)) (M := M) (css := []) (fps := []) (xs := ([] : List Int)) c8 trivial (Nat.zero_le _) (List.nodup_cons.2 ⟨(fun h => nomatch h), List.nodup_nil⟩)
 have b4 : (RT.os 3 (RT.int .i64)).val M b2 (.slice (some ⟨a2, 0, none⟩) 0 0) [] [a2] := b4
 refine pl_val (.slice (some ⟨a2, 0, none⟩) 0 0) (y_assign rfl) ?_
 refine c_nil ?_
 refine c_seq ?_
 refine c_sr ?_
 refine pl_val (.int .i64 0) (y_assign rfl) ?_
 refine c_nil ?_
 obtain ⟨o22, d4, hs⟩ := bind_some hs
 refine wp_block ?_
 refine wp_iter (id := 0) (I := fun s18 a a0 => ∃ (σ : Nat → Value) (a6 : Option Addr) (a7 : Nat) (a8 : Nat) (a9 : List Nat), a = fr 28 (ovl σ [(0, (.int .i64 n)), (1, (.int .i64 k)), (2, (.int .i64 place)), (7, (.slice a6 a7 a8)), (8, (.int .i64 s18.2))]) ∧ Chg [] w a0 ∧ Own (Nw w []) M a0 (a9 ++ []) ∧ (RT.os 3 (RT.int .i64)).val M a0 (.slice a6 a7 a8) s18.1 a9) (J := fun s18 a a0 => ∃ (σ : Nat → Value) (a3 : Option Addr) (a4 : Nat) (a5 : Nat) (b3 : List Nat), a = fr 28 (ovl σ [(7, (.slice a3 a4 a5))]) ∧ Chg [] w a0 ∧ Own (Nw w []) M a0 (b3 ++ []) ∧ (RT.os 3 (RT.int .i64)).val M a0 (.slice a3 a4 a5) s18.1 b3) (K := (k_spec_l12Projection M w)) ?_ FU ([], 0) o22 _ _ ?_ d4 ?_
 ·rintro s18 o22 a a0 ⟨σ, a6, a7, a8, a9, rfl, hC, hO, a1⟩ hs
  refine c_seq ?_
  refine c_sr ?_
  refine pl_val (.int .i64 s18.2) (y_move rfl) ?_
  refine pl_val (.int .i64 n) (y_move rfl) ?_
  refine pl_val (.int .i64 k) (y_move rfl) ?_
  obtain ⟨r29, d5, hs⟩ := bind_some hs
  refine pl_call Bd91 rfl (c_spec_l2Pow (M := M) n k  hO.fut d5) ?_
  rintro _ f1 ⟨rfl, b5⟩
  have a1 := a1.ext b5
  have hC := hC.ext b5
  have hO := hO.ext b5
  refine pl_val (.bool (decide (s18.2 < r29))) (y_lss rfl rfl) ?_
  refine c_nil ?_
  rcases bif_some hs with ⟨b6, hs⟩ | ⟨b6, hs⟩
  ·refine c_condT (congrArg Value.bool b6) ?_
   refine wp_skip ?_
   refine c_seq ?_
   refine wp_block ?_
   refine c_region ?_
   refine pl_val (.slice a6 a7 a8) (y_move rfl) ?_
   refine pl_val (.int .i64 n) (y_move rfl) ?_
   refine pl_val (.int .i64 k) (y_move rfl) ?_
   refine pl_val (.int .i64 s18.2) (y_move rfl) ?_
   obtain ⟨r32, d6, hs⟩ := bind_some hs
   refine pl_call Bd92 rfl (c_spec_l2Args (M := M) n k s18.2  hO.fut d6) ?_
   rintro _ d7 ⟨f2, f3, f4, d8, rfl, b7, b0, d9⟩
   have a1 := a1.ext b7
   have hC := hC.ext b7
   have hO := Own.join0 hO b7 d9
   have hO := hO.perm (R := d8 ++ (a9 ++ ([]))) (by simp)
   refine pl_val (.int .i64 place) (y_move rfl) ?_
   obtain ⟨x34, e0, hs⟩ := bind_some hs
   obtain ⟨e1, f5, f6, f7, e2, b8, f8⟩ := os_idx Sl37 Sz3 b0 e0
   refine pl_val (.pointer (some ⟨e1, 0 + Int.toNat place * 1, none⟩)) (e2 _ _ _ _ _ _ _ _ _ rfl rfl) ?_
   refine pl_val (.int .i64 x34) (y_load rfl ((at_load_int Ag3 Sz3 b8) _ (Chg.refl _ _))) ?_
   obtain ⟨c9, b9, e3, d0, b1, d1⟩ := new_block d7 [(.int .i64 x34)] 3
   refine pl_val (w' := c9) (.slice (some ⟨b9, 0, none⟩) 1 1) (y_bslice rfl (by rw [e3, d0]; kernel_rfl)) ?_
   have a1 := a1.ext b1
   have b0 := b0.ext b1
   have b8 := at_ext b8 b1
   have hC := hC.ext b1
   have hO := hO.new1 b1 d0 d1.lt
   have c0 := os_of_box (r := (RT.int .i64)) (M := M) (css := [[(.int .i64 x34)]]) (fps := [([] : List Nat)]) (xs := ([x34] : List Int)) d1 ⟨⟨rfl, rfl⟩, trivial⟩ (Nat.le_of_ble_eq_true rfl) (List.nodup_cons.2 ⟨(fun h => nomatch h), List.nodup_nil⟩)
   have c0 : (RT.os 3 (RT.int .i64)).val M c9 (.slice (some ⟨b9, 0, none⟩) 1 1) [x34] [b9] := c0
   obtain ⟨y39, e4, hs⟩ := bind_some hs
   have hO := hO.fr2
   obtain ⟨c1, c2, c3, e5, e6, e7, c4, e8, c5⟩ := app_os Rw37 e4 a1 c0 hO.inM (fun g hg hq => hO.apart g hq (mem_l hg))
   have d2 := os_block a1
   refine pl_val (w' := e5) (.slice c1 c2 c3) (y_append rfl rfl (e7 _)) ?_
   have hO := hO.fr1
   have hO := hO.fr1
   have b0 := b0.ma c4 hO d2 (fun _ e => (mem_r (mem_l (e))))
   have hC := hC.st c4 hO d2
   have hO := hO.eat c4 e8 (os_nodup c5) c5.fpl
   refine pl_val (.slice c1 c2 c3) (y_assign rfl) ?_
   refine c_nil ?_
   refine c_region ?_
   refine pl_val (.int .i64 s18.2) (y_move rfl) ?_
   refine pl_val (.int .i64 (w64 (s18.2 + 1))) (y_add rfl rfl) ?_
   refine pl_val (.int .i64 (w64 (s18.2 + 1))) (y_assign rfl) ?_
   refine c_nil ?_
   cases hs
   have hO := hO.fr1
   have hO := hO.drop
   exact ⟨_, c1, c2, c3, e6, fr_ovl 28 ⟨rfl, rfl, rfl, rfl, rfl, trivial⟩, hC, hO, c5⟩
  refine c_condF (congrArg Value.bool b6) ?_
  refine wp_exit ?_
  cases hs
  exact ⟨rfl, _, a6, a7, a8, a9, fr_ovl 28 ⟨rfl, trivial⟩, hC, hO, a1⟩
 ·skip
  exact ⟨_, (some ⟨a2, 0, none⟩), 0, 0, ([a2]), fr_ovl 28 ⟨rfl, rfl, rfl, rfl, rfl, trivial⟩, hC, hO, b4⟩
 cases o22 with
 | nx _ => exact True.intro
 | rt r_ =>
  have hs := after_rt hs
  intro e9 b2 hK
  cases hs
  exact hK
 | br s18 =>
  have hs := after_br hs
  rintro e9 a0 ⟨σ, a3, a4, a5, b3, rfl, hC, hO, f0⟩
  refine c_sr ?_
  refine pl_val (.slice a3 a4 a5) (y_move rfl) ?_
  refine pl_val (.slice a3 a4 a5) (y_assign rfl) ?_
  refine c_nil ?_
  refine wp_ret ?_
  cases hs
  exact ⟨_, a3, a4, a5, b3, fr_ovl 28 ⟨rfl, trivial⟩, hC, f0, hO.top⟩

def k_spec_l1Same (M : Nat → Prop) (w0 : World) (r : Bool) (a : Act) (w : World) : Prop :=
  ∃ (σ : Nat → Value) , a = fr 26 (ovl σ [(4, (.bool r))]) ∧ Chg [] w0 w
def s_spec_l1Same (a_ : List Int) (b : List Int) : Option (Bool) :=
  (bif ((a_.length : Int) != (b.length : Int)) then some false else (forC (S := Unit) (R := Bool) (fun k12 s10 =>
  (idx a_ k12).bind fun x17 =>
  (idx b k12).bind fun x19 =>
  (bif (x17 != x19) then some (.rt false) else some (.nx ()))) 0 (a_.length : Int) ()).bind fun o14 => after o14 (fun r_ => some r_) (fun s10 =>
  some true))
set_option maxHeartbeats 4000000 in
theorem c_spec_l1Same {M : Nat → Prop} {w : World} {pa0 : Option Addr} {pn0 pc0 : Nat} {pa1 : Option Addr} {pn1 pc1 : Nat} (a_ : List Int) (b : List Int) (h0 : (RT.rs (RT.int .i64)).val M w (.slice pa0 pn0 pc0) a_ ([])) (h1 : (RT.rs (RT.int .i64)).val M w (.slice pa1 pn1 pc1) b ([])) (hM : ∀ g, w.heap.size ≤ g → M g) {r : Bool} (hs : s_spec_l1Same a_ b = some r) :
    Gives Try.prog 66 [(.slice pa0 pn0 pc0), (.slice pa1 pn1 pc1)] w (fun v w' => v = (.bool r) ∧ Chg [] w w') := by
 refine calls_fr Try.func66 rfl Try.ntmps66 (Nat.le_of_ble_eq_true rfl) ?_
 have hO := Own.start (N := Nw w []) hM Nw.fut
 have hC := Chg.refl [] w
 unfold s_spec_l1Same at hs
 refine wp_mono (Q := KPost (k_spec_l1Same M w r)) ?_ (fun e a a4 h => ?_)
 rotate_left
 ·cases e
  case ret =>
   obtain ⟨σ, rfl, hrest⟩ := h
   exact ret1x Try.results66 (res_tmp rfl) ⟨rfl, hrest⟩
  all_goals exact (h : False).elim
 refine c_sr ?_
 refine pl_val (.bool false) (y_assign rfl) ?_
 refine c_nil ?_
 refine c_seq ?_
 refine c_sr ?_
 refine pl_val (.slice pa0 pn0 pc0) (y_move rfl) ?_
 refine pl_val (.int .i64 (a_.length : Int)) (y_len' Sl37 (rs_len h0) rfl) ?_
 refine pl_val (.slice pa1 pn1 pc1) (y_move rfl) ?_
 refine pl_val (.int .i64 (b.length : Int)) (y_len' Sl37 (rs_len h1) rfl) ?_
 refine pl_val (.bool ((a_.length : Int) != (b.length : Int))) (y_neq rfl rfl) ?_
 refine c_nil ?_
 rcases bif_some hs with ⟨a2, hs⟩ | ⟨a2, hs⟩
 ·refine c_condT (congrArg Value.bool a2) ?_
  refine c_sr ?_
  refine pl_val (.bool false) (y_assign rfl) ?_
  refine c_nil ?_
  refine wp_ret ?_
  cases hs
  exact ⟨_, fr_ovl 26 ⟨rfl, trivial⟩, hC⟩
 refine c_condF (congrArg Value.bool a2) ?_
 refine wp_skip ?_
 refine c_seq ?_
 refine c_sr ?_
 refine pl_val (.int .i64 0) (y_assign rfl) ?_
 refine c_nil ?_
 obtain ⟨o14, a5, hs⟩ := bind_some hs
 refine wp_block ?_
 refine wp_forC (id := 0) (a_.length : Int) (I := fun k12 s10 a a0 => ∃ (σ : Nat → Value), a = fr 26 (ovl σ [(0, (.slice pa0 pn0 pc0)), (1, (.slice pa1 pn1 pc1)), (5, (.int .i64 k12))]) ∧ Chg [] w a0 ∧ Own (Nw w []) M a0 ([]) ∧ (RT.rs (RT.int .i64)).val M a0 (.slice pa0 pn0 pc0) a_ ([]) ∧ (RT.rs (RT.int .i64)).val M a0 (.slice pa1 pn1 pc1) b ([])) (J := fun s10 a a0 => ∃ (σ : Nat → Value), a = fr 26 (ovl σ []) ∧ Chg [] w a0 ∧ Own (Nw w []) M a0 ([]) ∧ (RT.rs (RT.int .i64)).val M a0 (.slice pa0 pn0 pc0) a_ ([]) ∧ (RT.rs (RT.int .i64)).val M a0 (.slice pa1 pn1 pc1) b ([])) (K := (k_spec_l1Same M w)) ?_ ?_ 0 () o14 _ _ ?_ a5 ?_
 ·rintro k12 s10 a a0 ⟨σ, rfl, hC, hO, h0, h1⟩ hlt
  refine c_seq ?_
  refine c_sr ?_
  refine pl_val (.int .i64 k12) (y_move rfl) ?_
  refine pl_val (.slice pa0 pn0 pc0) (y_move rfl) ?_
  refine pl_val (.int .i64 (a_.length : Int)) (y_len' Sl37 (rs_len h0) rfl) ?_
  refine pl_val (.bool (decide (k12 < (a_.length : Int)))) (y_lss rfl rfl) ?_
  refine c_nil ?_
  refine c_condF (congrArg Value.bool (decide_eq_false hlt)) ?_
  refine wp_exit ?_
  exact ⟨rfl, _, fr_ovl 26 trivial, hC, hO, h0, h1⟩
 ·rintro k12 s10 o14 a a0 ⟨σ, rfl, hC, hO, h0, h1⟩ hlt hw hs
  refine c_seq ?_
  refine c_sr ?_
  refine pl_val (.int .i64 k12) (y_move rfl) ?_
  refine pl_val (.slice pa0 pn0 pc0) (y_move rfl) ?_
  refine pl_val (.int .i64 (a_.length : Int)) (y_len' Sl37 (rs_len h0) rfl) ?_
  refine pl_val (.bool (decide (k12 < (a_.length : Int)))) (y_lss rfl rfl) ?_
  refine c_nil ?_
  refine c_condT (congrArg Value.bool (decide_eq_true hlt)) ?_
  refine wp_skip ?_
  refine c_seq ?_
  refine wp_block ?_
  refine c_seq ?_
  refine x_start [] Mx rfl ?_
  have a1 := Chg.drew a0
  generalize World.drew a0 = a6 at a1 ⊢
  have h0 := h0.ext a1
  have h1 := h1.ext a1
  have hC := hC.ext a1
  have hO := hO.ext a1
  have hS := Chg.refl [] a6
  refine x_p 0 (.slice pa0 pn0 pc0) rfl (by kernel_rfl)  (fun _ => y_move rfl) (fun _ => hS) ?_
  refine x_p 1 (.int .i64 k12) rfl (by kernel_rfl)  (fun _ => y_move rfl) (fun _ => hS) ?_
  obtain ⟨x17, a7, hs⟩ := bind_some hs
  obtain ⟨a8, a9, b0, b1⟩ := rs_idx Sl37 Sz3 h0 a7
  refine x_p 2 (.pointer (some ⟨a8, a9, none⟩)) rfl (by kernel_rfl)  (fun _ => b0 _ _ _ _ _ _ _ _ _ rfl rfl) (fun _ => hS) ?_
  refine x_l 3 (.int .i64 x17) rfl (by kernel_rfl)  (fun w' hw' => y_load rfl ((at_load_int Ag3 Sz3 b1) w' hw')) hS ?_
  refine x_p 4 (.slice pa1 pn1 pc1) rfl (by kernel_rfl)  (fun _ => y_move rfl) (fun _ => hS) ?_
  refine x_p 5 (.int .i64 k12) rfl (by kernel_rfl)  (fun _ => y_move rfl) (fun _ => hS) ?_
  obtain ⟨x19, b2, hs⟩ := bind_some hs
  obtain ⟨b3, b4, b5, b6⟩ := rs_idx Sl37 Sz3 h1 b2
  refine x_p 6 (.pointer (some ⟨b3, b4, none⟩)) rfl (by kernel_rfl)  (fun _ => b5 _ _ _ _ _ _ _ _ _ rfl rfl) (fun _ => hS) ?_
  refine x_l 7 (.int .i64 x19) rfl (by kernel_rfl)  (fun w' hw' => y_load rfl ((at_load_int Ag3 Sz3 b6) w' hw')) hS ?_
  refine x_p 8 (.bool (x17 != x19)) rfl (by kernel_rfl)  (fun _ => y_neq rfl rfl) (fun _ => hS) ?_
  refine x_end (by kernel_rfl) ?_
  clear hS
  rcases bif_some hs with ⟨a3, hs⟩ | ⟨a3, hs⟩
  ·refine c_condT (congrArg Value.bool a3) ?_
   refine c_sr ?_
   refine pl_val (.bool false) (y_assign rfl) ?_
   refine c_nil ?_
   refine wp_ret ?_
   cases hs
   exact ⟨_, fr_ovl 26 ⟨rfl, trivial⟩, hC⟩
  refine c_condF (congrArg Value.bool a3) ?_
  refine wp_skip ?_
  refine c_region ?_
  refine pl_val (.int .i64 k12) (y_move rfl) ?_
  refine pl_val (.int .i64 (w64 (k12 + 1))) (y_add rfl rfl) ?_
  refine pl_val (.int .i64 (w64 (k12 + 1))) (y_assign rfl) ?_
  refine c_nil ?_
  cases hs
  exact ⟨_, fr_ovl 26 ⟨rfl, rfl, congrArg (Value.int .i64) hw, trivial⟩, hC, hO, h0, h1⟩
 ·skip
  exact ⟨_, fr_ovl 26 ⟨rfl, rfl, rfl, trivial⟩, hC, hO, h0, h1⟩
 cases o14 with
 | nx _ => exact True.intro
 | rt r_ =>
  have hs := after_rt hs
  intro b7 a4 hK
  cases hs
  exact hK
 | br s10 =>
  have hs := after_br hs
  rintro b7 a0 ⟨σ, rfl, hC, hO, h0, h1⟩
  refine c_sr ?_
  refine pl_val (.bool true) (y_assign rfl) ?_
  refine c_nil ?_
  refine wp_ret ?_
  cases hs
  exact ⟨_, fr_ovl 26 ⟨rfl, trivial⟩, hC⟩

theorem Sl47 : SlT Try.prog 47 37 := Try.underlying47

theorem Bd66 : Bodied Try.prog 66 := bodied Try.func66 (by kernel_rfl) rfl

def k_spec_l12Place (M : Nat → Prop) (w0 : World) (r : Int) (a : Act) (w : World) : Prop :=
  ∃ (σ : Nat → Value) , a = fr 19 (ovl σ [(4, (.int .i64 r))]) ∧ Chg [] w0 w
def s_spec_l12Place (tables : List (List Int)) (t : List Int) : Option (Int) :=
  (forC (S := Unit) (R := Int) (fun k12 s10 =>
  (idx tables k12).bind fun x16 =>
  (s_spec_l1Same x16 t).bind fun r21 =>
  (bif r21 then some (.rt k12) else some (.nx ()))) 0 (tables.length : Int) ()).bind fun o14 => after o14 (fun r_ => some r_) (fun s10 =>
  some (-1))
set_option maxHeartbeats 4000000 in
theorem c_spec_l12Place {M : Nat → Prop} {w : World} {pa0 : Option Addr} {pn0 pc0 : Nat} {pa1 : Option Addr} {pn1 pc1 : Nat} (tables : List (List Int)) (t : List Int) (h0 : (RT.rs (RT.rs (RT.int .i64))).val M w (.slice pa0 pn0 pc0) tables ([])) (h1 : (RT.rs (RT.int .i64)).val M w (.slice pa1 pn1 pc1) t ([])) (hM : ∀ g, w.heap.size ≤ g → M g) {r : Int} (hs : s_spec_l12Place tables t = some r) :
    Gives Try.prog 56 [(.slice pa0 pn0 pc0), (.slice pa1 pn1 pc1)] w (fun v w' => v = (.int .i64 r) ∧ Chg [] w w') := by
 refine calls_fr Try.func56 rfl Try.ntmps56 (Nat.le_of_ble_eq_true rfl) ?_
 have hO := Own.start (N := Nw w []) hM Nw.fut
 have hC := Chg.refl [] w
 unfold s_spec_l12Place at hs
 refine wp_mono (Q := KPost (k_spec_l12Place M w r)) ?_ (fun e a a5 h => ?_)
 rotate_left
 ·cases e
  case ret =>
   obtain ⟨σ, rfl, hrest⟩ := h
   exact ret1x Try.results56 (res_tmp rfl) ⟨rfl, hrest⟩
  all_goals exact (h : False).elim
 refine c_sr ?_
 refine pl_val (.int .i64 0) (y_assign rfl) ?_
 refine c_nil ?_
 refine c_seq ?_
 refine c_sr ?_
 refine pl_val (.int .i64 0) (y_assign rfl) ?_
 refine c_nil ?_
 obtain ⟨o14, a6, hs⟩ := bind_some hs
 refine wp_block ?_
 refine wp_forC (id := 0) (tables.length : Int) (I := fun k12 s10 a a0 => ∃ (σ : Nat → Value), a = fr 19 (ovl σ [(0, (.slice pa0 pn0 pc0)), (1, (.slice pa1 pn1 pc1)), (5, (.int .i64 k12))]) ∧ Chg [] w a0 ∧ Own (Nw w []) M a0 ([]) ∧ (RT.rs (RT.rs (RT.int .i64))).val M a0 (.slice pa0 pn0 pc0) tables ([]) ∧ (RT.rs (RT.int .i64)).val M a0 (.slice pa1 pn1 pc1) t ([])) (J := fun s10 a a0 => ∃ (σ : Nat → Value), a = fr 19 (ovl σ []) ∧ Chg [] w a0 ∧ Own (Nw w []) M a0 ([]) ∧ (RT.rs (RT.rs (RT.int .i64))).val M a0 (.slice pa0 pn0 pc0) tables ([]) ∧ (RT.rs (RT.int .i64)).val M a0 (.slice pa1 pn1 pc1) t ([])) (K := (k_spec_l12Place M w)) ?_ ?_ 0 () o14 _ _ ?_ a6 ?_
 ·rintro k12 s10 a a0 ⟨σ, rfl, hC, hO, h0, h1⟩ hlt
  refine c_seq ?_
  refine c_sr ?_
  refine pl_val (.int .i64 k12) (y_move rfl) ?_
  refine pl_val (.slice pa0 pn0 pc0) (y_move rfl) ?_
  refine pl_val (.int .i64 (tables.length : Int)) (y_len' Sl47 (rs_len h0) rfl) ?_
  refine pl_val (.bool (decide (k12 < (tables.length : Int)))) (y_lss rfl rfl) ?_
  refine c_nil ?_
  refine c_condF (congrArg Value.bool (decide_eq_false hlt)) ?_
  refine wp_exit ?_
  exact ⟨rfl, _, fr_ovl 19 trivial, hC, hO, h0, h1⟩
 ·rintro k12 s10 o14 a a0 ⟨σ, rfl, hC, hO, h0, h1⟩ hlt hw hs
  refine c_seq ?_
  refine c_sr ?_
  refine pl_val (.int .i64 k12) (y_move rfl) ?_
  refine pl_val (.slice pa0 pn0 pc0) (y_move rfl) ?_
  refine pl_val (.int .i64 (tables.length : Int)) (y_len' Sl47 (rs_len h0) rfl) ?_
  refine pl_val (.bool (decide (k12 < (tables.length : Int)))) (y_lss rfl rfl) ?_
  refine c_nil ?_
  refine c_condT (congrArg Value.bool (decide_eq_true hlt)) ?_
  refine wp_skip ?_
  refine c_seq ?_
  refine wp_block ?_
  refine c_sr ?_
  refine pl_val (.slice pa0 pn0 pc0) (y_move rfl) ?_
  refine pl_val (.int .i64 k12) (y_move rfl) ?_
  obtain ⟨x16, a7, hs⟩ := bind_some hs
  obtain ⟨a8, a9, b0, a3⟩ := rs_idx Sl47 Sz37 h0 a7
  refine pl_val (.pointer (some ⟨a8, a9, none⟩)) (b0 _ _ _ _ _ _ _ _ _ rfl rfl) ?_
  obtain ⟨b7, b1, a2⟩ := at_load Ag37 Sz37 (fun _ => rfl) a3
  obtain ⟨b2, b3, b4, rfl⟩ := rs_sl a2
  refine pl_val (.slice b2 b3 b4) (y_load rfl (b1 _ (Chg.refl _ _))) ?_
  refine pl_val (.slice pa1 pn1 pc1) (y_move rfl) ?_
  obtain ⟨r21, b5, hs⟩ := bind_some hs
  refine pl_call Bd66 rfl (c_spec_l1Same (M := M) x16 t a2 h1 hO.fut b5) ?_
  rintro _ b8 ⟨rfl, a1⟩
  have h0 := h0.ext a1
  have h1 := h1.ext a1
  have a2 := a2.ext a1
  have a3 := at_ext a3 a1
  have hC := hC.ext a1
  have hO := hO.ext a1
  refine c_nil ?_
  rcases bif_some hs with ⟨a4, hs⟩ | ⟨a4, hs⟩
  ·refine c_condT (congrArg Value.bool a4) ?_
   refine c_sr ?_
   refine pl_val (.int .i64 k12) (y_move rfl) ?_
   refine pl_val (.int .i64 k12) (y_assign rfl) ?_
   refine c_nil ?_
   refine wp_ret ?_
   cases hs
   exact ⟨_, fr_ovl 19 ⟨rfl, trivial⟩, hC⟩
  refine c_condF (congrArg Value.bool a4) ?_
  refine wp_skip ?_
  refine c_region ?_
  refine pl_val (.int .i64 k12) (y_move rfl) ?_
  refine pl_val (.int .i64 (w64 (k12 + 1))) (y_add rfl rfl) ?_
  refine pl_val (.int .i64 (w64 (k12 + 1))) (y_assign rfl) ?_
  refine c_nil ?_
  cases hs
  exact ⟨_, fr_ovl 19 ⟨rfl, rfl, congrArg (Value.int .i64) hw, trivial⟩, hC, hO, h0, h1⟩
 ·skip
  exact ⟨_, fr_ovl 19 ⟨rfl, rfl, rfl, trivial⟩, hC, hO, h0, h1⟩
 cases o14 with
 | nx _ => exact True.intro
 | rt r_ =>
  have hs := after_rt hs
  intro b6 a5 hK
  cases hs
  exact hK
 | br s10 =>
  have hs := after_br hs
  rintro b6 a0 ⟨σ, rfl, hC, hO, h0, h1⟩
  refine c_sr ?_
  refine pl_val (.int .i64 (-1)) (y_assign rfl) ?_
  refine c_nil ?_
  refine wp_ret ?_
  cases hs
  exact ⟨_, fr_ovl 19 ⟨rfl, trivial⟩, hC⟩

theorem Ag89 : AggT Try.prog 89 true := fun _ => by kernel_rfl

theorem Sz89 : SzT Try.prog 89 3 := ⟨_, rfl, rfl⟩

theorem Fa89x2 : ∀ (a : Addr) (w : World), (Instr.fieldAt 89 (.pointer (some a)) 2).run Try.prog w = .ok (.pointer (some (a.add 2))) w := fun _ _ => by kernel_rfl

theorem Ag4 : AggT Try.prog 4 false := fun _ => by kernel_rfl

theorem Sz4 : SzT Try.prog 4 1 := ⟨_, rfl, rfl⟩

theorem Fa89x0 : ∀ (a : Addr) (w : World), (Instr.fieldAt 89 (.pointer (some a)) 0).run Try.prog w = .ok (.pointer (some (a.add 0))) w := fun _ _ => by kernel_rfl

theorem Ag47 : AggT Try.prog 47 false := fun _ => by kernel_rfl

theorem Sz47 : SzT Try.prog 47 1 := ⟨_, rfl, rfl⟩

theorem Bd56 : Bodied Try.prog 56 := bodied Try.func56 (by kernel_rfl) rfl

theorem Rw47 : RowT Try.prog 47 37 1 [(.slice none 0 0)] := ⟨Try.underlying47, ⟨_, _, rfl, rfl, rfl, rfl, by decide⟩, rfl, by decide⟩

theorem Fa89x1 : ∀ (a : Addr) (w : World), (Instr.fieldAt 89 (.pointer (some a)) 1).run Try.prog w = .ok (.pointer (some (a.add 1))) w := fun _ _ => by kernel_rfl

theorem Ag87 : AggT Try.prog 87 false := fun _ => by kernel_rfl

theorem Sz87 : SzT Try.prog 87 1 := ⟨_, rfl, rfl⟩

theorem Ag119 : AggT Try.prog 119 true := fun _ => by kernel_rfl

theorem Sz119 : SzT Try.prog 119 2 := ⟨_, rfl, rfl⟩

theorem Rw87 : RowT Try.prog 87 119 2 [(.int .i64 0), (.slice none 0 0)] := ⟨Try.underlying87, ⟨_, _, rfl, rfl, rfl, rfl, by decide⟩, rfl, by decide⟩

def k_spec_l12Add__take02 (M : Nat → Prop) (w0 : World) (qa0 : Option Addr) (qn0 qc0 : Nat) (qf0 : List Nat) (qa1 : Option Addr) (qn1 qc1 : Nat) (qf1 : List Nat) (qa2 : Option Addr) (qn2 qc2 : Nat) (qf2 : List Nat) (r : ((List (List Int)) × (List (Int × (List Int))) × Bool)) (a : Act) (w : World) : Prop :=
  ∃ (σ : Nat → Value) (rg6 : Nat) (ra0 : Option Addr) (rn0 rc0 : Nat) (rf0 : List Nat) (ra1 : Option Addr) (rn1 rc1 : Nat) (rf1 : List Nat), a = fr 36 (ovl σ [(6, (.pointer (some ⟨rg6, 0, none⟩)))]) ∧ BoxV w rg6 89 [(.slice ra0 rn0 rc0), (.slice ra1 rn1 rc1), (.bool r.2.2)] ∧ Chg (qf0 ++ (qf1 ++ (qf2 ++ ([])))) w0 w ∧ (RT.os 37 (RT.rs (RT.int .i64))).val (PastL M (qf0 ++ (qf1 ++ (qf2 ++ ([])))) w0 w (rf0 ++ (rf1 ++ ([])))) w (.slice ra0 rn0 rc0) r.1 rf0 ∧ (RT.os 119 (RT.pr (RT.int .i64) (RT.os 3 (RT.int .i64)))).val (PastL M (qf0 ++ (qf1 ++ (qf2 ++ ([])))) w0 w (rf0 ++ (rf1 ++ ([])))) w (.slice ra1 rn1 rc1) r.2.1 rf1 ∧ Own (Nw w0 (qf0 ++ (qf1 ++ (qf2 ++ ([]))))) (fun _ => True) w (rf0 ++ (rf1 ++ ([])))
def s_spec_l12Add__take02 (f : (List (List Int)) × (List (Int × (List Int))) × Bool) (table : List Int) (step : Int × (List Int)) : Option (((List (List Int)) × (List (Int × (List Int))) × Bool)) :=
  ((bif f.2.2 then some true else (s_spec_l12Place f.1 table).bind fun r13 =>
  some (decide (0 ≤ r13)))).bind fun s8 =>
  (bif s8 then some (f.1, f.2.1, f.2.2) else (bif ((f.1.length : Int) == 60) then some (f.1, f.2.1, true) else (app f.1 ([table])).bind fun y22 =>
  (app f.2.1 ([(step.1, step.2)])).bind fun y28 =>
  some (y22, y28, f.2.2)))
set_option maxHeartbeats 4000000 in
theorem c_spec_l12Add__take02 {M : Nat → Prop} {w : World} {pa0 : Option Addr} {pn0 pc0 : Nat} {pf0 : List Nat} {pa1 : Option Addr} {pn1 pc1 : Nat} {pf1 : List Nat} {pa2 : Option Addr} {pn2 pc2 : Nat} {pa3 : Option Addr} {pn3 pc3 : Nat} {pf3 : List Nat} (f : (List (List Int)) × (List (Int × (List Int))) × Bool) (table : List Int) (step : Int × (List Int)) (h0 : (RT.os 37 (RT.rs (RT.int .i64))).val M w (.slice pa0 pn0 pc0) f.1 pf0) (h1 : (RT.os 119 (RT.pr (RT.int .i64) (RT.os 3 (RT.int .i64)))).val M w (.slice pa1 pn1 pc1) f.2.1 pf1) (h2 : (RT.rs (RT.int .i64)).val M w (.slice pa2 pn2 pc2) table ([])) (h3 : (RT.os 3 (RT.int .i64)).val M w (.slice pa3 pn3 pc3) step.2 pf3) (hI : Own (Nw w (pf0 ++ (pf1 ++ (pf3 ++ ([]))))) M w (pf0 ++ (pf1 ++ (pf3 ++ ([]))))) (hM : ∀ g, w.heap.size ≤ g → M g) {r : ((List (List Int)) × (List (Int × (List Int))) × Bool)} (hs : s_spec_l12Add__take02 f table step = some r) :
    Gives Try.prog 115 [(.agg #[(.slice pa0 pn0 pc0), (.slice pa1 pn1 pc1), (.bool f.2.2)]), (.slice pa2 pn2 pc2), (.agg #[(.int .i64 step.1), (.slice pa3 pn3 pc3)])] w (fun v w' => ∃ (ra0 : Option Addr) (rn0 rc0 : Nat) (rf0 : List Nat) (ra1 : Option Addr) (rn1 rc1 : Nat) (rf1 : List Nat), v = (.agg #[(.slice ra0 rn0 rc0), (.slice ra1 rn1 rc1), (.bool r.2.2)]) ∧ Chg (pf0 ++ (pf1 ++ (pf3 ++ ([])))) w w' ∧ (RT.os 37 (RT.rs (RT.int .i64))).val (PastL M (pf0 ++ (pf1 ++ (pf3 ++ ([])))) w w' (rf0 ++ (rf1 ++ ([])))) w' (.slice ra0 rn0 rc0) r.1 rf0 ∧ (RT.os 119 (RT.pr (RT.int .i64) (RT.os 3 (RT.int .i64)))).val (PastL M (pf0 ++ (pf1 ++ (pf3 ++ ([])))) w w' (rf0 ++ (rf1 ++ ([])))) w' (.slice ra1 rn1 rc1) r.2.1 rf1 ∧ Own (Nw w (pf0 ++ (pf1 ++ (pf3 ++ ([]))))) (fun _ => True) w' (rf0 ++ (rf1 ++ ([])))) := by
 refine calls_fr Try.func115 rfl Try.ntmps115 (Nat.le_of_ble_eq_true rfl) ?_
 have hO := hI
 have hC := Chg.refl (pf0 ++ (pf1 ++ (pf3 ++ ([])))) w
 unfold s_spec_l12Add__take02 at hs
 refine wp_mono (Q := KPost (k_spec_l12Add__take02 M w pa0 pn0 pc0 pf0 pa1 pn1 pc1 pf1 pa3 pn3 pc3 pf3 r)) ?_ (fun e a j2 h => ?_)
 rotate_left
 ·cases e
  case ret =>
   obtain ⟨σ, rg6, ra0, rn0, rc0, rf0, ra1, rn1, rc1, rf1, rfl, hbrg6, hrest⟩ := h
   exact ret1x Try.results115 (res_cell rfl (box_load Ag89 Sz89 hbrg6 [] _ [] rfl rfl (fun h => nomatch h))) ⟨ra0, rn0, rc0, rf0, ra1, rn1, rc1, rf1, rfl, hrest⟩
  all_goals exact (h : False).elim
 refine c_sr ?_
 obtain ⟨e7, a3, g4, e8, c7, a1⟩ := new_block w [(.slice pa0 pn0 pc0), (.slice pa1 pn1 pc1), (.bool f.2.2)] 89
 refine pl_val (w' := e7) (.pointer (some ⟨a3, 0, none⟩)) (y_box rfl (by rw [g4, e8]; kernel_rfl)) ?_
 have h0 := h0.ext c7
 have h1 := h1.ext c7
 have h2 := h2.ext c7
 have h3 := h3.ext c7
 have hC := hC.ext c7
 have hO := hO.new1 c7 e8 a1.lt
 obtain ⟨e9, d5, g5, f0, c4, a0⟩ := new_block e7 [(.int .i64 step.1), (.slice pa3 pn3 pc3)] 119
 refine pl_val (w' := e9) (.pointer (some ⟨d5, 0, none⟩)) (y_box rfl (by rw [g5, f0]; kernel_rfl)) ?_
 have h0 := h0.ext c4
 have h1 := h1.ext c4
 have h2 := h2.ext c4
 have h3 := h3.ext c4
 have a1 := a1.cn c4
 have hC := hC.ext c4
 have hO := hO.new1 c4 f0 a0.lt
 obtain ⟨d6, b0, g6, f1, b3, a2⟩ := new_block e9 [(.slice none 0 0), (.slice none 0 0), (.bool false)] 89
 refine pl_val (w' := d6) (.pointer (some ⟨b0, 0, none⟩)) (y_alloc (by rw [g6, f1]; kernel_rfl)) ?_
 have h0 := h0.ext b3
 have h1 := h1.ext b3
 have h2 := h2.ext b3
 have h3 := h3.ext b3
 have a1 := a1.cn b3
 have a0 := a0.cn b3
 have hC := hC.ext b3
 have hO := hO.new1 b3 f1 a2.lt
 refine c_nil ?_
 refine c_seq ?_
 refine c_seq ?_
 obtain ⟨s8, g7, hs⟩ := bind_some hs
 refine c_mid (I := fun a d7 => ∃ (σ : Nat → Value), a = fr 36 (ovl σ [(1, (.slice pa2 pn2 pc2)), (3, (.pointer (some ⟨a3, 0, none⟩))), (5, (.pointer (some ⟨d5, 0, none⟩))), (6, (.pointer (some ⟨b0, 0, none⟩))), (15, (.bool s8))]) ∧ Chg [] d6 d7) ?_ ?_
 ·replace hs := g7
  have hMid := Chg.refl [] d6
  refine c_region ?_
  refine pl_val (.pointer (some ⟨a3, 2, none⟩)) (y_faddr rfl Fa89x2) ?_
  refine pl_val (.bool f.2.2) (y_load rfl ((box_load Ag4 Sz4 a1 [(.slice pa0 pn0 pc0), (.slice pa1 pn1 pc1)] [(.bool f.2.2)] [] rfl rfl (fun _ => rfl)) _ (Chg.refl _ _))) ?_
  refine pl_val (.bool f.2.2) (y_move rfl) ?_
  rcases bif_some hs with ⟨a4, hs⟩ | ⟨a4, hs⟩
  ·skip
   refine pl_not (tg := 9) (by kernel_rfl) (congrArg Value.bool a4) ?_
   refine pl_not (tg := 9) (by kernel_rfl) (congrArg Value.bool a4) ?_
   refine pl_not (tg := 9) (by kernel_rfl) (congrArg Value.bool a4) ?_
   refine pl_not (tg := 9) (by kernel_rfl) (congrArg Value.bool a4) ?_
   refine pl_not (tg := 9) (by kernel_rfl) (congrArg Value.bool a4) ?_
   refine pl_val (.bool true) (y_pick_t (congrArg Value.bool a4) rfl) ?_
   refine c_nil ?_
   cases hs
   exact ⟨_, fr_ovl 36 ⟨rfl, rfl, rfl, rfl, rfl, trivial⟩, hMid⟩
  refine pl_yes (.pointer (some ⟨a3, 0, none⟩)) (tg := 9) (by kernel_rfl) (congrArg Value.bool a4) (y_faddr rfl Fa89x0) ?_
  refine pl_yes (.slice pa0 pn0 pc0) (tg := 9) (by kernel_rfl) (congrArg Value.bool a4) (y_load rfl ((box_load Ag47 Sz47 a1 [] [(.slice pa0 pn0 pc0)] [(.slice pa1 pn1 pc1), (.bool f.2.2)] rfl rfl (fun _ => rfl)) _ (Chg.refl _ _))) ?_
  refine pl_yes (.slice pa2 pn2 pc2) (tg := 9) (by kernel_rfl) (congrArg Value.bool a4) (y_move rfl) ?_
  have hO := hO.fr3
  obtain ⟨r13, g8, hs⟩ := bind_some hs
  refine pl_cally (tg := 9) (by kernel_rfl) (congrArg Value.bool a4) Bd56 rfl (c_spec_l12Place (M := (Less M pf0)) f.1 table (((Frz.os (Frz.rs Frz.int))).val h0 Less.sub Less.not) (h2.sub Less.sub) hO.less.fut g8) ?_
  rintro _ j3 ⟨rfl, a9⟩
  have h0 := h0.ext a9
  have h1 := h1.ext a9
  have h2 := h2.ext a9
  have h3 := h3.ext a9
  have a1 := a1.cn a9
  have a0 := a0.cn a9
  have a2 := a2.cn a9
  have hMid := hMid.ext a9
  have hC := hC.ext a9
  have hO := hO.ext a9
  refine pl_yes (.bool (decide (0 ≤ r13))) (tg := 9) (by kernel_rfl) (congrArg Value.bool a4) (y_geq rfl rfl) ?_
  refine pl_val (.bool (decide (0 ≤ r13))) (y_pick_f (congrArg Value.bool a4) rfl) ?_
  refine c_nil ?_
  cases hs
  exact ⟨_, fr_ovl 36 ⟨rfl, rfl, rfl, rfl, rfl, trivial⟩, hMid⟩
 rintro j4 d7 ⟨σ, rfl, b1⟩
 have h0 := h0.ext b1
 have h1 := h1.ext b1
 have h2 := h2.ext b1
 have h3 := h3.ext b1
 have a1 := a1.cn b1
 have a0 := a0.cn b1
 have a2 := a2.cn b1
 have hC := hC.ext b1
 have hO := hO.ext b1
 rcases bif_some hs with ⟨d8, hs⟩ | ⟨d8, hs⟩
 ·refine c_condT (congrArg Value.bool d8) ?_
  refine c_sr ?_
  refine pl_val (.agg #[(.slice pa0 pn0 pc0), (.slice pa1 pn1 pc1), (.bool f.2.2)]) (y_load rfl ((box_load Ag89 Sz89 a1 [] [(.slice pa0 pn0 pc0), (.slice pa1 pn1 pc1), (.bool f.2.2)] [] rfl rfl (fun h => nomatch h)) _ (Chg.refl _ _))) ?_
  obtain ⟨f2, g9, b4, d9⟩ := box_store (P := Try.prog) a2 [] [(.slice none 0 0), (.slice none 0 0), (.bool false)] [] [(.slice pa0 pn0 pc0), (.slice pa1 pn1 pc1), (.bool f.2.2)] rfl rfl (by intro u hu; simp only [List.mem_cons, List.not_mem_nil, or_false] at hu; rcases hu with rfl | rfl | rfl <;> rfl)
  refine pl_skip (w' := f2) (ys_store rfl rfl (g9 _ _ rfl Sz89)) ?_
  have h0 := h0.ma b4 hO same_ (fun _ e => (mem_r (mem_r (mem_l (e)))))
  have h1 := h1.ma b4 hO same_ (fun _ e => (mem_r (mem_r (mem_r (mem_l (e))))))
  have h2 := h2.mt b4 hO same_
  have h3 := h3.ma b4 hO same_ (fun _ e => (mem_r (mem_r (mem_r (mem_r (mem_l (e)))))))
  have a1 := a1.ap b4 hO same_ (mem_r (mem_l (List.mem_singleton.2 rfl)))
  have a0 := a0.ap b4 hO same_ (mem_l (List.mem_singleton.2 rfl))
  have hC := hC.st b4 hO same_
  have hO := hO.ext b4
  have d9 : BoxV f2 b0 89 [(.slice pa0 pn0 pc0), (.slice pa1 pn1 pc1), (.bool f.2.2)] := d9
  refine c_nil ?_
  refine wp_ret ?_
  cases hs
  have hO := hO.drop
  have hO := hO.drop
  have hO := hO.drop
  have hO := hO.fr2
  have hO := hO.drop
  have hO := hO.fr1
  have hO := hO.fr1
  exact ⟨_, b0, pa0, pn0, pc0, pf0, pa1, pn1, pc1, pf1, fr_ovl 36 ⟨rfl, trivial⟩, d9, hC, (KeepsF.out KeepsF.refl hO.allM h0), (KeepsF.out KeepsF.refl hO.allM h1), hO.top⟩
 refine c_condF (congrArg Value.bool d8) ?_
 refine wp_skip ?_
 refine c_seq ?_
 refine c_sr ?_
 refine pl_val (.pointer (some ⟨a3, 0, none⟩)) (y_faddr rfl Fa89x0) ?_
 refine pl_val (.slice pa0 pn0 pc0) (y_load rfl ((box_load Ag47 Sz47 a1 [] [(.slice pa0 pn0 pc0)] [(.slice pa1 pn1 pc1), (.bool f.2.2)] rfl rfl (fun _ => rfl)) _ (Chg.refl _ _))) ?_
 refine pl_val (.int .i64 (f.1.length : Int)) (y_len' Sl47 (os_len h0) rfl) ?_
 refine pl_val (.bool ((f.1.length : Int) == 60)) (y_eql rfl rfl) ?_
 refine c_nil ?_
 rcases bif_some hs with ⟨e0, hs⟩ | ⟨e0, hs⟩
 ·refine c_condT (congrArg Value.bool e0) ?_
  refine c_sr ?_
  refine pl_val (.pointer (some ⟨a3, 2, none⟩)) (y_faddr rfl Fa89x2) ?_
  obtain ⟨f3, h4, b5, d1⟩ := box_store (P := Try.prog) a1 [(.slice pa0 pn0 pc0), (.slice pa1 pn1 pc1)] [(.bool f.2.2)] [] [(.bool true)] rfl rfl (by intro u hu; simp only [List.mem_cons, List.not_mem_nil, or_false] at hu; rcases hu with rfl <;> rfl)
  refine pl_skip (w' := f3) (ys_store rfl rfl (h4 _ _ rfl Sz4)) ?_
  have hO := hO.fr2
  have h0 := h0.ma b5 hO same_ (fun _ e => (mem_r (mem_r (mem_l (e)))))
  have h1 := h1.ma b5 hO same_ (fun _ e => (mem_r (mem_r (mem_r (mem_l (e))))))
  have h2 := h2.mt b5 hO same_
  have h3 := h3.ma b5 hO same_ (fun _ e => (mem_r (mem_r (mem_r (mem_r (mem_l (e)))))))
  have a0 := a0.ap b5 hO same_ (mem_r (mem_l (List.mem_singleton.2 rfl)))
  have a2 := a2.ap b5 hO same_ (mem_l (List.mem_singleton.2 rfl))
  have hC := hC.st b5 hO same_
  have hO := hO.ext b5
  have d1 : BoxV f3 a3 89 [(.slice pa0 pn0 pc0), (.slice pa1 pn1 pc1), (.bool true)] := d1
  refine c_nil ?_
  refine c_sr ?_
  refine pl_val (.agg #[(.slice pa0 pn0 pc0), (.slice pa1 pn1 pc1), (.bool true)]) (y_load rfl ((box_load Ag89 Sz89 d1 [] [(.slice pa0 pn0 pc0), (.slice pa1 pn1 pc1), (.bool true)] [] rfl rfl (fun h => nomatch h)) _ (Chg.refl _ _))) ?_
  obtain ⟨f4, h5, b6, e1⟩ := box_store (P := Try.prog) a2 [] [(.slice none 0 0), (.slice none 0 0), (.bool false)] [] [(.slice pa0 pn0 pc0), (.slice pa1 pn1 pc1), (.bool true)] rfl rfl (by intro u hu; simp only [List.mem_cons, List.not_mem_nil, or_false] at hu; rcases hu with rfl | rfl | rfl <;> rfl)
  refine pl_skip (w' := f4) (ys_store rfl rfl (h5 _ _ rfl Sz89)) ?_
  have hO := hO.fr1
  have h0 := h0.ma b6 hO same_ (fun _ e => (mem_r (mem_r (mem_l (e)))))
  have h1 := h1.ma b6 hO same_ (fun _ e => (mem_r (mem_r (mem_r (mem_l (e))))))
  have h2 := h2.mt b6 hO same_
  have h3 := h3.ma b6 hO same_ (fun _ e => (mem_r (mem_r (mem_r (mem_r (mem_l (e)))))))
  have d1 := d1.ap b6 hO same_ (mem_l (List.mem_singleton.2 rfl))
  have a0 := a0.ap b6 hO same_ (mem_r (mem_l (List.mem_singleton.2 rfl)))
  have hC := hC.st b6 hO same_
  have hO := hO.ext b6
  have e1 : BoxV f4 b0 89 [(.slice pa0 pn0 pc0), (.slice pa1 pn1 pc1), (.bool true)] := e1
  refine c_nil ?_
  refine wp_ret ?_
  cases hs
  have hO := hO.drop
  have hO := hO.drop
  have hO := hO.drop
  have hO := hO.fr2
  have hO := hO.drop
  have hO := hO.fr1
  have hO := hO.fr1
  exact ⟨_, b0, pa0, pn0, pc0, pf0, pa1, pn1, pc1, pf1, fr_ovl 36 ⟨rfl, trivial⟩, e1, hC, (KeepsF.out KeepsF.refl hO.allM h0), (KeepsF.out KeepsF.refl hO.allM h1), hO.top⟩
 refine c_condF (congrArg Value.bool e0) ?_
 refine wp_skip ?_
 refine c_sr ?_
 refine pl_val (.pointer (some ⟨a3, 0, none⟩)) (y_faddr rfl Fa89x0) ?_
 refine pl_val (.slice pa0 pn0 pc0) (y_load rfl ((box_load Ag47 Sz47 a1 [] [(.slice pa0 pn0 pc0)] [(.slice pa1 pn1 pc1), (.bool f.2.2)] rfl rfl (fun _ => rfl)) _ (Chg.refl _ _))) ?_
 refine pl_val (.slice pa2 pn2 pc2) (y_move rfl) ?_
 obtain ⟨f5, e2, h6, f6, b2, f7⟩ := new_block d7 [(.slice pa2 pn2 pc2)] 37
 refine pl_val (w' := f5) (.slice (some ⟨e2, 0, none⟩) 1 1) (y_bslice rfl (by rw [h6, f6]; kernel_rfl)) ?_
 have h0 := h0.ext b2
 have h1 := h1.ext b2
 have h2 := h2.ext b2
 have h3 := h3.ext b2
 have a1 := a1.cn b2
 have a0 := a0.cn b2
 have a2 := a2.cn b2
 have hC := hC.ext b2
 have hO := hO.new1 b2 f6 f7.lt
 have e3 := os_of_box (r := (RT.rs (RT.int .i64))) (M := M) (css := [[(.slice pa2 pn2 pc2)]]) (fps := [([] : List Nat)]) (xs := ([table] : List (List Int))) f7 ⟨(rs_unval h2), trivial⟩ (Nat.le_of_ble_eq_true rfl) (List.nodup_cons.2 ⟨(fun h => nomatch h), List.nodup_nil⟩)
 have e3 : (RT.os 37 (RT.rs (RT.int .i64))).val M f5 (.slice (some ⟨e2, 0, none⟩) 1 1) [table] [e2] := e3
 obtain ⟨y22, h7, hs⟩ := bind_some hs
 have hO := hO.fr4
 obtain ⟨a6, a7, a8, h8, f8, h9, b7, i0, a5⟩ := app_os Rw47 h7 h0 e3 hO.inM (fun g hg hq => hO.apart g hq (mem_l hg))
 have c5 := os_block h0
 refine pl_val (w' := h8) (.slice a6 a7 a8) (y_append rfl rfl (h9 _)) ?_
 have hO := hO.fr1
 have hO := hO.fr1
 have h1 := h1.ma b7 hO c5 (fun _ e => (mem_r (mem_r (mem_r (mem_r (mem_l (e)))))))
 have h2 := h2.mt b7 hO c5
 have h3 := h3.ma b7 hO c5 (fun _ e => (mem_r (mem_r (mem_r (mem_r (mem_r (mem_l (e))))))))
 have a1 := a1.ap b7 hO c5 (mem_r (mem_r (mem_r (mem_l (List.mem_singleton.2 rfl)))))
 have a0 := a0.ap b7 hO c5 (mem_r (mem_r (mem_l (List.mem_singleton.2 rfl))))
 have a2 := a2.ap b7 hO c5 (mem_r (mem_l (List.mem_singleton.2 rfl)))
 have hC := hC.st b7 hO c5
 have hO := hO.eat b7 i0 (os_nodup a5) a5.fpl
 refine pl_val (.pointer (some ⟨a3, 0, none⟩)) (y_faddr rfl Fa89x0) ?_
 obtain ⟨e4, i1, b8, b9⟩ := box_store (P := Try.prog) a1 [] [(.slice pa0 pn0 pc0)] [(.slice pa1 pn1 pc1), (.bool f.2.2)] [(.slice a6 a7 a8)] rfl rfl (by intro u hu; simp only [List.mem_cons, List.not_mem_nil, or_false] at hu; rcases hu with rfl <;> rfl)
 refine pl_skip (w' := e4) (ys_store rfl rfl (i1 _ _ rfl Sz47)) ?_
 have hO := hO.fr3
 have h1 := h1.ma b8 hO same_ (fun _ e => (mem_r (mem_r (mem_r (mem_l (e))))))
 have h2 := h2.mt b8 hO same_
 have h3 := h3.ma b8 hO same_ (fun _ e => (mem_r (mem_r (mem_r (mem_r (mem_l (e)))))))
 have a0 := a0.ap b8 hO same_ (mem_r (mem_r (mem_l (List.mem_singleton.2 rfl))))
 have a2 := a2.ap b8 hO same_ (mem_r (mem_l (List.mem_singleton.2 rfl)))
 have a5 := a5.ma b8 hO same_ (fun _ e => (mem_l (e)))
 have hC := hC.st b8 hO same_
 have hO := hO.ext b8
 have b9 : BoxV e4 a3 89 [(.slice a6 a7 a8), (.slice pa1 pn1 pc1), (.bool f.2.2)] := b9
 refine c_nil ?_
 refine c_sr ?_
 refine pl_val (.pointer (some ⟨a3, 1, none⟩)) (y_faddr rfl Fa89x1) ?_
 refine pl_val (.slice pa1 pn1 pc1) (y_load rfl ((box_load Ag87 Sz87 b9 [(.slice a6 a7 a8)] [(.slice pa1 pn1 pc1)] [(.bool f.2.2)] rfl rfl (fun _ => rfl)) _ (Chg.refl _ _))) ?_
 refine pl_val (.agg #[(.int .i64 step.1), (.slice pa3 pn3 pc3)]) (y_load rfl ((box_load Ag119 Sz119 a0 [] [(.int .i64 step.1), (.slice pa3 pn3 pc3)] [] rfl rfl (fun h => nomatch h)) _ (Chg.refl _ _))) ?_
 obtain ⟨f9, d4, i2, g0, c0, g1⟩ := new_block e4 [(.int .i64 step.1), (.slice pa3 pn3 pc3)] 119
 refine pl_val (w' := f9) (.slice (some ⟨d4, 0, none⟩) 1 1) (y_bslice rfl (by rw [i2, g0]; kernel_rfl)) ?_
 have h1 := h1.ext c0
 have h3 := h3.ext c0
 have b9 := b9.cn c0
 have a0 := a0.cn c0
 have a2 := a2.cn c0
 have a5 := a5.ext c0
 have hC := hC.ext c0
 have hO := hO.fr5
 have hO := hO.new1 c0 g0 g1.lt
 have hO := hO.perm (R := (d4 :: ((pf3) ++ ([]))) ++ (([a3]) ++ (f8 ++ (([b0]) ++ (([d5]) ++ (pf1 ++ ([]))))))) (by simp)
 have i3 := hO.nd
 have e5 := os_of_box (r := (RT.pr (RT.int .i64) (RT.os 3 (RT.int .i64)))) (M := M) (css := [[(.int .i64 step.1), (.slice pa3 pn3 pc3)]]) (fps := [(pf3 : List Nat)]) (xs := ([(step.1, step.2)] : List (Int × (List Int)))) g1 ⟨⟨_, _, _, _, rfl, rfl, ⟨rfl, rfl⟩, (os_unval h3)⟩, trivial⟩ (Nat.le_of_ble_eq_true rfl) i3
 have e5 : (RT.os 119 (RT.pr (RT.int .i64) (RT.os 3 (RT.int .i64)))).val M f9 (.slice (some ⟨d4, 0, none⟩) 1 1) [(step.1, step.2)] (d4 :: ((pf3) ++ ([]))) := e5
 obtain ⟨y28, i4, hs⟩ := bind_some hs
 have hO := hO.fr5
 obtain ⟨c1, c2, c3, i5, i6, i7, c8, i9, c6⟩ := app_os Rw87 i4 h1 e5 hO.inM (fun g hg hq => hO.apart g hq (mem_l hg))
 have d2 := os_block h1
 refine pl_val (w' := i5) (.slice c1 c2 c3) (y_append rfl rfl (i7 _)) ?_
 have hO := hO.fr1
 have hO := hO.fr1
 have b9 := b9.ap c8 hO d2 (mem_r (mem_l (List.mem_singleton.2 rfl)))
 have a0 := a0.ap c8 hO d2 (mem_r (mem_r (mem_r (mem_r (mem_l (List.mem_singleton.2 rfl))))))
 have a2 := a2.ap c8 hO d2 (mem_r (mem_r (mem_r (mem_l (List.mem_singleton.2 rfl)))))
 have a5 := a5.ma c8 hO d2 (fun _ e => (mem_r (mem_r (mem_l (e)))))
 have hC := hC.st c8 hO d2
 have hO := hO.eat c8 i9 (os_nodup c6) c6.fpl
 refine pl_val (.pointer (some ⟨a3, 1, none⟩)) (y_faddr rfl Fa89x1) ?_
 obtain ⟨g2, j0, c9, d3⟩ := box_store (P := Try.prog) b9 [(.slice a6 a7 a8)] [(.slice pa1 pn1 pc1)] [(.bool f.2.2)] [(.slice c1 c2 c3)] rfl rfl (by intro u hu; simp only [List.mem_cons, List.not_mem_nil, or_false] at hu; rcases hu with rfl <;> rfl)
 refine pl_skip (w' := g2) (ys_store rfl rfl (j0 _ _ rfl Sz87)) ?_
 have hO := hO.fr1
 have a0 := a0.ap c9 hO same_ (mem_r (mem_r (mem_r (mem_l (List.mem_singleton.2 rfl)))))
 have a2 := a2.ap c9 hO same_ (mem_r (mem_r (mem_l (List.mem_singleton.2 rfl))))
 have a5 := a5.ma c9 hO same_ (fun _ e => (mem_r (mem_l (e))))
 have c6 := c6.ma c9 hO same_ (fun _ e => (mem_l (e)))
 have hC := hC.st c9 hO same_
 have hO := hO.ext c9
 have d3 : BoxV g2 a3 89 [(.slice a6 a7 a8), (.slice c1 c2 c3), (.bool f.2.2)] := d3
 refine c_nil ?_
 refine c_sr ?_
 refine pl_val (.agg #[(.slice a6 a7 a8), (.slice c1 c2 c3), (.bool f.2.2)]) (y_load rfl ((box_load Ag89 Sz89 d3 [] [(.slice a6 a7 a8), (.slice c1 c2 c3), (.bool f.2.2)] [] rfl rfl (fun h => nomatch h)) _ (Chg.refl _ _))) ?_
 obtain ⟨g3, j1, d0, e6⟩ := box_store (P := Try.prog) a2 [] [(.slice none 0 0), (.slice none 0 0), (.bool false)] [] [(.slice a6 a7 a8), (.slice c1 c2 c3), (.bool f.2.2)] rfl rfl (by intro u hu; simp only [List.mem_cons, List.not_mem_nil, or_false] at hu; rcases hu with rfl | rfl | rfl <;> rfl)
 refine pl_skip (w' := g3) (ys_store rfl rfl (j1 _ _ rfl Sz89)) ?_
 have hO := hO.fr3
 have d3 := d3.ap d0 hO same_ (mem_l (List.mem_singleton.2 rfl))
 have a0 := a0.ap d0 hO same_ (mem_r (mem_r (mem_r (mem_l (List.mem_singleton.2 rfl)))))
 have a5 := a5.ma d0 hO same_ (fun _ e => (mem_r (mem_r (mem_l (e)))))
 have c6 := c6.ma d0 hO same_ (fun _ e => (mem_r (mem_l (e))))
 have hC := hC.st d0 hO same_
 have hO := hO.ext d0
 have e6 : BoxV g3 b0 89 [(.slice a6 a7 a8), (.slice c1 c2 c3), (.bool f.2.2)] := e6
 refine c_nil ?_
 refine wp_ret ?_
 cases hs
 have hO := hO.drop
 have hO := hO.drop
 have hO := hO.fr2
 have hO := hO.drop
 have hO := hO.fr1
 exact ⟨_, b0, a6, a7, a8, f8, c1, c2, c3, i6, fr_ovl 36 ⟨rfl, trivial⟩, e6, hC, (KeepsF.out KeepsF.refl hO.allM a5), (KeepsF.out KeepsF.refl hO.allM c6), hO.top⟩

def k_spec_l12Fresh (M : Nat → Prop) (w0 : World) (r : Bool) (a : Act) (w : World) : Prop :=
  ∃ (σ : Nat → Value) , a = fr 25 (ovl σ [(8, (.bool r))]) ∧ Chg [] w0 w
def s_spec_l12Fresh (known : Int) (arity : Int) (at_ : Int) (before : Int) : Option (Bool) :=
  (forC (S := Int) (R := Bool) (fun k6 s4 =>
  (nz known).bind fun u10 =>
  (bif (decide (before ≤ (Int.tmod s4 known))) then some (.rt true) else (nz known).bind fun u12 =>
  some (.nx (w64 (Int.tdiv s4 known))))) 0 arity at_).bind fun o8 => after o8 (fun r_ => some r_) (fun s4 =>
  some (before == 0))
set_option maxHeartbeats 4000000 in
theorem c_spec_l12Fresh {M : Nat → Prop} {w : World}  (known : Int) (arity : Int) (at_ : Int) (before : Int)  (hM : ∀ g, w.heap.size ≤ g → M g) {r : Bool} (hs : s_spec_l12Fresh known arity at_ before = some r) :
    Gives Try.prog 119 [(.int .i64 known), (.int .i64 arity), (.int .i64 at_), (.int .i64 before)] w (fun v w' => v = (.bool r) ∧ Chg [] w w') := by
 refine calls_fr Try.func119 rfl Try.ntmps119 (Nat.le_of_ble_eq_true rfl) ?_
 have hO := Own.start (N := Nw w []) hM Nw.fut
 have hC := Chg.refl [] w
 unfold s_spec_l12Fresh at hs
 refine wp_mono (Q := KPost (k_spec_l12Fresh M w r)) ?_ (fun e a a2 h => ?_)
 rotate_left
 ·cases e
  case ret =>
   obtain ⟨σ, rfl, hrest⟩ := h
   exact ret1x Try.results119 (res_tmp rfl) ⟨rfl, hrest⟩
  all_goals exact (h : False).elim
 refine c_sr ?_
 refine pl_val (.bool false) (y_assign rfl) ?_
 refine c_nil ?_
 refine c_seq ?_
 refine c_sr ?_
 refine pl_val (.int .i64 0) (y_assign rfl) ?_
 refine c_nil ?_
 obtain ⟨o8, a3, hs⟩ := bind_some hs
 refine wp_block ?_
 refine wp_forC (id := 0) arity (I := fun k6 s4 a a0 => ∃ (σ : Nat → Value), a = fr 25 (ovl σ [(0, (.int .i64 known)), (1, (.int .i64 arity)), (2, (.int .i64 s4)), (3, (.int .i64 before)), (9, (.int .i64 k6))]) ∧ Chg [] w a0 ∧ Own (Nw w []) M a0 ([])) (J := fun s4 a a0 => ∃ (σ : Nat → Value), a = fr 25 (ovl σ [(3, (.int .i64 before))]) ∧ Chg [] w a0 ∧ Own (Nw w []) M a0 ([])) (K := (k_spec_l12Fresh M w)) ?_ ?_ 0 at_ o8 _ _ ?_ a3 ?_
 ·rintro k6 s4 a a0 ⟨σ, rfl, hC, hO⟩ hlt
  refine c_seq ?_
  refine c_sr ?_
  refine pl_val (.int .i64 k6) (y_move rfl) ?_
  refine pl_val (.int .i64 arity) (y_move rfl) ?_
  refine pl_val (.bool (decide (k6 < arity))) (y_lss rfl rfl) ?_
  refine c_nil ?_
  refine c_condF (congrArg Value.bool (decide_eq_false hlt)) ?_
  refine wp_exit ?_
  exact ⟨rfl, _, fr_ovl 25 ⟨rfl, trivial⟩, hC, hO⟩
 ·rintro k6 s4 o8 a a0 ⟨σ, rfl, hC, hO⟩ hlt hw hs
  refine c_seq ?_
  refine c_sr ?_
  refine pl_val (.int .i64 k6) (y_move rfl) ?_
  refine pl_val (.int .i64 arity) (y_move rfl) ?_
  refine pl_val (.bool (decide (k6 < arity))) (y_lss rfl rfl) ?_
  refine c_nil ?_
  refine c_condT (congrArg Value.bool (decide_eq_true hlt)) ?_
  refine wp_skip ?_
  refine c_seq ?_
  refine wp_block ?_
  refine c_seq ?_
  refine c_sr ?_
  refine pl_val (.int .i64 s4) (y_move rfl) ?_
  refine pl_val (.int .i64 known) (y_move rfl) ?_
  obtain ⟨u10, a4, hs⟩ := bind_some hs
  refine pl_val (.int .i64 (Int.tmod s4 known)) (y_rem rfl rfl (nz_ne a4)) ?_
  refine pl_val (.int .i64 before) (y_move rfl) ?_
  refine pl_val (.bool (decide (before ≤ (Int.tmod s4 known)))) (y_geq rfl rfl) ?_
  refine c_nil ?_
  rcases bif_some hs with ⟨a1, hs⟩ | ⟨a1, hs⟩
  ·refine c_condT (congrArg Value.bool a1) ?_
   refine c_sr ?_
   refine pl_val (.bool true) (y_assign rfl) ?_
   refine c_nil ?_
   refine wp_ret ?_
   cases hs
   exact ⟨_, fr_ovl 25 ⟨rfl, trivial⟩, hC⟩
  refine c_condF (congrArg Value.bool a1) ?_
  refine wp_skip ?_
  refine c_region ?_
  refine pl_val (.int .i64 s4) (y_move rfl) ?_
  refine pl_val (.int .i64 known) (y_move rfl) ?_
  obtain ⟨u12, a5, hs⟩ := bind_some hs
  refine pl_val (.int .i64 (w64 (Int.tdiv s4 known))) (y_quo rfl rfl (nz_ne a5)) ?_
  refine pl_val (.int .i64 (w64 (Int.tdiv s4 known))) (y_assign rfl) ?_
  refine c_nil ?_
  refine c_region ?_
  refine pl_val (.int .i64 k6) (y_move rfl) ?_
  refine pl_val (.int .i64 (w64 (k6 + 1))) (y_add rfl rfl) ?_
  refine pl_val (.int .i64 (w64 (k6 + 1))) (y_assign rfl) ?_
  refine c_nil ?_
  cases hs
  exact ⟨_, fr_ovl 25 ⟨rfl, rfl, rfl, rfl, congrArg (Value.int .i64) hw, trivial⟩, hC, hO⟩
 ·skip
  exact ⟨_, fr_ovl 25 ⟨rfl, rfl, rfl, rfl, rfl, trivial⟩, hC, hO⟩
 cases o8 with
 | nx _ => exact True.intro
 | rt r_ =>
  have hs := after_rt hs
  intro a6 a2 hK
  cases hs
  exact hK
 | br s4 =>
  have hs := after_br hs
  rintro a6 a0 ⟨σ, rfl, hC, hO⟩
  refine c_sr ?_
  refine pl_val (.int .i64 before) (y_move rfl) ?_
  refine pl_val (.bool (before == 0)) (y_eql rfl rfl) ?_
  refine pl_val (.bool (before == 0)) (y_assign rfl) ?_
  refine c_nil ?_
  refine wp_ret ?_
  cases hs
  exact ⟨_, fr_ovl 25 ⟨rfl, trivial⟩, hC⟩

def k_spec_l12Compose (M : Nat → Prop) (w0 : World) (r : (List Int)) (a : Act) (w : World) : Prop :=
  ∃ (σ : Nat → Value) (ra0 : Option Addr) (rn0 rc0 : Nat) (rf0 : List Nat), a = fr 45 (ovl σ [(8, (.slice ra0 rn0 rc0))]) ∧ Chg [] w0 w ∧ (RT.os 3 (RT.int .i64)).val M w (.slice ra0 rn0 rc0) r rf0 ∧ Own (Nw w0 []) (fun _ => True) w (rf0 ++ ([]))
def s_spec_l12Compose (n : Int) (f : Int × (List Int)) (tables : List (List Int)) (size : Int) : Option ((List Int)) :=
  (forC (S := (List Int)) (R := (List Int)) (fun k35 s33 =>
  (forC (S := Int) (R := (List Int)) (fun k51 s49 =>
  (idx tables k51).bind fun x55 =>
  (idx x55 k35).bind fun x59 =>
  some (.nx (w64 ((w64 (s49 * n)) + x59)))) 0 (tables.length : Int) 0).bind fun o53 => after o53 (fun r_ => some (.rt r_)) (fun s49 =>
  (idx f.2 s49).bind fun x61 =>
  (app s33 ([x61])).bind fun y66 =>
  some (.nx y66))) 0 size ([])).bind fun o37 => after o37 (fun r_ => some r_) (fun s33 =>
  some s33)
set_option maxHeartbeats 4000000 in
theorem c_spec_l12Compose {M : Nat → Prop} {w : World} {pa0 : Option Addr} {pn0 pc0 : Nat} {pa1 : Option Addr} {pn1 pc1 : Nat} (n : Int) (f : Int × (List Int)) (tables : List (List Int)) (size : Int) (h0 : (RT.rs (RT.int .i64)).val M w (.slice pa0 pn0 pc0) f.2 ([])) (h1 : (RT.rs (RT.rs (RT.int .i64))).val M w (.slice pa1 pn1 pc1) tables ([])) (hM : ∀ g, w.heap.size ≤ g → M g) {r : (List Int)} (hs : s_spec_l12Compose n f tables size = some r) :
    Gives Try.prog 120 [(.int .i64 n), (.agg #[(.int .i64 f.1), (.slice pa0 pn0 pc0)]), (.slice pa1 pn1 pc1), (.int .i64 size)] w (fun v w' => ∃ (ra0 : Option Addr) (rn0 rc0 : Nat) (rf0 : List Nat), v = (.slice ra0 rn0 rc0) ∧ Chg [] w w' ∧ (RT.os 3 (RT.int .i64)).val M w' (.slice ra0 rn0 rc0) r rf0 ∧ Own (Nw w []) (fun _ => True) w' (rf0 ++ ([]))) := by
 refine calls_fr Try.func120 rfl Try.ntmps120 (Nat.le_of_ble_eq_true rfl) ?_
 have hO := Own.start (N := Nw w []) hM Nw.fut
 have hC := Chg.refl [] w
 unfold s_spec_l12Compose at hs
 refine wp_mono (Q := KPost (k_spec_l12Compose M w r)) ?_ (fun e a c8 h => ?_)
 rotate_left
 ·cases e
  case ret =>
   obtain ⟨σ, ra0, rn0, rc0, rf0, rfl, hrest⟩ := h
   exact ret1x Try.results120 (res_tmp rfl) ⟨ra0, rn0, rc0, rf0, rfl, hrest⟩
  all_goals exact (h : False).elim
 refine c_sr ?_
 obtain ⟨c9, a3, d8, d0, b6, a0⟩ := new_block w [(.int .i64 f.1), (.slice pa0 pn0 pc0)] 64
 refine pl_val (w' := c9) (.pointer (some ⟨a3, 0, none⟩)) (y_box rfl (by rw [d8, d0]; kernel_rfl)) ?_
 have h0 := h0.ext b6
 have h1 := h1.ext b6
 have hC := hC.ext b6
 have hO := hO.new1 b6 d0 a0.lt
 refine pl_val (.slice none 0 0) (y_assign rfl) ?_
 refine c_nil ?_
 refine c_sr ?_
 obtain ⟨d1, b0, d9, d2, b4, d3⟩ := new_block c9 [] 3
 refine pl_val (w' := d1) (.slice (some ⟨b0, 0, none⟩) 0 0) (y_bslice rfl (by rw [d9, d2]; kernel_rfl)) ?_
 have h0 := h0.ext b4
 have h1 := h1.ext b4
 have a0 := a0.cn b4
 have hC := hC.ext b4
 have hO := hO.new1 b4 d2 d3.lt
 have b9 := os_of_box (r := (RT.int .i64)) (M := M) (css := []) (fps := []) (xs := ([] : List Int)) d3 trivial (Nat.zero_le _) (List.nodup_cons.2 ⟨(fun h => nomatch h), List.nodup_nil⟩)
 have b9 : (RT.os 3 (RT.int .i64)).val M d1 (.slice (some ⟨b0, 0, none⟩) 0 0) [] [b0] := b9
 refine pl_val (.slice (some ⟨b0, 0, none⟩) 0 0) (y_assign rfl) ?_
 refine c_nil ?_
 refine c_seq ?_
 refine c_sr ?_
 refine pl_val (.int .i64 0) (y_assign rfl) ?_
 refine c_nil ?_
 obtain ⟨o37, e0, hs⟩ := bind_some hs
 refine wp_block ?_
 refine wp_forC (id := 0) size (I := fun k35 s33 a a2 => ∃ (σ : Nat → Value) (a5 : Option Addr) (a6 : Nat) (a7 : Nat) (a8 : List Nat), a = fr 45 (ovl σ [(0, (.int .i64 n)), (2, (.slice pa1 pn1 pc1)), (3, (.int .i64 size)), (5, (.pointer (some ⟨a3, 0, none⟩))), (9, (.slice a5 a6 a7)), (10, (.int .i64 k35))]) ∧ Chg [] w a2 ∧ Own (Nw w []) M a2 (a8 ++ (([a3]) ++ [])) ∧ (RT.rs (RT.int .i64)).val M a2 (.slice pa0 pn0 pc0) f.2 ([]) ∧ (RT.rs (RT.rs (RT.int .i64))).val M a2 (.slice pa1 pn1 pc1) tables ([]) ∧ BoxV a2 a3 64 [(.int .i64 f.1), (.slice pa0 pn0 pc0)] ∧ (RT.os 3 (RT.int .i64)).val M a2 (.slice a5 a6 a7) s33 a8) (J := fun s33 a a2 => ∃ (σ : Nat → Value) (b1 : Option Addr) (b2 : Nat) (b3 : Nat) (b7 : List Nat), a = fr 45 (ovl σ [(9, (.slice b1 b2 b3))]) ∧ Chg [] w a2 ∧ Own (Nw w []) M a2 (b7 ++ (([a3]) ++ [])) ∧ (RT.rs (RT.int .i64)).val M a2 (.slice pa0 pn0 pc0) f.2 ([]) ∧ (RT.rs (RT.rs (RT.int .i64))).val M a2 (.slice pa1 pn1 pc1) tables ([]) ∧ BoxV a2 a3 64 [(.int .i64 f.1), (.slice pa0 pn0 pc0)] ∧ (RT.os 3 (RT.int .i64)).val M a2 (.slice b1 b2 b3) s33 b7) (K := (k_spec_l12Compose M w)) ?_ ?_ 0 ([]) o37 _ _ ?_ e0 ?_
 ·rintro k35 s33 a a2 ⟨σ, a5, a6, a7, a8, rfl, hC, hO, h0, h1, a0, a4⟩ hlt
  refine c_seq ?_
  refine c_sr ?_
  refine pl_val (.int .i64 k35) (y_move rfl) ?_
  refine pl_val (.int .i64 size) (y_move rfl) ?_
  refine pl_val (.bool (decide (k35 < size))) (y_lss rfl rfl) ?_
  refine c_nil ?_
  refine c_condF (congrArg Value.bool (decide_eq_false hlt)) ?_
  refine wp_exit ?_
  have hO := hO.fr1
  have hO := hO.fr1
  exact ⟨rfl, _, a5, a6, a7, a8, fr_ovl 45 ⟨rfl, trivial⟩, hC, hO, h0, h1, a0, a4⟩
 ·rintro k35 s33 o37 a a2 ⟨σ, a5, a6, a7, a8, rfl, hC, hO, h0, h1, a0, a4⟩ hlt hw hs
  refine c_seq ?_
  refine c_sr ?_
  refine pl_val (.int .i64 k35) (y_move rfl) ?_
  refine pl_val (.int .i64 size) (y_move rfl) ?_
  refine pl_val (.bool (decide (k35 < size))) (y_lss rfl rfl) ?_
  refine c_nil ?_
  refine c_condT (congrArg Value.bool (decide_eq_true hlt)) ?_
  refine wp_skip ?_
  refine c_seq ?_
  refine wp_block ?_
  refine c_sr ?_
  refine pl_val (.int .i64 0) (y_assign rfl) ?_
  refine c_nil ?_
  refine c_seq ?_
  refine c_sr ?_
  refine pl_val (.int .i64 0) (y_assign rfl) ?_
  refine c_nil ?_
  obtain ⟨o53, e1, hs⟩ := bind_some hs
  refine wp_block ?_
  refine wp_forC (id := 2) (tables.length : Int) (I := fun k51 s49 a a1 => ∃ (σ : Nat → Value), a = fr 45 (ovl σ [(0, (.int .i64 n)), (2, (.slice pa1 pn1 pc1)), (3, (.int .i64 size)), (5, (.pointer (some ⟨a3, 0, none⟩))), (9, (.slice a5 a6 a7)), (10, (.int .i64 k35)), (11, (.int .i64 s49)), (12, (.int .i64 k51))]) ∧ Chg [] w a1 ∧ Own (Nw w []) M a1 (a8 ++ (([a3]) ++ [])) ∧ (RT.rs (RT.int .i64)).val M a1 (.slice pa0 pn0 pc0) f.2 ([]) ∧ (RT.rs (RT.rs (RT.int .i64))).val M a1 (.slice pa1 pn1 pc1) tables ([]) ∧ BoxV a1 a3 64 [(.int .i64 f.1), (.slice pa0 pn0 pc0)] ∧ (RT.os 3 (RT.int .i64)).val M a1 (.slice a5 a6 a7) s33 a8) (J := fun s49 a a1 => ∃ (σ : Nat → Value), a = fr 45 (ovl σ [(0, (.int .i64 n)), (2, (.slice pa1 pn1 pc1)), (3, (.int .i64 size)), (5, (.pointer (some ⟨a3, 0, none⟩))), (9, (.slice a5 a6 a7)), (10, (.int .i64 k35)), (11, (.int .i64 s49))]) ∧ Chg [] w a1 ∧ Own (Nw w []) M a1 (a8 ++ (([a3]) ++ [])) ∧ (RT.rs (RT.int .i64)).val M a1 (.slice pa0 pn0 pc0) f.2 ([]) ∧ (RT.rs (RT.rs (RT.int .i64))).val M a1 (.slice pa1 pn1 pc1) tables ([]) ∧ BoxV a1 a3 64 [(.int .i64 f.1), (.slice pa0 pn0 pc0)] ∧ (RT.os 3 (RT.int .i64)).val M a1 (.slice a5 a6 a7) s33 a8) (K := (k_spec_l12Compose M w)) ?_ ?_ 0 0 o53 _ _ ?_ e1 ?_
  ·rintro k51 s49 a a1 ⟨σ, rfl, hC, hO, h0, h1, a0, a4⟩ hlt
   refine c_seq ?_
   refine c_sr ?_
   refine pl_val (.int .i64 k51) (y_move rfl) ?_
   refine pl_val (.slice pa1 pn1 pc1) (y_move rfl) ?_
   refine pl_val (.int .i64 (tables.length : Int)) (y_len' Sl47 (rs_len h1) rfl) ?_
   refine pl_val (.bool (decide (k51 < (tables.length : Int)))) (y_lss rfl rfl) ?_
   refine c_nil ?_
   refine c_condF (congrArg Value.bool (decide_eq_false hlt)) ?_
   refine wp_exit ?_
   have hO := hO.fr1
   have hO := hO.fr1
   exact ⟨rfl, _, fr_ovl 45 ⟨rfl, rfl, rfl, rfl, rfl, rfl, rfl, trivial⟩, hC, hO, h0, h1, a0, a4⟩
  ·rintro k51 s49 o53 a a1 ⟨σ, rfl, hC, hO, h0, h1, a0, a4⟩ hlt hw hs
   refine c_seq ?_
   refine c_sr ?_
   refine pl_val (.int .i64 k51) (y_move rfl) ?_
   refine pl_val (.slice pa1 pn1 pc1) (y_move rfl) ?_
   refine pl_val (.int .i64 (tables.length : Int)) (y_len' Sl47 (rs_len h1) rfl) ?_
   refine pl_val (.bool (decide (k51 < (tables.length : Int)))) (y_lss rfl rfl) ?_
   refine c_nil ?_
   refine c_condT (congrArg Value.bool (decide_eq_true hlt)) ?_
   refine wp_skip ?_
   refine c_seq ?_
   refine wp_block ?_
   refine c_region ?_
   refine pl_val (.int .i64 s49) (y_move rfl) ?_
   refine pl_val (.int .i64 n) (y_move rfl) ?_
   refine pl_val (.int .i64 (w64 (s49 * n))) (y_mul rfl rfl) ?_
   refine pl_val (.slice pa1 pn1 pc1) (y_move rfl) ?_
   refine pl_val (.int .i64 k51) (y_move rfl) ?_
   obtain ⟨x55, e2, hs⟩ := bind_some hs
   obtain ⟨e3, e4, e5, e6⟩ := rs_idx Sl47 Sz37 h1 e2
   refine pl_val (.pointer (some ⟨e3, e4, none⟩)) (e5 _ _ _ _ _ _ _ _ _ rfl rfl) ?_
   obtain ⟨g7, e7, d4⟩ := at_load Ag37 Sz37 (fun _ => rfl) e6
   obtain ⟨e8, e9, f0, rfl⟩ := rs_sl d4
   refine pl_val (.slice e8 e9 f0) (y_load rfl (e7 _ (Chg.refl _ _))) ?_
   refine pl_val (.int .i64 k35) (y_move rfl) ?_
   obtain ⟨x59, f1, hs⟩ := bind_some hs
   obtain ⟨f2, f3, f4, f5⟩ := rs_idx Sl37 Sz3 d4 f1
   refine pl_val (.pointer (some ⟨f2, f3, none⟩)) (f4 _ _ _ _ _ _ _ _ _ rfl rfl) ?_
   refine pl_val (.int .i64 x59) (y_load rfl ((at_load_int Ag3 Sz3 f5) _ (Chg.refl _ _))) ?_
   refine pl_val (.int .i64 (w64 ((w64 (s49 * n)) + x59))) (y_add rfl rfl) ?_
   refine pl_val (.int .i64 (w64 ((w64 (s49 * n)) + x59))) (y_assign rfl) ?_
   refine c_nil ?_
   refine c_region ?_
   refine pl_val (.int .i64 k51) (y_move rfl) ?_
   refine pl_val (.int .i64 (w64 (k51 + 1))) (y_add rfl rfl) ?_
   refine pl_val (.int .i64 (w64 (k51 + 1))) (y_assign rfl) ?_
   refine c_nil ?_
   cases hs
   have hO := hO.fr1
   have hO := hO.fr1
   exact ⟨_, fr_ovl 45 ⟨rfl, rfl, rfl, rfl, rfl, rfl, rfl, congrArg (Value.int .i64) hw, trivial⟩, hC, hO, h0, h1, a0, a4⟩
  ·skip
   have hO := hO.fr1
   have hO := hO.fr1
   exact ⟨_, fr_ovl 45 ⟨rfl, rfl, rfl, rfl, rfl, rfl, rfl, rfl, trivial⟩, hC, hO, h0, h1, a0, a4⟩
  cases o53 with
  | nx _ => exact True.intro
  | rt r_ =>
   have hs := after_rt hs
   intro c0 c8 hK
   cases hs
   exact hK
  | br s49 =>
   have hs := after_br hs
   rintro c0 a1 ⟨σ, rfl, hC, hO, h0, h1, a0, a4⟩
   refine c_region ?_
   refine pl_val (.slice a5 a6 a7) (y_move rfl) ?_
   refine pl_val (.pointer (some ⟨a3, 1, none⟩)) (y_faddr rfl Fa64x1) ?_
   refine pl_val (.slice pa0 pn0 pc0) (y_load rfl ((box_load Ag37 Sz37 a0 [(.int .i64 f.1)] [(.slice pa0 pn0 pc0)] [] rfl rfl (fun _ => rfl)) _ (Chg.refl _ _))) ?_
   refine pl_val (.int .i64 s49) (y_move rfl) ?_
   obtain ⟨x61, f6, hs⟩ := bind_some hs
   obtain ⟨f7, f8, f9, c1⟩ := rs_idx Sl37 Sz3 h0 f6
   refine pl_val (.pointer (some ⟨f7, f8, none⟩)) (f9 _ _ _ _ _ _ _ _ _ rfl rfl) ?_
   refine pl_val (.int .i64 x61) (y_load rfl ((at_load_int Ag3 Sz3 c1) _ (Chg.refl _ _))) ?_
   obtain ⟨d5, c2, g0, d6, a9, d7⟩ := new_block a1 [(.int .i64 x61)] 3
   refine pl_val (w' := d5) (.slice (some ⟨c2, 0, none⟩) 1 1) (y_bslice rfl (by rw [g0, d6]; kernel_rfl)) ?_
   have h0 := h0.ext a9
   have h1 := h1.ext a9
   have a0 := a0.cn a9
   have a4 := a4.ext a9
   have c1 := at_ext c1 a9
   have hC := hC.ext a9
   have hO := hO.new1 a9 d6 d7.lt
   have c3 := os_of_box (r := (RT.int .i64)) (M := M) (css := [[(.int .i64 x61)]]) (fps := [([] : List Nat)]) (xs := ([x61] : List Int)) d7 ⟨⟨rfl, rfl⟩, trivial⟩ (Nat.le_of_ble_eq_true rfl) (List.nodup_cons.2 ⟨(fun h => nomatch h), List.nodup_nil⟩)
   have c3 : (RT.os 3 (RT.int .i64)).val M d5 (.slice (some ⟨c2, 0, none⟩) 1 1) [x61] [c2] := c3
   obtain ⟨y66, g1, hs⟩ := bind_some hs
   have hO := hO.fr1
   obtain ⟨c4, c5, c6, g2, g3, g4, b5, g5, c7⟩ := app_os Rw37 g1 a4 c3 hO.inM (fun g hg hq => hO.apart g hq (mem_l hg))
   have b8 := os_block a4
   refine pl_val (w' := g2) (.slice c4 c5 c6) (y_append rfl rfl (g4 _)) ?_
   have hO := hO.fr1
   have hO := hO.fr1
   have h0 := h0.mt b5 hO b8
   have h1 := h1.mt b5 hO b8
   have a0 := a0.ap b5 hO b8 (mem_r (mem_l (List.mem_singleton.2 rfl)))
   have hC := hC.st b5 hO b8
   have hO := hO.eat b5 g5 (os_nodup c7) c7.fpl
   refine pl_val (.slice c4 c5 c6) (y_assign rfl) ?_
   refine c_nil ?_
   refine c_region ?_
   refine pl_val (.int .i64 k35) (y_move rfl) ?_
   refine pl_val (.int .i64 (w64 (k35 + 1))) (y_add rfl rfl) ?_
   refine pl_val (.int .i64 (w64 (k35 + 1))) (y_assign rfl) ?_
   refine c_nil ?_
   cases hs
   have hO := hO.fr1
   have hO := hO.fr1
   exact ⟨_, c4, c5, c6, g3, fr_ovl 45 ⟨rfl, rfl, rfl, rfl, rfl, congrArg (Value.int .i64) hw, trivial⟩, hC, hO, h0, h1, a0, c7⟩
 ·skip
  have hO := hO.fr1
  have hO := hO.fr1
  exact ⟨_, (some ⟨b0, 0, none⟩), 0, 0, ([b0]), fr_ovl 45 ⟨rfl, rfl, rfl, rfl, rfl, rfl, trivial⟩, hC, hO, h0, h1, a0, b9⟩
 cases o37 with
 | nx _ => exact True.intro
 | rt r_ =>
  have hs := after_rt hs
  intro c0 c8 hK
  cases hs
  exact hK
 | br s33 =>
  have hs := after_br hs
  rintro c0 a2 ⟨σ, b1, b2, b3, b7, rfl, hC, hO, h0, h1, a0, g6⟩
  refine c_sr ?_
  refine pl_val (.slice b1 b2 b3) (y_move rfl) ?_
  refine pl_val (.slice b1 b2 b3) (y_assign rfl) ?_
  refine c_nil ?_
  refine wp_ret ?_
  cases hs
  have hO := hO.fr1
  have hO := hO.drop
  exact ⟨_, b1, b2, b3, b7, fr_ovl 45 ⟨rfl, trivial⟩, hC, g6, hO.top⟩

theorem Bd119 : Bodied Try.prog 119 := bodied Try.func119 (by kernel_rfl) rfl

theorem Bd120 : Bodied Try.prog 120 := bodied Try.func120 (by kernel_rfl) rfl

theorem Bd115 : Bodied Try.prog 115 := bodied Try.func115 (by kernel_rfl) rfl

def k_spec_l12Round__take1 (M : Nat → Prop) (w0 : World) (qa0 : Option Addr) (qn0 qc0 : Nat) (qf0 : List Nat) (qa1 : Option Addr) (qn1 qc1 : Nat) (qf1 : List Nat) (r : ((List (List Int)) × (List (Int × (List Int))) × Bool)) (a : Act) (w : World) : Prop :=
  ∃ (σ : Nat → Value) (rg14 : Nat) (ra0 : Option Addr) (rn0 rc0 : Nat) (rf0 : List Nat) (ra1 : Option Addr) (rn1 rc1 : Nat) (rf1 : List Nat), a = fr 73 (ovl σ [(14, (.pointer (some ⟨rg14, 0, none⟩)))]) ∧ BoxV w rg14 89 [(.slice ra0 rn0 rc0), (.slice ra1 rn1 rc1), (.bool r.2.2)] ∧ Chg (qf0 ++ (qf1 ++ ([]))) w0 w ∧ (RT.os 37 (RT.rs (RT.int .i64))).val (PastL M (qf0 ++ (qf1 ++ ([]))) w0 w (rf0 ++ (rf1 ++ ([])))) w (.slice ra0 rn0 rc0) r.1 rf0 ∧ (RT.os 119 (RT.pr (RT.int .i64) (RT.os 3 (RT.int .i64)))).val (PastL M (qf0 ++ (qf1 ++ ([]))) w0 w (rf0 ++ (rf1 ++ ([])))) w (.slice ra1 rn1 rc1) r.2.1 rf1 ∧ Own (Nw w0 (qf0 ++ (qf1 ++ ([])))) (fun _ => True) w (rf0 ++ (rf1 ++ ([])))
def s_spec_l12Round__take1 (n : Int) (f : (List (List Int)) × (List (Int × (List Int))) × Bool) (op : Int × (List Int)) (number : Int) (known : Int) (before : Int) (size : Int) : Option (((List (List Int)) × (List (Int × (List Int))) × Bool)) :=
  (iter (S := Int × (List (List Int)) × (List (Int × (List Int))) × Bool) (R := ((List (List Int)) × (List (Int × (List Int))) × Bool)) (fun s174 =>
  ((s_spec_l2Pow known op.1).bind fun r194 =>
  (bif (decide (s174.1 < r194)) then some (!s174.2.2.2) else some false)).bind fun s190 =>
  (bif s190 then (s_spec_l12Fresh known op.1 s174.1 before).bind fun r198 =>
  (bif (!r198) then some (.nx (w64 (s174.1 + 1), s174.2.1, s174.2.2.1, s174.2.2.2)) else (s_spec_l2Args known op.1 s174.1).bind fun r201 =>
  (forC (S := (List (List Int))) (R := ((List (List Int)) × (List (Int × (List Int))) × Bool)) (fun k238 s236 =>
  (idx r201 k238).bind fun x249 =>
  (idx s174.2.1 x249).bind fun x251 =>
  (app s236 ([x251])).bind fun y258 =>
  some (.nx y258)) 0 (r201.length : Int) ([])).bind fun o240 => after o240 (fun r_ => some (.rt r_)) (fun s236 =>
  (s_spec_l12Compose n (op.1, op.2) s236 size).bind fun r262 =>
  (s_spec_l12Add__take02 (s174.2.1, s174.2.2.1, s174.2.2.2) r262 (number, r201)).bind fun r267 =>
  some (.nx (w64 (s174.1 + 1), r267.1, r267.2.1, r267.2.2)))) else some (.br (s174.1, s174.2.1, s174.2.2.1, s174.2.2.2)))) FU (0, f.1, f.2.1, f.2.2)).bind fun o178 => after o178 (fun r_ => some r_) (fun s174 =>
  some (s174.2.1, s174.2.2.1, s174.2.2.2))
set_option maxHeartbeats 4000000 in
theorem c_spec_l12Round__take1 {M : Nat → Prop} {w : World} {pa0 : Option Addr} {pn0 pc0 : Nat} {pf0 : List Nat} {pa1 : Option Addr} {pn1 pc1 : Nat} {pf1 : List Nat} {pa2 : Option Addr} {pn2 pc2 : Nat} (n : Int) (f : (List (List Int)) × (List (Int × (List Int))) × Bool) (op : Int × (List Int)) (number : Int) (known : Int) (before : Int) (size : Int) (h0 : (RT.os 37 (RT.rs (RT.int .i64))).val M w (.slice pa0 pn0 pc0) f.1 pf0) (h1 : (RT.os 119 (RT.pr (RT.int .i64) (RT.os 3 (RT.int .i64)))).val M w (.slice pa1 pn1 pc1) f.2.1 pf1) (h2 : (RT.rs (RT.int .i64)).val M w (.slice pa2 pn2 pc2) op.2 ([])) (hI : Own (Nw w (pf0 ++ (pf1 ++ ([])))) M w (pf0 ++ (pf1 ++ ([])))) (hM : ∀ g, w.heap.size ≤ g → M g) {r : ((List (List Int)) × (List (Int × (List Int))) × Bool)} (hs : s_spec_l12Round__take1 n f op number known before size = some r) :
    Gives Try.prog 116 [(.int .i64 n), (.agg #[(.slice pa0 pn0 pc0), (.slice pa1 pn1 pc1), (.bool f.2.2)]), (.agg #[(.int .i64 op.1), (.slice pa2 pn2 pc2)]), (.int .i64 number), (.int .i64 known), (.int .i64 before), (.int .i64 size)] w (fun v w' => ∃ (ra0 : Option Addr) (rn0 rc0 : Nat) (rf0 : List Nat) (ra1 : Option Addr) (rn1 rc1 : Nat) (rf1 : List Nat), v = (.agg #[(.slice ra0 rn0 rc0), (.slice ra1 rn1 rc1), (.bool r.2.2)]) ∧ Chg (pf0 ++ (pf1 ++ ([]))) w w' ∧ (RT.os 37 (RT.rs (RT.int .i64))).val (PastL M (pf0 ++ (pf1 ++ ([]))) w w' (rf0 ++ (rf1 ++ ([])))) w' (.slice ra0 rn0 rc0) r.1 rf0 ∧ (RT.os 119 (RT.pr (RT.int .i64) (RT.os 3 (RT.int .i64)))).val (PastL M (pf0 ++ (pf1 ++ ([]))) w w' (rf0 ++ (rf1 ++ ([])))) w' (.slice ra1 rn1 rc1) r.2.1 rf1 ∧ Own (Nw w (pf0 ++ (pf1 ++ ([])))) (fun _ => True) w' (rf0 ++ (rf1 ++ ([])))) := by
 refine calls_fr Try.func116 rfl Try.ntmps116 (Nat.le_of_ble_eq_true rfl) ?_
 have hO := hI
 have hC := Chg.refl (pf0 ++ (pf1 ++ ([]))) w
 unfold s_spec_l12Round__take1 at hs
 refine wp_mono (Q := KPost (k_spec_l12Round__take1 M w pa0 pn0 pc0 pf0 pa1 pn1 pc1 pf1 r)) ?_ (fun e a k5 h => ?_)
 rotate_left
 ·cases e
  case ret =>
   obtain ⟨σ, rg14, ra0, rn0, rc0, rf0, ra1, rn1, rc1, rf1, rfl, hbrg14, hrest⟩ := h
   exact ret1x Try.results116 (res_cell rfl (box_load Ag89 Sz89 hbrg14 [] _ [] rfl rfl (fun h => nomatch h))) ⟨ra0, rn0, rc0, rf0, ra1, rn1, rc1, rf1, rfl, hrest⟩
  all_goals exact (h : False).elim
 refine c_sr ?_
 obtain ⟨k6, a7, m4, k7, g1, a0⟩ := new_block w [(.slice pa0 pn0 pc0), (.slice pa1 pn1 pc1), (.bool f.2.2)] 89
 refine pl_val (w' := k6) (.pointer (some ⟨a7, 0, none⟩)) (y_box rfl (by rw [m4, k7]; kernel_rfl)) ?_
 have h0 := h0.ext g1
 have h1 := h1.ext g1
 have h2 := h2.ext g1
 have hC := hC.ext g1
 have hO := hO.new1 g1 k7 a0.lt
 obtain ⟨k8, a8, m5, k9, f5, a1⟩ := new_block k6 [(.int .i64 op.1), (.slice pa2 pn2 pc2)] 64
 refine pl_val (w' := k8) (.pointer (some ⟨a8, 0, none⟩)) (y_box rfl (by rw [m5, k9]; kernel_rfl)) ?_
 have h0 := h0.ext f5
 have h1 := h1.ext f5
 have h2 := h2.ext f5
 have a0 := a0.cn f5
 have hC := hC.ext f5
 have hO := hO.new1 f5 k9 a1.lt
 obtain ⟨m6, a9, m7, l0, f0, a2⟩ := new_block k8 [(.slice none 0 0), (.slice none 0 0), (.bool false)] 89
 refine pl_val (w' := m6) (.pointer (some ⟨a9, 0, none⟩)) (y_alloc (by rw [m7, l0]; kernel_rfl)) ?_
 have h0 := h0.ext f0
 have h1 := h1.ext f0
 have h2 := h2.ext f0
 have a0 := a0.cn f0
 have a1 := a1.cn f0
 have hC := hC.ext f0
 have hO := hO.new1 f0 l0 a2.lt
 refine c_nil ?_
 refine c_seq ?_
 refine c_sr ?_
 refine pl_val (.int .i64 0) (y_assign rfl) ?_
 refine c_nil ?_
 obtain ⟨o178, m8, hs⟩ := bind_some hs
 refine wp_block ?_
 refine wp_iter (id := 0) (I := fun s174 a b0 => ∃ (σ : Nat → Value) (c0 : Nat → Prop) (b3 : Option Addr) (b4 : Nat) (b5 : Nat) (b1 : List Nat) (b6 : Option Addr) (b7 : Nat) (b8 : Nat) (b2 : List Nat), a = fr 73 (ovl σ [(0, (.int .i64 n)), (3, (.int .i64 number)), (4, (.int .i64 known)), (5, (.int .i64 before)), (6, (.int .i64 size)), (8, (.pointer (some ⟨a7, 0, none⟩))), (9, (.pointer (some ⟨a8, 0, none⟩))), (14, (.pointer (some ⟨a9, 0, none⟩))), (15, (.int .i64 s174.1))]) ∧ Chg (pf0 ++ (pf1 ++ ([]))) w b0 ∧ Own (Nw w (pf0 ++ (pf1 ++ ([])))) c0 b0 (b1 ++ (b2 ++ (([a9]) ++ (([a8]) ++ (([a7]) ++ []))))) ∧ KeepsF w (pf0 ++ (pf1 ++ ([]))) M c0 ∧ (RT.rs (RT.int .i64)).val c0 b0 (.slice pa2 pn2 pc2) op.2 ([]) ∧ BoxV b0 a7 89 [(.slice b3 b4 b5), (.slice b6 b7 b8), (.bool s174.2.2.2)] ∧ BoxV b0 a8 64 [(.int .i64 op.1), (.slice pa2 pn2 pc2)] ∧ BoxV b0 a9 89 [(.slice none 0 0), (.slice none 0 0), (.bool false)] ∧ (RT.os 37 (RT.rs (RT.int .i64))).val c0 b0 (.slice b3 b4 b5) s174.2.1 b1 ∧ (RT.os 119 (RT.pr (RT.int .i64) (RT.os 3 (RT.int .i64)))).val c0 b0 (.slice b6 b7 b8) s174.2.2.1 b2) (J := fun s174 a b0 => ∃ (σ : Nat → Value) (f6 : Nat → Prop) (d8 : Option Addr) (d9 : Nat) (e0 : Nat) (g8 : List Nat) (e1 : Option Addr) (e2 : Nat) (e3 : Nat) (g9 : List Nat), a = fr 73 (ovl σ [(8, (.pointer (some ⟨a7, 0, none⟩))), (14, (.pointer (some ⟨a9, 0, none⟩)))]) ∧ Chg (pf0 ++ (pf1 ++ ([]))) w b0 ∧ Own (Nw w (pf0 ++ (pf1 ++ ([])))) f6 b0 (g8 ++ (g9 ++ (([a9]) ++ (([a8]) ++ (([a7]) ++ []))))) ∧ KeepsF w (pf0 ++ (pf1 ++ ([]))) M f6 ∧ (RT.rs (RT.int .i64)).val f6 b0 (.slice pa2 pn2 pc2) op.2 ([]) ∧ BoxV b0 a7 89 [(.slice d8 d9 e0), (.slice e1 e2 e3), (.bool s174.2.2.2)] ∧ BoxV b0 a8 64 [(.int .i64 op.1), (.slice pa2 pn2 pc2)] ∧ BoxV b0 a9 89 [(.slice none 0 0), (.slice none 0 0), (.bool false)] ∧ (RT.os 37 (RT.rs (RT.int .i64))).val f6 b0 (.slice d8 d9 e0) s174.2.1 g8 ∧ (RT.os 119 (RT.pr (RT.int .i64) (RT.os 3 (RT.int .i64)))).val f6 b0 (.slice e1 e2 e3) s174.2.2.1 g9) (K := (k_spec_l12Round__take1 M w pa0 pn0 pc0 pf0 pa1 pn1 pc1 pf1)) ?_ FU (0, f.1, f.2.1, f.2.2) o178 _ _ ?_ m8 ?_
 ·rintro s174 o178 a b0 ⟨σ, c0, b3, b4, b5, b1, b6, b7, b8, b2, rfl, hC, hO, hK, h2, a0, a1, a2, a3, a4⟩ hs
  refine c_seq ?_
  refine c_seq ?_
  obtain ⟨s190, m9, hs⟩ := bind_some hs
  refine c_mid (I := fun a l1 => ∃ (σ : Nat → Value), a = fr 73 (ovl σ [(0, (.int .i64 n)), (3, (.int .i64 number)), (4, (.int .i64 known)), (5, (.int .i64 before)), (6, (.int .i64 size)), (8, (.pointer (some ⟨a7, 0, none⟩))), (9, (.pointer (some ⟨a8, 0, none⟩))), (14, (.pointer (some ⟨a9, 0, none⟩))), (15, (.int .i64 s174.1)), (29, (.bool s190))]) ∧ Chg [] b0 l1) ?_ ?_
  ·replace hs := m9
   have hMid := Chg.refl [] b0
   refine c_region ?_
   refine pl_val (.int .i64 s174.1) (y_move rfl) ?_
   refine pl_val (.int .i64 known) (y_move rfl) ?_
   refine pl_val (.pointer (some ⟨a8, 0, none⟩)) (y_faddr rfl Fa64x0) ?_
   refine pl_val (.int .i64 op.1) (y_load rfl ((box_load Ag3 Sz3 a1 [] [(.int .i64 op.1)] [(.slice pa2 pn2 pc2)] rfl rfl (fun _ => rfl)) _ (Chg.refl _ _))) ?_
   obtain ⟨r194, n0, hs⟩ := bind_some hs
   refine pl_call Bd91 rfl (c_spec_l2Pow (M := c0) known op.1  hO.fut n0) ?_
   rintro _ q7 ⟨rfl, d3⟩
   have h2 := h2.ext d3
   have a0 := a0.cn d3
   have a1 := a1.cn d3
   have a2 := a2.cn d3
   have a3 := a3.ext d3
   have a4 := a4.ext d3
   have hMid := hMid.ext d3
   have hC := hC.ext d3
   have hO := hO.ext d3
   refine pl_val (.bool (decide (s174.1 < r194))) (y_lss rfl rfl) ?_
   refine pl_val (.bool (decide (s174.1 < r194))) (y_move rfl) ?_
   rcases bif_some hs with ⟨d4, hs⟩ | ⟨d4, hs⟩
   ·skip
    refine pl_yes (.pointer (some ⟨a7, 2, none⟩)) (tg := 25) (by kernel_rfl) (congrArg Value.bool d4) (y_faddr rfl Fa89x2) ?_
    refine pl_yes (.bool s174.2.2.2) (tg := 25) (by kernel_rfl) (congrArg Value.bool d4) (y_load rfl ((box_load Ag4 Sz4 a0 [(.slice b3 b4 b5), (.slice b6 b7 b8)] [(.bool s174.2.2.2)] [] rfl rfl (fun _ => rfl)) _ (Chg.refl _ _))) ?_
    refine pl_yes (.bool (!s174.2.2.2)) (tg := 25) (by kernel_rfl) (congrArg Value.bool d4) (y_not rfl) ?_
    refine pl_val (.bool (!s174.2.2.2)) (y_pick_t (congrArg Value.bool d4) rfl) ?_
    refine c_nil ?_
    cases hs
    exact ⟨_, fr_ovl 73 ⟨rfl, rfl, rfl, rfl, rfl, rfl, rfl, rfl, rfl, rfl, trivial⟩, hMid⟩
   refine pl_not (tg := 25) (by kernel_rfl) (congrArg Value.bool d4) ?_
   refine pl_not (tg := 25) (by kernel_rfl) (congrArg Value.bool d4) ?_
   refine pl_not (tg := 25) (by kernel_rfl) (congrArg Value.bool d4) ?_
   refine pl_val (.bool false) (y_pick_f (congrArg Value.bool d4) rfl) ?_
   refine c_nil ?_
   cases hs
   exact ⟨_, fr_ovl 73 ⟨rfl, rfl, rfl, rfl, rfl, rfl, rfl, rfl, rfl, rfl, trivial⟩, hMid⟩
  rintro h3 l1 ⟨σ, rfl, e4⟩
  have h2 := h2.ext e4
  have a0 := a0.cn e4
  have a1 := a1.cn e4
  have a2 := a2.cn e4
  have a3 := a3.ext e4
  have a4 := a4.ext e4
  have hC := hC.ext e4
  have hO := hO.ext e4
  rcases bif_some hs with ⟨h9, hs⟩ | ⟨h9, hs⟩
  ·refine c_condT (congrArg Value.bool h9) ?_
   refine wp_skip ?_
   refine c_seq ?_
   refine wp_block ?_
   refine c_seq ?_
   refine c_sr ?_
   refine pl_val (.int .i64 known) (y_move rfl) ?_
   refine pl_val (.pointer (some ⟨a8, 0, none⟩)) (y_faddr rfl Fa64x0) ?_
   refine pl_val (.int .i64 op.1) (y_load rfl ((box_load Ag3 Sz3 a1 [] [(.int .i64 op.1)] [(.slice pa2 pn2 pc2)] rfl rfl (fun _ => rfl)) _ (Chg.refl _ _))) ?_
   refine pl_val (.int .i64 s174.1) (y_move rfl) ?_
   refine pl_val (.int .i64 before) (y_move rfl) ?_
   obtain ⟨r198, n1, hs⟩ := bind_some hs
   refine pl_call Bd119 rfl (c_spec_l12Fresh (M := c0) known op.1 s174.1 before  hO.fut n1) ?_
   rintro _ q8 ⟨rfl, e5⟩
   have h2 := h2.ext e5
   have a0 := a0.cn e5
   have a1 := a1.cn e5
   have a2 := a2.cn e5
   have a3 := a3.ext e5
   have a4 := a4.ext e5
   have hC := hC.ext e5
   have hO := hO.ext e5
   refine pl_val (.bool (!r198)) (y_not rfl) ?_
   refine c_nil ?_
   rcases bif_some hs with ⟨i0, hs⟩ | ⟨i0, hs⟩
   ·refine c_condT (congrArg Value.bool i0) ?_
    refine wp_exit ?_
    refine c_region ?_
    refine pl_val (.int .i64 s174.1) (y_move rfl) ?_
    refine pl_val (.int .i64 (w64 (s174.1 + 1))) (y_add rfl rfl) ?_
    refine pl_val (.int .i64 (w64 (s174.1 + 1))) (y_assign rfl) ?_
    refine c_nil ?_
    cases hs
    have hO := hO.fr4
    have hO := hO.fr4
    have hO := hO.fr4
    have hO := hO.fr4
    have hO := hO.fr4
    exact ⟨_, c0, b3, b4, b5, b1, b6, b7, b8, b2, fr_ovl 73 ⟨rfl, rfl, rfl, rfl, rfl, rfl, rfl, rfl, rfl, trivial⟩, hC, hO, hK, h2, a0, a1, a2, a3, a4⟩
   refine c_condF (congrArg Value.bool i0) ?_
   refine wp_skip ?_
   refine c_sr ?_
   refine pl_val (.int .i64 known) (y_move rfl) ?_
   refine pl_val (.pointer (some ⟨a8, 0, none⟩)) (y_faddr rfl Fa64x0) ?_
   refine pl_val (.int .i64 op.1) (y_load rfl ((box_load Ag3 Sz3 a1 [] [(.int .i64 op.1)] [(.slice pa2 pn2 pc2)] rfl rfl (fun _ => rfl)) _ (Chg.refl _ _))) ?_
   refine pl_val (.int .i64 s174.1) (y_move rfl) ?_
   obtain ⟨r201, n2, hs⟩ := bind_some hs
   refine pl_call Bd92 rfl (c_spec_l2Args (M := c0) known op.1 s174.1  hO.fut n2) ?_
   rintro _ n3 ⟨c8, c9, d0, c1, rfl, e6, a6, n4⟩
   have h2 := h2.ext e6
   have a0 := a0.cn e6
   have a1 := a1.cn e6
   have a2 := a2.cn e6
   have a3 := a3.ext e6
   have a4 := a4.ext e6
   have hC := hC.ext e6
   have hO := Own.join0 hO e6 n4
   have hO := hO.perm (R := c1 ++ (b1 ++ (b2 ++ (([a9]) ++ (([a8]) ++ (([a7]) ++ ([]))))))) (by simp)
   refine pl_val (.slice c8 c9 d0) (y_assign rfl) ?_
   refine c_nil ?_
   refine c_sr ?_
   obtain ⟨l2, g2, n5, l3, d5, l4⟩ := new_block n3 [] 37
   refine pl_val (w' := l2) (.slice (some ⟨g2, 0, none⟩) 0 0) (y_bslice rfl (by rw [n5, l3]; kernel_rfl)) ?_
   have h2 := h2.ext d5
   have a0 := a0.cn d5
   have a1 := a1.cn d5
   have a2 := a2.cn d5
   have a3 := a3.ext d5
   have a4 := a4.ext d5
   have a6 := a6.ext d5
   have hC := hC.ext d5
   have hO := hO.new1 d5 l3 l4.lt
   have i1 := os_of_box (r := (RT.os 3 (RT.int .i64))) (M := c0) (css := []) (fps := []) (xs := ([] : List (List Int))) l4 trivial (Nat.zero_le _) (List.nodup_cons.2 ⟨(fun h => nomatch h), List.nodup_nil⟩)
   have i1 : (RT.os 37 (RT.os 3 (RT.int .i64))).val c0 l2 (.slice (some ⟨g2, 0, none⟩) 0 0) [] [g2] := i1
   refine pl_val (.slice (some ⟨g2, 0, none⟩) 0 0) (y_assign rfl) ?_
   refine c_nil ?_
   refine c_seq ?_
   refine c_sr ?_
   refine pl_val (.int .i64 0) (y_assign rfl) ?_
   refine c_nil ?_
   obtain ⟨g3, n6, h4, n7, hO, n8⟩ := osF_inner (Frz.os Frz.int) i1 hO
   have h2 := h2.sub (M' := g3) h4
   have a3 := a3.sub (M' := g3) h4
   have a4 := a4.sub (M' := g3) h4
   have a6 := a6.sub (M' := g3) h4
   have hK := hK.trans n7
   obtain ⟨o240, n9, hs⟩ := bind_some hs
   refine wp_block ?_
   refine wp_forC (id := 2) (r201.length : Int) (I := fun k238 s236 a a5 => ∃ (σ : Nat → Value) (c2 : Nat → Prop) (f7 : Option Addr) (f8 : Nat) (f9 : Nat) (g4 : List Nat), a = fr 73 (ovl σ [(0, (.int .i64 n)), (3, (.int .i64 number)), (4, (.int .i64 known)), (5, (.int .i64 before)), (6, (.int .i64 size)), (8, (.pointer (some ⟨a7, 0, none⟩))), (9, (.pointer (some ⟨a8, 0, none⟩))), (14, (.pointer (some ⟨a9, 0, none⟩))), (15, (.int .i64 s174.1)), (16, (.slice c8 c9 d0)), (17, (.slice f7 f8 f9)), (18, (.int .i64 k238))]) ∧ Chg (pf0 ++ (pf1 ++ ([]))) w a5 ∧ Own (Nw w (pf0 ++ (pf1 ++ ([])))) c2 a5 (g4 ++ (c1 ++ (b1 ++ (b2 ++ (([a9]) ++ (([a8]) ++ (([a7]) ++ []))))))) ∧ KeepsF w (pf0 ++ (pf1 ++ ([]))) M c2 ∧ (RT.rs (RT.int .i64)).val c2 a5 (.slice pa2 pn2 pc2) op.2 ([]) ∧ BoxV a5 a7 89 [(.slice b3 b4 b5), (.slice b6 b7 b8), (.bool s174.2.2.2)] ∧ BoxV a5 a8 64 [(.int .i64 op.1), (.slice pa2 pn2 pc2)] ∧ BoxV a5 a9 89 [(.slice none 0 0), (.slice none 0 0), (.bool false)] ∧ (RT.os 37 (RT.rs (RT.int .i64))).val c2 a5 (.slice b3 b4 b5) s174.2.1 b1 ∧ (RT.os 119 (RT.pr (RT.int .i64) (RT.os 3 (RT.int .i64)))).val c2 a5 (.slice b6 b7 b8) s174.2.2.1 b2 ∧ (RT.os 3 (RT.int .i64)).val c2 a5 (.slice c8 c9 d0) r201 c1 ∧ (RT.os 37 (RT.rs (RT.int .i64))).val c2 a5 (.slice f7 f8 f9) s236 g4) (J := fun s236 a a5 => ∃ (σ : Nat → Value) (d1 : Nat → Prop) (h5 : Option Addr) (h6 : Nat) (h7 : Nat) (e7 : List Nat), a = fr 73 (ovl σ [(0, (.int .i64 n)), (3, (.int .i64 number)), (4, (.int .i64 known)), (5, (.int .i64 before)), (6, (.int .i64 size)), (8, (.pointer (some ⟨a7, 0, none⟩))), (9, (.pointer (some ⟨a8, 0, none⟩))), (14, (.pointer (some ⟨a9, 0, none⟩))), (15, (.int .i64 s174.1)), (16, (.slice c8 c9 d0)), (17, (.slice h5 h6 h7))]) ∧ Chg (pf0 ++ (pf1 ++ ([]))) w a5 ∧ Own (Nw w (pf0 ++ (pf1 ++ ([])))) d1 a5 (e7 ++ (c1 ++ (b1 ++ (b2 ++ (([a9]) ++ (([a8]) ++ (([a7]) ++ []))))))) ∧ KeepsF w (pf0 ++ (pf1 ++ ([]))) M d1 ∧ (RT.rs (RT.int .i64)).val d1 a5 (.slice pa2 pn2 pc2) op.2 ([]) ∧ BoxV a5 a7 89 [(.slice b3 b4 b5), (.slice b6 b7 b8), (.bool s174.2.2.2)] ∧ BoxV a5 a8 64 [(.int .i64 op.1), (.slice pa2 pn2 pc2)] ∧ BoxV a5 a9 89 [(.slice none 0 0), (.slice none 0 0), (.bool false)] ∧ (RT.os 37 (RT.rs (RT.int .i64))).val d1 a5 (.slice b3 b4 b5) s174.2.1 b1 ∧ (RT.os 119 (RT.pr (RT.int .i64) (RT.os 3 (RT.int .i64)))).val d1 a5 (.slice b6 b7 b8) s174.2.2.1 b2 ∧ (RT.os 3 (RT.int .i64)).val d1 a5 (.slice c8 c9 d0) r201 c1 ∧ (RT.os 37 (RT.rs (RT.int .i64))).val d1 a5 (.slice h5 h6 h7) s236 e7) (K := (k_spec_l12Round__take1 M w pa0 pn0 pc0 pf0 pa1 pn1 pc1 pf1)) ?_ ?_ 0 ([]) o240 _ _ ?_ n9 ?_
   ·rintro k238 s236 a a5 ⟨σ, c2, f7, f8, f9, g4, rfl, hC, hO, hK, h2, a0, a1, a2, a3, a4, a6, e8⟩ hlt
    refine c_seq ?_
    refine c_sr ?_
    refine pl_val (.int .i64 k238) (y_move rfl) ?_
    refine pl_val (.slice c8 c9 d0) (y_move rfl) ?_
    refine pl_val (.int .i64 (r201.length : Int)) (y_len' Sl37 (os_len a6) rfl) ?_
    refine pl_val (.bool (decide (k238 < (r201.length : Int)))) (y_lss rfl rfl) ?_
    refine c_nil ?_
    refine c_condF (congrArg Value.bool (decide_eq_false hlt)) ?_
    refine wp_exit ?_
    have hO := hO.fr6
    have hO := hO.fr6
    have hO := hO.fr6
    have hO := hO.fr6
    have hO := hO.fr6
    have hO := hO.fr6
    have hO := hO.fr6
    exact ⟨rfl, _, c2, f7, f8, f9, g4, fr_ovl 73 ⟨rfl, rfl, rfl, rfl, rfl, rfl, rfl, rfl, rfl, rfl, rfl, trivial⟩, hC, hO, hK, h2, a0, a1, a2, a3, a4, a6, e8⟩
   ·rintro k238 s236 o240 a a5 ⟨σ, c2, f7, f8, f9, g4, rfl, hC, hO, hK, h2, a0, a1, a2, a3, a4, a6, e8⟩ hlt hw hs
    refine c_seq ?_
    refine c_sr ?_
    refine pl_val (.int .i64 k238) (y_move rfl) ?_
    refine pl_val (.slice c8 c9 d0) (y_move rfl) ?_
    refine pl_val (.int .i64 (r201.length : Int)) (y_len' Sl37 (os_len a6) rfl) ?_
    refine pl_val (.bool (decide (k238 < (r201.length : Int)))) (y_lss rfl rfl) ?_
    refine c_nil ?_
    refine c_condT (congrArg Value.bool (decide_eq_true hlt)) ?_
    refine wp_skip ?_
    refine c_seq ?_
    refine wp_block ?_
    refine x_start [10] Mx rfl ?_
    have c6 := Chg.drew a5
    generalize World.drew a5 = l5 at c6 ⊢
    have h2 := h2.ext c6
    have a0 := a0.cn c6
    have a1 := a1.cn c6
    have a2 := a2.cn c6
    have a3 := a3.ext c6
    have a4 := a4.ext c6
    have a6 := a6.ext c6
    have e8 := e8.ext c6
    have hC := hC.ext c6
    have hO := hO.ext c6
    have hS := Chg.refl [] l5
    refine x_p 0 (.slice f7 f8 f9) rfl (by kernel_rfl)  (fun _ => y_move rfl) (fun _ => hS) ?_
    refine x_p 1 (.pointer (some ⟨a7, 0, none⟩)) rfl (by kernel_rfl)  (fun _ => y_faddr rfl Fa89x0) (fun _ => hS) ?_
    refine x_l 2 (.slice b3 b4 b5) rfl (by kernel_rfl)  (fun w' hw' => y_load rfl ((box_load Ag47 Sz47 a0 [] [(.slice b3 b4 b5)] [(.slice b6 b7 b8), (.bool s174.2.2.2)] rfl rfl (fun _ => rfl)) w' hw')) hS ?_
    refine x_p 3 (.slice c8 c9 d0) rfl (by kernel_rfl)  (fun _ => y_move rfl) (fun _ => hS) ?_
    refine x_p 4 (.int .i64 k238) rfl (by kernel_rfl)  (fun _ => y_move rfl) (fun _ => hS) ?_
    obtain ⟨x249, o0, hs⟩ := bind_some hs
    obtain ⟨o1, q9, r0, r1, o2, i2, r2⟩ := os_idx Sl37 Sz3 a6 o0
    refine x_p 5 (.pointer (some ⟨o1, 0 + Int.toNat k238 * 1, none⟩)) rfl (by kernel_rfl)  (fun _ => o2 _ _ _ _ _ _ _ _ _ rfl rfl) (fun _ => hS) ?_
    refine x_l 6 (.int .i64 x249) rfl (by kernel_rfl)  (fun w' hw' => y_load rfl ((at_load_int Ag3 Sz3 i2) w' hw')) hS ?_
    obtain ⟨x251, o3, hs⟩ := bind_some hs
    obtain ⟨o4, r3, r4, r5, o5, o6, r6⟩ := os_idx Sl47 Sz37 a3 o3
    have o7 := rd_row Rd.rs o6
    refine x_p 7 (.pointer (some ⟨o4, 0 + Int.toNat x249 * 1, none⟩)) rfl (by kernel_rfl)  (fun _ => o5 _ _ _ _ _ _ _ _ _ rfl rfl) (fun _ => hS) ?_
    obtain ⟨r7, o8, g0⟩ := at_load Ag37 Sz37 (fun _ => rfl) o7
    obtain ⟨i3, i4, i5, rfl⟩ := rs_sl g0
    refine x_l 8 (.slice i3 i4 i5) rfl (by kernel_rfl)  (fun w' hw' => y_load rfl (o8 w' hw')) hS ?_
    refine x_one (i := 9) (by kernel_rfl) ?_
    obtain ⟨l6, i6, o9, l7, b9, l8⟩ := new_block l5 [(.slice i3 i4 i5)] 37
    refine xk_val (w' := l6) (b := false) (.slice (some ⟨i6, 0, none⟩) 1 1) rfl  (y_bslice rfl (by rw [o9, l7]; kernel_rfl)) rfl (fun _ => hS.ext b9) ?_
    have h2 := h2.ext b9
    have a0 := a0.cn b9
    have a1 := a1.cn b9
    have a2 := a2.cn b9
    have a3 := a3.ext b9
    have a4 := a4.ext b9
    have a6 := a6.ext b9
    have e8 := e8.ext b9
    have g0 := g0.ext b9
    have i2 := at_ext i2 b9
    have hC := hC.ext b9
    have hO := hO.new1 b9 l7 l8.lt
    have i7 := os_of_box (r := (RT.rs (RT.int .i64))) (M := c2) (css := [[(.slice i3 i4 i5)]]) (fps := [([] : List Nat)]) (xs := ([x251] : List (List Int))) l8 ⟨(rs_unval g0), trivial⟩ (Nat.le_of_ble_eq_true rfl) (List.nodup_cons.2 ⟨(fun h => nomatch h), List.nodup_nil⟩)
    have i7 : (RT.os 37 (RT.rs (RT.int .i64))).val c2 l6 (.slice (some ⟨i6, 0, none⟩) 1 1) [x251] [i6] := i7
    have hS := hS.ext b9
    refine x_one (i := 10) (by kernel_rfl) ?_
    obtain ⟨y258, p0, hs⟩ := bind_some hs
    have hO := hO.fr1
    obtain ⟨i9, j0, j1, p1, p2, p3, d2, p4, j2⟩ := app_os Rw47 p0 e8 i7 hO.inM (fun g hg hq => hO.apart g hq (mem_l hg))
    have d6 := os_block e8
    refine xk_val (w' := p1) (b := true) (.slice i9 j0 j1) rfl  (y_append rfl rfl (p3 _)) rfl (fun h => nomatch h) ?_
    have hO := hO.fr1
    have hO := hO.fr1
    have h2 := h2.mt d2 hO d6
    have a0 := a0.ap d2 hO d6 (mem_r (mem_r (mem_r (mem_r (mem_r (mem_r (mem_l (List.mem_singleton.2 rfl))))))))
    have a1 := a1.ap d2 hO d6 (mem_r (mem_r (mem_r (mem_r (mem_r (mem_l (List.mem_singleton.2 rfl)))))))
    have a2 := a2.ap d2 hO d6 (mem_r (mem_r (mem_r (mem_r (mem_l (List.mem_singleton.2 rfl))))))
    have a3 := a3.ma d2 hO d6 (fun _ e => (mem_r (mem_r (mem_l (e)))))
    have a4 := a4.ma d2 hO d6 (fun _ e => (mem_r (mem_r (mem_r (mem_l (e))))))
    have a6 := a6.ma d2 hO d6 (fun _ e => (mem_r (mem_l (e))))
    have g0 := g0.mt d2 hO d6
    have hC := hC.st d2 hO d6
    have hO := hO.eat d2 p4 (os_nodup j2) j2.fpl
    refine x_p 11 (.slice i9 j0 j1) rfl (by kernel_rfl)  (fun _ => y_assign rfl) (fun h => nomatch h) ?_
    refine x_end (by kernel_rfl) ?_
    clear hS
    refine c_region ?_
    refine pl_val (.int .i64 k238) (y_move rfl) ?_
    refine pl_val (.int .i64 (w64 (k238 + 1))) (y_add rfl rfl) ?_
    refine pl_val (.int .i64 (w64 (k238 + 1))) (y_assign rfl) ?_
    refine c_nil ?_
    cases hs
    have hO := hO.fr6
    have hO := hO.fr6
    have hO := hO.fr6
    have hO := hO.fr6
    have hO := hO.fr6
    have hO := hO.fr6
    have hO := hO.fr6
    exact ⟨_, c2, i9, j0, j1, p2, fr_ovl 73 ⟨rfl, rfl, rfl, rfl, rfl, rfl, rfl, rfl, rfl, rfl, rfl, congrArg (Value.int .i64) hw, trivial⟩, hC, hO, hK, h2, a0, a1, a2, a3, a4, a6, j2⟩
   ·skip
    have hO := hO.fr6
    have hO := hO.fr6
    have hO := hO.fr6
    have hO := hO.fr6
    have hO := hO.fr6
    have hO := hO.fr6
    have hO := hO.fr6
    exact ⟨_, g3, (some ⟨g2, 0, none⟩), 0, 0, n6, fr_ovl 73 ⟨rfl, rfl, rfl, rfl, rfl, rfl, rfl, rfl, rfl, rfl, rfl, rfl, trivial⟩, hC, hO, hK, h2, a0, a1, a2, a3, a4, a6, n8⟩
   cases o240 with
   | nx _ => exact True.intro
   | rt r_ =>
    have hs := after_rt hs
    intro h3 k5 hK
    cases hs
    exact hK
   | br s236 =>
    have hs := after_br hs
    rintro h3 a5 ⟨σ, d1, h5, h6, h7, e7, rfl, hC, hO, hK, h2, a0, a1, a2, a3, a4, a6, c3⟩
    refine x_start [9, 10] Mx rfl ?_
    have c7 := Chg.drew a5
    generalize World.drew a5 = p5 at c7 ⊢
    have h2 := h2.ext c7
    have a0 := a0.cn c7
    have a1 := a1.cn c7
    have a2 := a2.cn c7
    have a3 := a3.ext c7
    have a4 := a4.ext c7
    have a6 := a6.ext c7
    have c3 := c3.ext c7
    have hC := hC.ext c7
    have hO := hO.ext c7
    have hS := Chg.refl [] p5
    refine x_l 0 (.agg #[(.slice b3 b4 b5), (.slice b6 b7 b8), (.bool s174.2.2.2)]) rfl (by kernel_rfl)  (fun w' hw' => y_load rfl ((box_load Ag89 Sz89 a0 [] [(.slice b3 b4 b5), (.slice b6 b7 b8), (.bool s174.2.2.2)] [] rfl rfl (fun h => nomatch h)) w' hw')) hS ?_
    refine x_p 1 (.int .i64 n) rfl (by kernel_rfl)  (fun _ => y_move rfl) (fun _ => hS) ?_
    refine x_l 2 (.agg #[(.int .i64 op.1), (.slice pa2 pn2 pc2)]) rfl (by kernel_rfl)  (fun w' hw' => y_load rfl ((box_load Ag64 Sz64 a1 [] [(.int .i64 op.1), (.slice pa2 pn2 pc2)] [] rfl rfl (fun h => nomatch h)) w' hw')) hS ?_
    refine x_p 3 (.slice h5 h6 h7) rfl (by kernel_rfl)  (fun _ => y_move rfl) (fun _ => hS) ?_
    refine x_p 4 (.int .i64 size) rfl (by kernel_rfl)  (fun _ => y_move rfl) (fun _ => hS) ?_
    refine x_p 6 (.int .i64 number) rfl (by kernel_rfl)  (fun _ => y_move rfl) (fun _ => hS) ?_
    refine x_p 7 (.slice c8 c9 d0) rfl (by kernel_rfl)  (fun _ => y_move rfl) (fun _ => hS) ?_
    refine x_p 8 (.agg #[(.int .i64 number), (.slice c8 c9 d0)]) rfl (by kernel_rfl)  (fun _ => y_build rfl (by kernel_rfl)) (fun _ => hS) ?_
    refine x_one (i := 5) (by kernel_rfl) ?_
    obtain ⟨r262, p6, hs⟩ := bind_some hs
    refine xk_call (b := false) rfl  Bd120 rfl (c_spec_l12Compose (M := (Less d1 e7)) n (op.1, op.2) s236 size (h2.sub Less.sub) (((Frz.os (Frz.rs Frz.int))).val c3 Less.sub Less.not) hO.less.fut p6) rfl (by rintro _ _ _ ⟨p7, p8, p9, l9, rfl, c4, h8, m0⟩; exact hS.ext c4) ?_
    rintro _ g5 ⟨p7, p8, p9, l9, rfl, c4, h8, m0⟩
    have h2 := h2.ext c4
    have a0 := a0.cn c4
    have a1 := a1.cn c4
    have a2 := a2.cn c4
    have a3 := a3.ext c4
    have a4 := a4.ext c4
    have a6 := a6.ext c4
    have c3 := c3.ext c4
    have hC := hC.ext c4
    have hO := Own.join0 hO c4 m0
    have hO := hO.perm (R := l9 ++ (e7 ++ (c1 ++ (b1 ++ (b2 ++ (([a9]) ++ (([a8]) ++ (([a7]) ++ ([]))))))))) (by simp)
    have h8 := h8.free (M' := d1) (Free.os Free.int)
    have hS := hS.ext c4
    refine x_one (i := 9) (by kernel_rfl) ?_
    obtain ⟨c5, r8, g6, q0, hO, f1⟩ := frzF_own (Frz.os Frz.int) h8 hO
    have h2 := h2.sub (M' := c5) g6
    have a3 := a3.sub (M' := c5) g6
    have a4 := a4.sub (M' := c5) g6
    have a6 := a6.sub (M' := c5) g6
    have c3 := c3.sub (M' := c5) g6
    have hK := hK.trans q0
    have hO := hO.fr1
    have hO := hO.fr3
    have hO := hO.fr3
    have q1 := hO
    have m1 := Own.lend (F := (b1 ++ (b2 ++ (c1 ++ ([]))))) (R := e7 ++ (([a9]) ++ (([a8]) ++ (([a7]) ++ ([]))))) (Own.perm (q1) (by simp))
    obtain ⟨r267, q2, hs⟩ := bind_some hs
    refine xk_call (b := true) rfl  Bd115 rfl (c_spec_l12Add__take02 (M := c5) (s174.2.1, s174.2.2.1, s174.2.2.2) r262 (number, r201) a3 a4 f1 a6 m1 m1.fut q2) rfl (fun h => nomatch h) ?_
    rintro _ g7 ⟨j3, j4, j5, f2, j6, j7, j8, f3, rfl, e9, j9, k0, q3⟩
    have hO := hO.fr2
    have hO := hO.fr2
    have hO := hO.fr2
    have hO := hO.perm (R := (b1 ++ (b2 ++ (c1 ++ ([])))) ++ (e7 ++ (([a9]) ++ (([a8]) ++ (([a7]) ++ ([])))))) (by simp)
    have q4 := Own.pastL hO e9 q3
    have hK := hK.trans (show KeepsF w (pf0 ++ (pf1 ++ ([]))) c5 (PastL c5 (b1 ++ (b2 ++ (c1 ++ ([])))) g5 g7 (f2 ++ (f3 ++ ([])))) from KeepsF.pastL hC.size (fun g hg => (hO.inN g hg)))
    have h2 := h2.mt e9 hO same_
    have a0 := a0.ap e9 hO same_ (mem_r (mem_r (mem_r (mem_l (List.mem_singleton.2 rfl)))))
    have a1 := a1.ap e9 hO same_ (mem_r (mem_r (mem_l (List.mem_singleton.2 rfl))))
    have a2 := a2.ap e9 hO same_ (mem_r (mem_l (List.mem_singleton.2 rfl)))
    have c3 := c3.ma e9 hO same_ (fun _ e => (mem_l (e)))
    have f1 := f1.mt e9 hO same_
    have hC := hC.st e9 hO same_
    have hO := q4
    have h2 := h2.sub (M' := (PastL c5 (b1 ++ (b2 ++ (c1 ++ ([])))) g5 g7 (f2 ++ (f3 ++ ([]))))) (fun g hg => .inl hg.1)
    have c3 := c3.sub (M' := (PastL c5 (b1 ++ (b2 ++ (c1 ++ ([])))) g5 g7 (f2 ++ (f3 ++ ([]))))) (fun g hg => .inl hg.1)
    have f1 := f1.sub (M' := (PastL c5 (b1 ++ (b2 ++ (c1 ++ ([])))) g5 g7 (f2 ++ (f3 ++ ([]))))) (fun g hg => .inl hg.1)
    have hO := hO.perm (R := f2 ++ (f3 ++ (e7 ++ (([a9]) ++ (([a8]) ++ (([a7]) ++ ([]))))))) (by simp)
    refine x_one (i := 10) (by kernel_rfl) ?_
    obtain ⟨m2, q5, d7, k1⟩ := box_store (P := Try.prog) a0 [] [(.slice b3 b4 b5), (.slice b6 b7 b8), (.bool s174.2.2.2)] [] [(.slice j3 j4 j5), (.slice j6 j7 j8), (.bool r267.2.2)] rfl rfl (by intro u hu; simp only [List.mem_cons, List.not_mem_nil, or_false] at hu; rcases hu with rfl | rfl | rfl <;> rfl)
    refine xk_skip (w' := m2) (b := true) rfl (ys_store rfl rfl (q5 _ _ rfl Sz89)) rfl (fun h => nomatch h) ?_
    have hO := hO.fr5
    have h2 := h2.mt d7 hO same_
    have a1 := a1.ap d7 hO same_ (mem_r (mem_r (mem_r (mem_r (mem_l (List.mem_singleton.2 rfl))))))
    have a2 := a2.ap d7 hO same_ (mem_r (mem_r (mem_r (mem_l (List.mem_singleton.2 rfl)))))
    have c3 := c3.ma d7 hO same_ (fun _ e => (mem_r (mem_r (mem_l (e)))))
    have f1 := f1.mt d7 hO same_
    have j9 := j9.ma d7 hO same_ (fun _ e => (mem_l (e)))
    have k0 := k0.ma d7 hO same_ (fun _ e => (mem_r (mem_l (e))))
    have hC := hC.st d7 hO same_
    have hO := hO.ext d7
    have k1 : BoxV m2 a7 89 [(.slice j3 j4 j5), (.slice j6 j7 j8), (.bool r267.2.2)] := k1
    refine x_end (by kernel_rfl) ?_
    clear hS
    refine c_region ?_
    refine pl_val (.int .i64 s174.1) (y_move rfl) ?_
    refine pl_val (.int .i64 (w64 (s174.1 + 1))) (y_add rfl rfl) ?_
    refine pl_val (.int .i64 (w64 (s174.1 + 1))) (y_assign rfl) ?_
    refine c_nil ?_
    cases hs
    have hO := hO.fr3
    have hO := hO.drop
    have hO := hO.fr4
    have hO := hO.fr4
    have hO := hO.fr4
    have hO := hO.fr4
    exact ⟨_, (PastL c5 (b1 ++ (b2 ++ (c1 ++ ([])))) g5 g7 (f2 ++ (f3 ++ ([])))), j3, j4, j5, f2, j6, j7, j8, f3, fr_ovl 73 ⟨rfl, rfl, rfl, rfl, rfl, rfl, rfl, rfl, rfl, trivial⟩, hC, hO, hK, h2, k1, a1, a2, j9, k0⟩
  refine c_condF (congrArg Value.bool h9) ?_
  refine wp_exit ?_
  cases hs
  have hO := hO.fr4
  have hO := hO.fr4
  have hO := hO.fr4
  have hO := hO.fr4
  have hO := hO.fr4
  exact ⟨rfl, _, c0, b3, b4, b5, b1, b6, b7, b8, b2, fr_ovl 73 ⟨rfl, rfl, trivial⟩, hC, hO, hK, h2, a0, a1, a2, a3, a4⟩
 ·skip
  have hO := hO.fr2
  have hO := hO.fr2
  have hO := hO.fr2
  have hO := hO.fr4
  have hO := hO.fr4
  exact ⟨_, M, pa0, pn0, pc0, pf0, pa1, pn1, pc1, pf1, fr_ovl 73 ⟨rfl, rfl, rfl, rfl, rfl, rfl, rfl, rfl, rfl, trivial⟩, hC, hO, KeepsF.refl, h2, a0, a1, a2, h0, h1⟩
 cases o178 with
 | nx _ => exact True.intro
 | rt r_ =>
  have hs := after_rt hs
  intro h3 k5 hK
  cases hs
  exact hK
 | br s174 =>
  have hs := after_br hs
  rintro h3 b0 ⟨σ, f6, d8, d9, e0, g8, e1, e2, e3, g9, rfl, hC, hO, hK, h2, a0, a1, a2, k2, k3⟩
  refine c_sr ?_
  refine pl_val (.agg #[(.slice d8 d9 e0), (.slice e1 e2 e3), (.bool s174.2.2.2)]) (y_load rfl ((box_load Ag89 Sz89 a0 [] [(.slice d8 d9 e0), (.slice e1 e2 e3), (.bool s174.2.2.2)] [] rfl rfl (fun h => nomatch h)) _ (Chg.refl _ _))) ?_
  obtain ⟨m3, q6, f4, k4⟩ := box_store (P := Try.prog) a2 [] [(.slice none 0 0), (.slice none 0 0), (.bool false)] [] [(.slice d8 d9 e0), (.slice e1 e2 e3), (.bool s174.2.2.2)] rfl rfl (by intro u hu; simp only [List.mem_cons, List.not_mem_nil, or_false] at hu; rcases hu with rfl | rfl | rfl <;> rfl)
  refine pl_skip (w' := m3) (ys_store rfl rfl (q6 _ _ rfl Sz89)) ?_
  have hO := hO.fr2
  have h2 := h2.mt f4 hO same_
  have a0 := a0.ap f4 hO same_ (mem_r (mem_r (mem_r (mem_l (List.mem_singleton.2 rfl)))))
  have a1 := a1.ap f4 hO same_ (mem_r (mem_r (mem_l (List.mem_singleton.2 rfl))))
  have k2 := k2.ma f4 hO same_ (fun _ e => (mem_l (e)))
  have k3 := k3.ma f4 hO same_ (fun _ e => (mem_r (mem_l (e))))
  have hC := hC.st f4 hO same_
  have hO := hO.ext f4
  have k4 : BoxV m3 a9 89 [(.slice d8 d9 e0), (.slice e1 e2 e3), (.bool s174.2.2.2)] := k4
  refine c_nil ?_
  refine wp_ret ?_
  cases hs
  have hO := hO.drop
  have hO := hO.fr2
  have hO := hO.drop
  have hO := hO.fr2
  have hO := hO.drop
  have hO := hO.fr1
  have hO := hO.fr1
  exact ⟨_, a9, d8, d9, e0, g8, e1, e2, e3, g9, fr_ovl 73 ⟨rfl, trivial⟩, k4, hC, (KeepsF.out hK hO.allM k2), (KeepsF.out hK hO.allM k3), hO.top⟩

theorem Bd116 : Bodied Try.prog 116 := bodied Try.func116 (by kernel_rfl) rfl

end Go.Proofs
