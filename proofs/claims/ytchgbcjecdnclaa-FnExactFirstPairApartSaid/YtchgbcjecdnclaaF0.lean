/- What functions of the program compute, as plain functions, and that a call gives just that. Conditions: those named in each theorem. -/
import Derived.Test.YtchgbcjecdnclaaGHole
import Derived.Test.YtchgbcjecdnclaaRows
set_option linter.unusedVariables false
namespace Go.Proofs
open Go.G Go.RowKit
set_option maxRecDepth 100000

theorem Sl22 : SlT Try.prog 22 3 := Try.underlying22

def k_laws_szIntS (M : Nat → Prop) (w0 : World) (r : Int) (a : Act) (w : World) : Prop :=
  ∃ (σ : Nat → Value) , a = fr 12 (ovl σ [(4, (.int .i64 r))]) ∧ Chg [] w0 w
def s_laws_szIntS (a_ : List Int) (left : Int) : Option (Int) :=
  (bif (decide ((w64 (left - (a_.length : Int))) < 0)) then some (-1) else some (w64 (left - (a_.length : Int))))
set_option maxHeartbeats 4000000 in
theorem c_laws_szIntS {M : Nat → Prop} {w : World} {pa0 : Option Addr} {pn0 pc0 : Nat} (a_ : List Int) (left : Int) (h0 : (RT.rs (RT.int .i64)).val M w (.slice pa0 pn0 pc0) a_ ([])) (hM : ∀ g, w.heap.size ≤ g → M g) {r : Int} (hs : s_laws_szIntS a_ left = some r) :
    Gives Try.prog 105 [(.slice pa0 pn0 pc0), (.int .i64 left)] w (fun v w' => v = (.int .i64 r) ∧ Chg [] w w') := by
 refine calls_fr Try.func105 rfl Try.ntmps105 (Nat.le_of_ble_eq_true rfl) ?_
 have hO := Own.start (N := Nw w []) hM Nw.fut
 have hC := Chg.refl [] w
 unfold s_laws_szIntS at hs
 refine wp_mono (Q := KPost (k_laws_szIntS M w r)) ?_ (fun e a w1 h => ?_)
 rotate_left
 ·cases e
  case ret =>
   obtain ⟨σ, rfl, hrest⟩ := h
   exact ret1x Try.results105 (res_tmp rfl) ⟨rfl, hrest⟩
  all_goals exact (h : False).elim
 refine c_seq (c_region ?_)
 refine pl_val (.int .i64 0) (y_assign rfl) ?_
 refine c_nil ?_
 refine c_seq (c_region ?_)
 refine pl_val (.int .i64 left) (y_move rfl) ?_
 refine pl_val (.slice pa0 pn0 pc0) (y_move rfl) ?_
 refine pl_val (.int .i64 (a_.length : Int)) (y_len' Sl22 (rs_len h0) rfl) ?_
 refine pl_val (.int .i64 (w64 (left - (a_.length : Int)))) (y_sub rfl rfl) ?_
 refine pl_val (.int .i64 (w64 (left - (a_.length : Int)))) (y_assign rfl) ?_
 refine c_nil ?_
 refine c_seq ?_
 refine c_seq (c_region ?_)
 refine pl_val (.int .i64 (w64 (left - (a_.length : Int)))) (y_move rfl) ?_
 refine pl_val (.bool (decide ((w64 (left - (a_.length : Int))) < 0))) (y_lss rfl rfl) ?_
 refine c_nil ?_
 rcases bif_some hs with ⟨hc2, hs⟩ | ⟨hc2, hs⟩
 ·skip
  refine c_condT (congrArg Value.bool hc2) ?_
  refine c_seq (c_region ?_)
  refine pl_val (.int .i64 (-1)) (y_assign rfl) ?_
  refine c_nil ?_
  refine wp_ret ?_
  cases hs
  exact ⟨_, fr_ovl 12 ⟨rfl, trivial⟩, hC⟩
 ·skip
  refine c_condF (congrArg Value.bool hc2) ?_
  refine wp_skip ?_
  refine c_seq (c_region ?_)
  refine pl_val (.int .i64 (w64 (left - (a_.length : Int)))) (y_move rfl) ?_
  refine pl_val (.int .i64 (w64 (left - (a_.length : Int)))) (y_assign rfl) ?_
  refine c_nil ?_
  refine wp_ret ?_
  cases hs
  exact ⟨_, fr_ovl 12 ⟨rfl, trivial⟩, hC⟩

theorem Fa78x1 : ∀ (a : Addr) (w : World), (Instr.fieldAt 78 (.pointer (some a)) 1).run Try.prog w = .ok (.pointer (some (a.add 1))) w := fun _ _ => by kernel_rfl

theorem Ag22 : AggT Try.prog 22 false := fun _ => by kernel_rfl

theorem Sz22 : SzT Try.prog 22 1 := ⟨_, rfl, rfl⟩

theorem Bd105 : Bodied Try.prog 105 := bodied Try.func105 (by kernel_rfl) rfl

def k_laws_szOp (M : Nat → Prop) (w0 : World) (r : Int) (a : Act) (w : World) : Prop :=
  ∃ (σ : Nat → Value) , a = fr 12 (ovl σ [(4, (.int .i64 r))]) ∧ Chg [] w0 w
def s_laws_szOp (a_ : Int × (List Int)) (left : Int) : Option (Int) :=
  (s_laws_szIntS a_.2 left).bind fun r4 =>
  (bif (decide (r4 < 0)) then some (-1) else some r4)
set_option maxHeartbeats 4000000 in
theorem c_laws_szOp {M : Nat → Prop} {w : World} {pa0 : Option Addr} {pn0 pc0 : Nat} (a_ : Int × (List Int)) (left : Int) (h0 : (RT.rs (RT.int .i64)).val M w (.slice pa0 pn0 pc0) a_.2 ([])) (hM : ∀ g, w.heap.size ≤ g → M g) {r : Int} (hs : s_laws_szOp a_ left = some r) :
    Gives Try.prog 80 [(.agg #[(.int .i64 a_.1), (.slice pa0 pn0 pc0)]), (.int .i64 left)] w (fun v w' => v = (.int .i64 r) ∧ Chg [] w w') := by
 refine calls_fr Try.func80 rfl Try.ntmps80 (Nat.le_of_ble_eq_true rfl) ?_
 have hO := Own.start (N := Nw w []) hM Nw.fut
 have hC := Chg.refl [] w
 unfold s_laws_szOp at hs
 refine wp_mono (Q := KPost (k_laws_szOp M w r)) ?_ (fun e a w1 h => ?_)
 rotate_left
 ·cases e
  case ret =>
   obtain ⟨σ, rfl, hrest⟩ := h
   exact ret1x Try.results80 (res_tmp rfl) ⟨rfl, hrest⟩
  all_goals exact (h : False).elim
 refine c_seq (c_region ?_)
 obtain ⟨w2, g2, ew2, eg2, hC2, hb2⟩ := new_block w [(.int .i64 a_.1), (.slice pa0 pn0 pc0)] 78
 refine pl_val (w' := w2) (.pointer (some ⟨g2, 0, none⟩)) (y_box rfl (by rw [ew2, eg2]; kernel_rfl)) ?_
 have h0 := h0.ext hC2
 have hC := hC.ext hC2
 have hO := hO.new1 hC2 eg2 hb2.lt
 refine pl_val (.int .i64 0) (y_assign rfl) ?_
 refine c_nil ?_
 refine c_seq (c_region ?_)
 refine pl_val (.pointer (some ⟨g2, 1, none⟩)) (y_faddr rfl Fa78x1) ?_
 refine pl_val (.slice pa0 pn0 pc0) (y_load rfl ((box_load Ag22 Sz22 hb2 [(.int .i64 a_.1)] [(.slice pa0 pn0 pc0)] [] rfl rfl (fun _ => rfl)) _ (Chg.refl _ _))) ?_
 refine pl_val (.int .i64 left) (y_move rfl) ?_
 obtain ⟨r4, hr4, hs⟩ := bind_some hs
 refine pl_call Bd105 rfl (c_laws_szIntS (M := M) a_.2 left h0 hO.fut hr4) ?_
 rintro _ w3 ⟨rfl, hC3⟩
 have h0 := h0.ext hC3
 have hb2 := hb2.chg hC3 (fun h => nomatch h)
 have hC := hC.ext hC3
 have hO := hO.ext hC3
 refine pl_val (.int .i64 r4) (y_assign rfl) ?_
 refine c_nil ?_
 refine c_seq ?_
 refine c_seq (c_region ?_)
 refine pl_val (.int .i64 r4) (y_move rfl) ?_
 refine pl_val (.bool (decide (r4 < 0))) (y_lss rfl rfl) ?_
 refine c_nil ?_
 rcases bif_some hs with ⟨hc5, hs⟩ | ⟨hc5, hs⟩
 ·skip
  refine c_condT (congrArg Value.bool hc5) ?_
  refine c_seq (c_region ?_)
  refine pl_val (.int .i64 (-1)) (y_assign rfl) ?_
  refine c_nil ?_
  refine wp_ret ?_
  cases hs
  exact ⟨_, fr_ovl 12 ⟨rfl, trivial⟩, hC⟩
 ·skip
  refine c_condF (congrArg Value.bool hc5) ?_
  refine wp_skip ?_
  refine c_seq (c_region ?_)
  refine pl_val (.int .i64 r4) (y_move rfl) ?_
  refine pl_val (.int .i64 r4) (y_assign rfl) ?_
  refine c_nil ?_
  refine wp_ret ?_
  cases hs
  exact ⟨_, fr_ovl 12 ⟨rfl, trivial⟩, hC⟩

theorem Sl28 : SlT Try.prog 28 78 := Try.underlying28

theorem Sz78 : SzT Try.prog 78 2 := ⟨_, rfl, rfl⟩

theorem Ag78 : AggT Try.prog 78 true := fun _ => by kernel_rfl

theorem Bd80 : Bodied Try.prog 80 := bodied Try.func80 (by kernel_rfl) rfl

def k_laws_szOpS (M : Nat → Prop) (w0 : World) (r : Int) (a : Act) (w : World) : Prop :=
  ∃ (σ : Nat → Value) , a = fr 27 (ovl σ [(4, (.int .i64 r))]) ∧ Chg [] w0 w
def s_laws_szOpS (a_ : List (Int × (List Int))) (left : Int) : Option (Int) :=
  (bif (decide ((w64 (left - (a_.length : Int))) < 0)) then some (-1) else (forC (S := Int) (R := Int) (fun k12 s10 =>
  (idx a_ k12).bind fun x16 =>
  (s_laws_szOp (x16.1, x16.2) s10).bind fun r21 =>
  (bif (decide (r21 < 0)) then some (.rt (-1)) else some (.nx r21))) 0 (a_.length : Int) (w64 (left - (a_.length : Int)))).bind fun o14 => after o14 (fun r_ => some r_) (fun s10 =>
  some s10))
set_option maxHeartbeats 4000000 in
theorem c_laws_szOpS {M : Nat → Prop} {w : World} {pa0 : Option Addr} {pn0 pc0 : Nat} (a_ : List (Int × (List Int))) (left : Int) (h0 : (RT.rs (RT.pr (RT.int .i64) (RT.rs (RT.int .i64)))).val M w (.slice pa0 pn0 pc0) a_ ([])) (hM : ∀ g, w.heap.size ≤ g → M g) {r : Int} (hs : s_laws_szOpS a_ left = some r) :
    Gives Try.prog 48 [(.slice pa0 pn0 pc0), (.int .i64 left)] w (fun v w' => v = (.int .i64 r) ∧ Chg [] w w') := by
 refine calls_fr Try.func48 rfl Try.ntmps48 (Nat.le_of_ble_eq_true rfl) ?_
 have hO := Own.start (N := Nw w []) hM Nw.fut
 have hC := Chg.refl [] w
 unfold s_laws_szOpS at hs
 refine wp_mono (Q := KPost (k_laws_szOpS M w r)) ?_ (fun e a w1 h => ?_)
 rotate_left
 ·cases e
  case ret =>
   obtain ⟨σ, rfl, hrest⟩ := h
   exact ret1x Try.results48 (res_tmp rfl) ⟨rfl, hrest⟩
  all_goals exact (h : False).elim
 refine c_seq (c_region ?_)
 refine pl_val (.int .i64 0) (y_assign rfl) ?_
 refine c_nil ?_
 refine c_seq (c_region ?_)
 refine pl_val (.int .i64 left) (y_move rfl) ?_
 refine pl_val (.slice pa0 pn0 pc0) (y_move rfl) ?_
 refine pl_val (.int .i64 (a_.length : Int)) (y_len' Sl28 (rs_len h0) rfl) ?_
 refine pl_val (.int .i64 (w64 (left - (a_.length : Int)))) (y_sub rfl rfl) ?_
 refine pl_val (.int .i64 (w64 (left - (a_.length : Int)))) (y_assign rfl) ?_
 refine c_nil ?_
 refine c_seq ?_
 refine c_seq (c_region ?_)
 refine pl_val (.int .i64 (w64 (left - (a_.length : Int)))) (y_move rfl) ?_
 refine pl_val (.bool (decide ((w64 (left - (a_.length : Int))) < 0))) (y_lss rfl rfl) ?_
 refine c_nil ?_
 rcases bif_some hs with ⟨hc2, hs⟩ | ⟨hc2, hs⟩
 ·skip
  refine c_condT (congrArg Value.bool hc2) ?_
  refine c_seq (c_region ?_)
  refine pl_val (.int .i64 (-1)) (y_assign rfl) ?_
  refine c_nil ?_
  refine wp_ret ?_
  cases hs
  exact ⟨_, fr_ovl 27 ⟨rfl, trivial⟩, hC⟩
 ·skip
  refine c_condF (congrArg Value.bool hc2) ?_
  refine wp_skip ?_
  refine c_seq ?_
  refine c_seq (c_region ?_)
  refine pl_val (.int .i64 0) (y_assign rfl) ?_
  refine c_nil ?_
  obtain ⟨o14, hl15, hs⟩ := bind_some hs
  refine wp_block ?_
  refine wp_forC (id := 0) (a_.length : Int) (I := fun k12 s10 a w11 => ∃ (σ : Nat → Value), a = fr 27 (ovl σ [(0, (.slice pa0 pn0 pc0)), (1, (.int .i64 s10)), (5, (.int .i64 k12))]) ∧ Chg [] w w11 ∧ Own (Nw w []) M w11 ([]) ∧ (RT.rs (RT.pr (RT.int .i64) (RT.rs (RT.int .i64)))).val M w11 (.slice pa0 pn0 pc0) a_ ([])) (J := fun s10 a w11 => ∃ (σ : Nat → Value), a = fr 27 (ovl σ [(1, (.int .i64 s10))]) ∧ Chg [] w w11 ∧ Own (Nw w []) M w11 ([]) ∧ (RT.rs (RT.pr (RT.int .i64) (RT.rs (RT.int .i64)))).val M w11 (.slice pa0 pn0 pc0) a_ ([])) (K := (k_laws_szOpS M w)) ?_ ?_ 0 (w64 (left - (a_.length : Int))) o14 _ _ ?_ hl15 ?_
  ·rintro k12 s10 a w11 ⟨σ, rfl, hC, hO, h0⟩ hlt
   refine c_seq ?_
   refine c_seq (c_region ?_)
   refine pl_val (.int .i64 k12) (y_move rfl) ?_
   refine pl_val (.slice pa0 pn0 pc0) (y_move rfl) ?_
   refine pl_val (.int .i64 (a_.length : Int)) (y_len' Sl28 (rs_len h0) rfl) ?_
   refine pl_val (.bool (decide (k12 < (a_.length : Int)))) (y_lss rfl rfl) ?_
   refine c_nil ?_
   refine c_condF (congrArg Value.bool (decide_eq_false hlt)) ?_
   refine wp_exit ?_
   exact ⟨rfl, _, fr_ovl 27 ⟨rfl, trivial⟩, hC, hO, h0⟩
  ·rintro k12 s10 o14 a w11 ⟨σ, rfl, hC, hO, h0⟩ hlt hw hs
   refine c_seq ?_
   refine c_seq (c_region ?_)
   refine pl_val (.int .i64 k12) (y_move rfl) ?_
   refine pl_val (.slice pa0 pn0 pc0) (y_move rfl) ?_
   refine pl_val (.int .i64 (a_.length : Int)) (y_len' Sl28 (rs_len h0) rfl) ?_
   refine pl_val (.bool (decide (k12 < (a_.length : Int)))) (y_lss rfl rfl) ?_
   refine c_nil ?_
   refine c_condT (congrArg Value.bool (decide_eq_true hlt)) ?_
   refine wp_skip ?_
   refine c_seq ?_
   refine wp_block ?_
   refine c_seq (c_region ?_)
   refine pl_val (.slice pa0 pn0 pc0) (y_move rfl) ?_
   refine pl_val (.int .i64 k12) (y_move rfl) ?_
   obtain ⟨x16, hx16, hs⟩ := bind_some hs
   obtain ⟨b17, o17, hp17, ha17⟩ := rs_idx Sl28 Sz78 h0 hx16
   refine pl_val (.pointer (some ⟨b17, o17, none⟩)) (hp17 _ _ _ _ _ _ _ _ _ rfl rfl) ?_
   obtain ⟨v18, hl18, hv18⟩ := at_load Ag78 Sz78 (by intro h; cases h) ha17
   obtain ⟨cs18, rfl, hr18⟩ := hv18
   obtain ⟨cc18x1, cd18x1, rfl, hh18x1, ht18x1⟩ := pr_open hr18
   obtain rfl := int_rel hh18x1
   obtain ⟨a18x2, n18x2, c18x2, rfl, hv18x2⟩ := rs_rel ht18x1
   refine pl_val (.agg #[(.int .i64 x16.1), (.slice a18x2 n18x2 c18x2)]) (y_load rfl (hl18 _ (Chg.refl _ _))) ?_
   refine pl_val (.int .i64 s10) (y_move rfl) ?_
   obtain ⟨r21, hr21, hs⟩ := bind_some hs
   refine pl_call Bd80 rfl (c_laws_szOp (M := M) (x16.1, x16.2) s10 hv18x2 hO.fut hr21) ?_
   rintro _ w20 ⟨rfl, hC20⟩
   have h0 := h0.ext hC20
   have hv18x2 := hv18x2.ext hC20
   have hC := hC.ext hC20
   have hO := hO.ext hC20
   refine pl_val (.int .i64 r21) (y_assign rfl) ?_
   refine c_nil ?_
   refine c_seq (c_region ?_)
   refine pl_val (.int .i64 r21) (y_move rfl) ?_
   refine pl_val (.bool (decide (r21 < 0))) (y_lss rfl rfl) ?_
   refine c_nil ?_
   rcases bif_some hs with ⟨hc22, hs⟩ | ⟨hc22, hs⟩
   ·skip
    refine c_condT (congrArg Value.bool hc22) ?_
    refine c_seq (c_region ?_)
    refine pl_val (.int .i64 (-1)) (y_assign rfl) ?_
    refine c_nil ?_
    refine wp_ret ?_
    cases hs
    exact ⟨_, fr_ovl 27 ⟨rfl, trivial⟩, hC⟩
   ·skip
    refine c_condF (congrArg Value.bool hc22) ?_
    refine wp_skip ?_
    refine c_region ?_
    refine pl_val (.int .i64 k12) (y_move rfl) ?_
    refine pl_val (.int .i64 (w64 (k12 + 1))) (y_add rfl rfl) ?_
    refine pl_val (.int .i64 (w64 (k12 + 1))) (y_assign rfl) ?_
    refine c_nil ?_
    cases hs
    exact ⟨_, fr_ovl 27 ⟨rfl, rfl, congrArg (Value.int .i64) hw, trivial⟩, hC, hO, h0⟩
  ·skip
   exact ⟨_, fr_ovl 27 ⟨rfl, rfl, rfl, trivial⟩, hC, hO, h0⟩
  ·cases o14 with
   | nx _ => exact True.intro
   | rt r_ =>
    have hs := after_rt hs
    intro a1 w1 hK
    cases hs
    exact hK
   | br s10 =>
    have hs := after_br hs
    rintro a1 w11 ⟨σ, rfl, hC, hO, h0⟩
    refine c_seq (c_region ?_)
    refine pl_val (.int .i64 s10) (y_move rfl) ?_
    refine pl_val (.int .i64 s10) (y_assign rfl) ?_
    refine c_nil ?_
    refine wp_ret ?_
    cases hs
    exact ⟨_, fr_ovl 27 ⟨rfl, trivial⟩, hC⟩

theorem Fa30x1 : ∀ (a : Addr) (w : World), (Instr.fieldAt 30 (.pointer (some a)) 1).run Try.prog w = .ok (.pointer (some (a.add 1))) w := fun _ _ => by kernel_rfl

theorem Ag28 : AggT Try.prog 28 false := fun _ => by kernel_rfl

theorem Sz28 : SzT Try.prog 28 1 := ⟨_, rfl, rfl⟩

theorem Bd48 : Bodied Try.prog 48 := bodied Try.func48 (by kernel_rfl) rfl

def k_laws_szAlgebra (M : Nat → Prop) (w0 : World) (r : Int) (a : Act) (w : World) : Prop :=
  ∃ (σ : Nat → Value) , a = fr 12 (ovl σ [(4, (.int .i64 r))]) ∧ Chg [] w0 w
def s_laws_szAlgebra (a_ : Int × (List (Int × (List Int)))) (left : Int) : Option (Int) :=
  (s_laws_szOpS a_.2 left).bind fun r4 =>
  (bif (decide (r4 < 0)) then some (-1) else some r4)
set_option maxHeartbeats 4000000 in
theorem c_laws_szAlgebra {M : Nat → Prop} {w : World} {pa0 : Option Addr} {pn0 pc0 : Nat} (a_ : Int × (List (Int × (List Int)))) (left : Int) (h0 : (RT.rs (RT.pr (RT.int .i64) (RT.rs (RT.int .i64)))).val M w (.slice pa0 pn0 pc0) a_.2 ([])) (hM : ∀ g, w.heap.size ≤ g → M g) {r : Int} (hs : s_laws_szAlgebra a_ left = some r) :
    Gives Try.prog 17 [(.agg #[(.int .i64 a_.1), (.slice pa0 pn0 pc0)]), (.int .i64 left)] w (fun v w' => v = (.int .i64 r) ∧ Chg [] w w') := by
 refine calls_fr Try.func17 rfl Try.ntmps17 (Nat.le_of_ble_eq_true rfl) ?_
 have hO := Own.start (N := Nw w []) hM Nw.fut
 have hC := Chg.refl [] w
 unfold s_laws_szAlgebra at hs
 refine wp_mono (Q := KPost (k_laws_szAlgebra M w r)) ?_ (fun e a w1 h => ?_)
 rotate_left
 ·cases e
  case ret =>
   obtain ⟨σ, rfl, hrest⟩ := h
   exact ret1x Try.results17 (res_tmp rfl) ⟨rfl, hrest⟩
  all_goals exact (h : False).elim
 refine c_seq (c_region ?_)
 obtain ⟨w2, g2, ew2, eg2, hC2, hb2⟩ := new_block w [(.int .i64 a_.1), (.slice pa0 pn0 pc0)] 30
 refine pl_val (w' := w2) (.pointer (some ⟨g2, 0, none⟩)) (y_box rfl (by rw [ew2, eg2]; kernel_rfl)) ?_
 have h0 := h0.ext hC2
 have hC := hC.ext hC2
 have hO := hO.new1 hC2 eg2 hb2.lt
 refine pl_val (.int .i64 0) (y_assign rfl) ?_
 refine c_nil ?_
 refine c_seq (c_region ?_)
 refine pl_val (.pointer (some ⟨g2, 1, none⟩)) (y_faddr rfl Fa30x1) ?_
 refine pl_val (.slice pa0 pn0 pc0) (y_load rfl ((box_load Ag28 Sz28 hb2 [(.int .i64 a_.1)] [(.slice pa0 pn0 pc0)] [] rfl rfl (fun _ => rfl)) _ (Chg.refl _ _))) ?_
 refine pl_val (.int .i64 left) (y_move rfl) ?_
 obtain ⟨r4, hr4, hs⟩ := bind_some hs
 refine pl_call Bd48 rfl (c_laws_szOpS (M := M) a_.2 left h0 hO.fut hr4) ?_
 rintro _ w3 ⟨rfl, hC3⟩
 have h0 := h0.ext hC3
 have hb2 := hb2.chg hC3 (fun h => nomatch h)
 have hC := hC.ext hC3
 have hO := hO.ext hC3
 refine pl_val (.int .i64 r4) (y_assign rfl) ?_
 refine c_nil ?_
 refine c_seq ?_
 refine c_seq (c_region ?_)
 refine pl_val (.int .i64 r4) (y_move rfl) ?_
 refine pl_val (.bool (decide (r4 < 0))) (y_lss rfl rfl) ?_
 refine c_nil ?_
 rcases bif_some hs with ⟨hc5, hs⟩ | ⟨hc5, hs⟩
 ·skip
  refine c_condT (congrArg Value.bool hc5) ?_
  refine c_seq (c_region ?_)
  refine pl_val (.int .i64 (-1)) (y_assign rfl) ?_
  refine c_nil ?_
  refine wp_ret ?_
  cases hs
  exact ⟨_, fr_ovl 12 ⟨rfl, trivial⟩, hC⟩
 ·skip
  refine c_condF (congrArg Value.bool hc5) ?_
  refine wp_skip ?_
  refine c_seq (c_region ?_)
  refine pl_val (.int .i64 r4) (y_move rfl) ?_
  refine pl_val (.int .i64 r4) (y_assign rfl) ?_
  refine c_nil ?_
  refine wp_ret ?_
  cases hs
  exact ⟨_, fr_ovl 12 ⟨rfl, trivial⟩, hC⟩

theorem Rw22 : RowT Try.prog 22 3 1 [(.int .i64 0)] := ⟨Try.underlying22, ⟨_, _, rfl, rfl, rfl, rfl, by decide⟩, rfl, by decide⟩

theorem Sz3 : SzT Try.prog 3 1 := ⟨_, rfl, rfl⟩

theorem Ag3 : AggT Try.prog 3 false := fun _ => by kernel_rfl

def k_laws_toIntS (M : Nat → Prop) (w0 : World) (r : (List Int)) (a : Act) (w : World) : Prop :=
  ∃ (σ : Nat → Value) (ra0 : Option Addr) (rn0 rc0 : Nat) (rf0 : List Nat), a = fr 22 (ovl σ [(2, (.slice ra0 rn0 rc0))]) ∧ Chg [] w0 w ∧ (RT.os 3 (RT.int .i64)).val M w (.slice ra0 rn0 rc0) r rf0 ∧ Own (Nw w0 []) (fun _ => True) w (rf0 ++ ([]))
def s_laws_toIntS (a_ : List Int) : Option ((List Int)) :=
  (mks (a_.length : Int) (0 : Int)).bind fun y3 =>
  (forC (S := (List Int)) (R := (List Int)) (fun k18 s16 =>
  (idx a_ k18).bind fun x24 =>
  (idx s16 k18).bind fun x26 =>
  some (.nx (List.set s16 (Int.toNat k18) x24))) 0 (a_.length : Int) y3).bind fun o20 => after o20 (fun r_ => some r_) (fun s16 =>
  some s16)
set_option maxHeartbeats 4000000 in
theorem c_laws_toIntS {M : Nat → Prop} {w : World} {pa0 : Option Addr} {pn0 pc0 : Nat} (a_ : List Int) (h0 : (RT.rs (RT.int .i64)).val M w (.slice pa0 pn0 pc0) a_ ([])) (hM : ∀ g, w.heap.size ≤ g → M g) {r : (List Int)} (hs : s_laws_toIntS a_ = some r) :
    Gives Try.prog 14 [(.slice pa0 pn0 pc0)] w (fun v w' => ∃ (ra0 : Option Addr) (rn0 rc0 : Nat) (rf0 : List Nat), v = (.slice ra0 rn0 rc0) ∧ Chg [] w w' ∧ (RT.os 3 (RT.int .i64)).val M w' (.slice ra0 rn0 rc0) r rf0 ∧ Own (Nw w []) (fun _ => True) w' (rf0 ++ ([]))) := by
 refine calls_fr Try.func14 rfl Try.ntmps14 (Nat.le_of_ble_eq_true rfl) ?_
 have hO := Own.start (N := Nw w []) hM Nw.fut
 have hC := Chg.refl [] w
 unfold s_laws_toIntS at hs
 refine wp_mono (Q := KPost (k_laws_toIntS M w r)) ?_ (fun e a w1 h => ?_)
 rotate_left
 ·cases e
  case ret =>
   obtain ⟨σ, ra0, rn0, rc0, rf0, rfl, hrest⟩ := h
   exact ret1x Try.results14 (res_tmp rfl) ⟨ra0, rn0, rc0, rf0, rfl, hrest⟩
  all_goals exact (h : False).elim
 refine c_seq (c_region ?_)
 refine pl_val (.slice none 0 0) (y_assign rfl) ?_
 refine c_nil ?_
 refine c_seq (c_region ?_)
 refine pl_val (.slice pa0 pn0 pc0) (y_move rfl) ?_
 refine pl_val (.int .i64 (a_.length : Int)) (y_len' Sl22 (rs_len h0) rfl) ?_
 obtain ⟨y3, hy3, hs⟩ := bind_some hs
 obtain ⟨a2, n2, c2, w2, f2, hm2, hC2, hfr2, hv2⟩ := mk_os (M := M) (w := w) (r := (RT.int .i64)) Rw22 hy3 (fun _ _ => ⟨rfl, rfl⟩)
 refine pl_val (w' := w2) (.slice a2 n2 c2) (y_make rfl rfl hm2) ?_
 have h0 := h0.ext hC2
 have hC := hC.ext hC2
 have hO := hO.new hC2 hfr2 (os_nodup hv2) hv2.fpl
 refine pl_val (.slice a2 n2 c2) (y_assign rfl) ?_
 refine c_nil ?_
 refine c_seq ?_
 refine c_seq (c_region ?_)
 refine pl_val (.int .i64 0) (y_assign rfl) ?_
 refine c_nil ?_
 obtain ⟨o20, hl21, hs⟩ := bind_some hs
 refine wp_block ?_
 refine wp_forC (id := 0) (a_.length : Int) (I := fun k18 s16 a w17 => ∃ (σ : Nat → Value) (f22 : List Nat), a = fr 22 (ovl σ [(0, (.slice pa0 pn0 pc0)), (3, (.slice a2 n2 c2)), (4, (.int .i64 k18))]) ∧ Chg [] w w17 ∧ Own (Nw w []) M w17 (f22 ++ []) ∧ (RT.rs (RT.int .i64)).val M w17 (.slice pa0 pn0 pc0) a_ ([]) ∧ (RT.os 3 (RT.int .i64)).val M w17 (.slice a2 n2 c2) s16 f22) (J := fun s16 a w17 => ∃ (σ : Nat → Value) (f23 : List Nat), a = fr 22 (ovl σ [(3, (.slice a2 n2 c2))]) ∧ Chg [] w w17 ∧ Own (Nw w []) M w17 (f23 ++ []) ∧ (RT.rs (RT.int .i64)).val M w17 (.slice pa0 pn0 pc0) a_ ([]) ∧ (RT.os 3 (RT.int .i64)).val M w17 (.slice a2 n2 c2) s16 f23) (K := (k_laws_toIntS M w)) ?_ ?_ 0 y3 o20 _ _ ?_ hl21 ?_
 ·rintro k18 s16 a w17 ⟨σ, f22, rfl, hC, hO, h0, hv22⟩ hlt
  refine c_seq ?_
  refine c_seq (c_region ?_)
  refine pl_val (.int .i64 k18) (y_move rfl) ?_
  refine pl_val (.slice pa0 pn0 pc0) (y_move rfl) ?_
  refine pl_val (.int .i64 (a_.length : Int)) (y_len' Sl22 (rs_len h0) rfl) ?_
  refine pl_val (.bool (decide (k18 < (a_.length : Int)))) (y_lss rfl rfl) ?_
  refine c_nil ?_
  refine c_condF (congrArg Value.bool (decide_eq_false hlt)) ?_
  refine wp_exit ?_
  exact ⟨rfl, _, f22, fr_ovl 22 ⟨rfl, trivial⟩, hC, hO, h0, hv22⟩
 ·rintro k18 s16 o20 a w17 ⟨σ, f22, rfl, hC, hO, h0, hv22⟩ hlt hw hs
  refine c_seq ?_
  refine c_seq (c_region ?_)
  refine pl_val (.int .i64 k18) (y_move rfl) ?_
  refine pl_val (.slice pa0 pn0 pc0) (y_move rfl) ?_
  refine pl_val (.int .i64 (a_.length : Int)) (y_len' Sl22 (rs_len h0) rfl) ?_
  refine pl_val (.bool (decide (k18 < (a_.length : Int)))) (y_lss rfl rfl) ?_
  refine c_nil ?_
  refine c_condT (congrArg Value.bool (decide_eq_true hlt)) ?_
  refine wp_skip ?_
  refine c_seq ?_
  refine wp_block ?_
  refine c_region ?_
  refine pl_val (.slice a2 n2 c2) (y_move rfl) ?_
  refine pl_val (.int .i64 k18) (y_move rfl) ?_
  refine pl_val (.slice pa0 pn0 pc0) (y_move rfl) ?_
  refine pl_val (.int .i64 k18) (y_move rfl) ?_
  obtain ⟨x24, hx24, hs⟩ := bind_some hs
  obtain ⟨b25, o25, hp25, ha25⟩ := rs_idx Sl22 Sz3 h0 hx24
  refine pl_val (.pointer (some ⟨b25, o25, none⟩)) (hp25 _ _ _ _ _ _ _ _ _ rfl rfl) ?_
  refine pl_val (.int .i64 x24) (y_load rfl ((at_load_int Ag3 Sz3 ha25) _ (Chg.refl _ _))) ?_
  obtain ⟨x26, hx26, hs⟩ := bind_some hs
  obtain ⟨g27, f27, hg27, hk27, hp27, ha27, hf27⟩ := os_idx Sl22 Sz3 hv22 hx26
  refine pl_val (.pointer (some ⟨g27, 0 + Int.toNat k18 * 1, none⟩)) (hp27 _ _ _ _ _ _ _ _ _ rfl rfl) ?_
  obtain ⟨w28, f28, hst28, hC28, hf28, hv28⟩ := os_store (P := Try.prog) (c' := [(.int .i64 x24)]) hg27 hv22 hk27 (fun g hg => hO.inM g (os_block hv22 g (by simpa using hg))) ⟨rfl, rfl⟩ List.nodup_nil (fun _ h => nomatch h) (fun _ h => .inl h)
  have hG28 : ∀ q ∈ [g27], q ∈ f22 := fun q hq => os_block hv22 q (by rw [hg27]; exact hq)
  refine pl_skip (w' := w28) (ys_store rfl rfl (hst28 _ _ rfl Sz3)) ?_
  have h0 := h0.mut hC28 (fun g hg => hO.inM g (hG28 g hg)) (fun _ _ h => nomatch h)
  have hC := hC.step hC28 (fun g hg => hO.inN g (hG28 g hg))
  have hO := hO.grow hC28 (fun q hq => .inl ((hf28 q hq).resolve_right (fun h => nomatch h))) (os_nodup hv28) hv28.fpl
  refine c_nil ?_
  refine c_region ?_
  refine pl_val (.int .i64 k18) (y_move rfl) ?_
  refine pl_val (.int .i64 (w64 (k18 + 1))) (y_add rfl rfl) ?_
  refine pl_val (.int .i64 (w64 (k18 + 1))) (y_assign rfl) ?_
  refine c_nil ?_
  cases hs
  exact ⟨_, f28, fr_ovl 22 ⟨rfl, rfl, congrArg (Value.int .i64) hw, trivial⟩, hC, hO, h0, hv28⟩
 ·skip
  exact ⟨_, f2, fr_ovl 22 ⟨rfl, rfl, rfl, trivial⟩, hC, hO, h0, hv2⟩
 ·cases o20 with
  | nx _ => exact True.intro
  | rt r_ =>
   have hs := after_rt hs
   intro a1 w1 hK
   cases hs
   exact hK
  | br s16 =>
   have hs := after_br hs
   rintro a1 w17 ⟨σ, f23, rfl, hC, hO, h0, hv23⟩
   refine c_seq (c_region ?_)
   refine pl_val (.slice a2 n2 c2) (y_move rfl) ?_
   refine pl_val (.slice a2 n2 c2) (y_assign rfl) ?_
   refine c_nil ?_
   refine wp_ret ?_
   cases hs
   exact ⟨_, a2, n2, c2, f23, fr_ovl 22 ⟨rfl, trivial⟩, hC, hv23, hO.top⟩

theorem Ag81 : AggT Try.prog 81 true := fun _ => by kernel_rfl

theorem Sz81 : SzT Try.prog 81 2 := ⟨_, rfl, rfl⟩

theorem Fa78x0 : ∀ (a : Addr) (w : World), (Instr.fieldAt 78 (.pointer (some a)) 0).run Try.prog w = .ok (.pointer (some (a.add 0))) w := fun _ _ => by kernel_rfl

theorem Fa81x0 : ∀ (a : Addr) (w : World), (Instr.fieldAt 81 (.pointer (some a)) 0).run Try.prog w = .ok (.pointer (some (a.add 0))) w := fun _ _ => by kernel_rfl

theorem Bd14 : Bodied Try.prog 14 := bodied Try.func14 (by kernel_rfl) rfl

theorem Fa81x1 : ∀ (a : Addr) (w : World), (Instr.fieldAt 81 (.pointer (some a)) 1).run Try.prog w = .ok (.pointer (some (a.add 1))) w := fun _ _ => by kernel_rfl

def k_laws_toOp (M : Nat → Prop) (w0 : World) (r : (Int × (List Int))) (a : Act) (w : World) : Prop :=
  ∃ (σ : Nat → Value) (rg2 : Nat) (ra0 : Option Addr) (rn0 rc0 : Nat) (rf0 : List Nat), a = fr 12 (ovl σ [(2, (.pointer (some ⟨rg2, 0, none⟩)))]) ∧ BoxV w rg2 81 [(.int .i64 r.1), (.slice ra0 rn0 rc0)] ∧ Chg [] w0 w ∧ (RT.os 3 (RT.int .i64)).val M w (.slice ra0 rn0 rc0) r.2 rf0 ∧ Own (Nw w0 []) (fun _ => True) w (rf0 ++ ([]))
def s_laws_toOp (a_ : Int × (List Int)) : Option ((Int × (List Int))) :=
  (s_laws_toIntS a_.2).bind fun r7 =>
  some (a_.1, r7)
set_option maxHeartbeats 4000000 in
theorem c_laws_toOp {M : Nat → Prop} {w : World} {pa0 : Option Addr} {pn0 pc0 : Nat} (a_ : Int × (List Int)) (h0 : (RT.rs (RT.int .i64)).val M w (.slice pa0 pn0 pc0) a_.2 ([])) (hM : ∀ g, w.heap.size ≤ g → M g) {r : (Int × (List Int))} (hs : s_laws_toOp a_ = some r) :
    Gives Try.prog 83 [(.agg #[(.int .i64 a_.1), (.slice pa0 pn0 pc0)])] w (fun v w' => ∃ (ra0 : Option Addr) (rn0 rc0 : Nat) (rf0 : List Nat), v = (.agg #[(.int .i64 r.1), (.slice ra0 rn0 rc0)]) ∧ Chg [] w w' ∧ (RT.os 3 (RT.int .i64)).val M w' (.slice ra0 rn0 rc0) r.2 rf0 ∧ Own (Nw w []) (fun _ => True) w' (rf0 ++ ([]))) := by
 refine calls_fr Try.func83 rfl Try.ntmps83 (Nat.le_of_ble_eq_true rfl) ?_
 have hO := Own.start (N := Nw w []) hM Nw.fut
 have hC := Chg.refl [] w
 unfold s_laws_toOp at hs
 refine wp_mono (Q := KPost (k_laws_toOp M w r)) ?_ (fun e a w1 h => ?_)
 rotate_left
 ·cases e
  case ret =>
   obtain ⟨σ, rg2, ra0, rn0, rc0, rf0, rfl, hbrg2, hrest⟩ := h
   exact ret1x Try.results83 (res_cell rfl (box_load Ag81 Sz81 hbrg2 [] _ [] rfl rfl (fun h => nomatch h))) ⟨ra0, rn0, rc0, rf0, rfl, hrest⟩
  all_goals exact (h : False).elim
 refine c_seq (c_region ?_)
 obtain ⟨w2, g2, ew2, eg2, hC2, hb2⟩ := new_block w [(.int .i64 a_.1), (.slice pa0 pn0 pc0)] 78
 refine pl_val (w' := w2) (.pointer (some ⟨g2, 0, none⟩)) (y_box rfl (by rw [ew2, eg2]; kernel_rfl)) ?_
 have h0 := h0.ext hC2
 have hC := hC.ext hC2
 have hO := hO.new1 hC2 eg2 hb2.lt
 obtain ⟨w3, g3, ew3, eg3, hC3, hb3⟩ := new_block w2 [(.int .i64 0), (.slice none 0 0)] 81
 refine pl_val (w' := w3) (.pointer (some ⟨g3, 0, none⟩)) (y_alloc (by rw [ew3, eg3]; kernel_rfl)) ?_
 have h0 := h0.ext hC3
 have hb2 := hb2.chg hC3 (fun h => nomatch h)
 have hC := hC.ext hC3
 have hO := hO.new1 hC3 eg3 hb3.lt
 refine c_nil ?_
 refine c_seq (c_region ?_)
 obtain ⟨w4, g4, ew4, eg4, hC4, hb4⟩ := new_block w3 [(.int .i64 0), (.slice none 0 0)] 81
 refine pl_val (w' := w4) (.pointer (some ⟨g4, 0, none⟩)) (y_alloc (by rw [ew4, eg4]; kernel_rfl)) ?_
 have h0 := h0.ext hC4
 have hb2 := hb2.chg hC4 (fun h => nomatch h)
 have hb3 := hb3.chg hC4 (fun h => nomatch h)
 have hC := hC.ext hC4
 have hO := hO.new1 hC4 eg4 hb4.lt
 refine c_nil ?_
 refine c_seq (c_region ?_)
 refine pl_val (.pointer (some ⟨g2, 0, none⟩)) (y_faddr rfl Fa78x0) ?_
 refine pl_val (.int .i64 a_.1) (y_load rfl ((box_load Ag3 Sz3 hb2 [] [(.int .i64 a_.1)] [(.slice pa0 pn0 pc0)] rfl rfl (fun _ => rfl)) _ (Chg.refl _ _))) ?_
 refine pl_val (.pointer (some ⟨g4, 0, none⟩)) (y_faddr rfl Fa81x0) ?_
 obtain ⟨w5, hst5, hC5, hb5⟩ := box_store (P := Try.prog) hb4 [] [(.int .i64 0)] [(.slice none 0 0)] [(.int .i64 a_.1)] rfl rfl (by intro u hu; simp only [List.mem_cons, List.not_mem_nil, or_false] at hu; rcases hu with rfl <;> rfl)
 refine pl_skip (w' := w5) (ys_store rfl rfl (hst5 _ _ rfl Sz3)) ?_
 have h0 := h0.mut hC5 (fun g hg => hO.inM g ((fun _ h => h) g hg)) (fun _ _ h => nomatch h)
 have hb2 := hb2.chg hC5 (fun hg => hO.apart _ ((fun _ h => h) _ hg) (mem_r (mem_l (List.mem_singleton.2 rfl))))
 have hb3 := hb3.chg hC5 (fun hg => hO.apart _ ((fun _ h => h) _ hg) (mem_l (List.mem_singleton.2 rfl)))
 have hC := hC.step hC5 (fun g hg => hO.inN g ((fun _ h => h) g hg))
 have hO := hO.ext hC5
 have hb5 : BoxV w5 g4 81 [(.int .i64 a_.1), (.slice none 0 0)] := hb5
 refine c_nil ?_
 refine c_seq (c_region ?_)
 refine pl_val (.pointer (some ⟨g2, 1, none⟩)) (y_faddr rfl Fa78x1) ?_
 refine pl_val (.slice pa0 pn0 pc0) (y_load rfl ((box_load Ag22 Sz22 hb2 [(.int .i64 a_.1)] [(.slice pa0 pn0 pc0)] [] rfl rfl (fun _ => rfl)) _ (Chg.refl _ _))) ?_
 obtain ⟨r7, hr7, hs⟩ := bind_some hs
 refine pl_call Bd14 rfl (c_laws_toIntS (M := M) a_.2 h0 hO.fut hr7) ?_
 rintro _ w6 ⟨a6x0, n6x0, c6x0, f6x0, rfl, hC6, hv6x0, hOc6⟩
 have h0 := h0.ext hC6
 have hb2 := hb2.chg hC6 (fun h => nomatch h)
 have hb3 := hb3.chg hC6 (fun h => nomatch h)
 have hb5 := hb5.chg hC6 (fun h => nomatch h)
 have hC := hC.ext hC6
 have hO := Own.join0 hO hC6 hOc6
 have hO := hO.perm (R := f6x0 ++ (([g4]) ++ (([g3]) ++ (([g2]) ++ ([]))))) (by simp)
 refine pl_val (.pointer (some ⟨g4, 1, none⟩)) (y_faddr rfl Fa81x1) ?_
 obtain ⟨w9, hst9, hC9, hb9⟩ := box_store (P := Try.prog) hb5 [(.int .i64 a_.1)] [(.slice none 0 0)] [] [(.slice a6x0 n6x0 c6x0)] rfl rfl (by intro u hu; simp only [List.mem_cons, List.not_mem_nil, or_false] at hu; rcases hu with rfl <;> rfl)
 refine pl_skip (w' := w9) (ys_store rfl rfl (hst9 _ _ rfl Sz22)) ?_
 have hO := hO.fr1
 have h0 := h0.mut hC9 (fun g hg => hO.inM g ((fun _ h => h) g hg)) (fun _ _ h => nomatch h)
 have hb2 := hb2.chg hC9 (fun hg => hO.apart _ ((fun _ h => h) _ hg) (mem_r (mem_r (mem_l (List.mem_singleton.2 rfl)))))
 have hb3 := hb3.chg hC9 (fun hg => hO.apart _ ((fun _ h => h) _ hg) (mem_r (mem_l (List.mem_singleton.2 rfl))))
 have hv6x0 := hv6x0.mut hC9 (fun g hg => hO.inM g ((fun _ h => h) g hg)) (fun g hg e => hO.apart g ((fun _ h => h) g hg) (mem_l (e)))
 have hC := hC.step hC9 (fun g hg => hO.inN g ((fun _ h => h) g hg))
 have hO := hO.ext hC9
 have hb9 : BoxV w9 g4 81 [(.int .i64 a_.1), (.slice a6x0 n6x0 c6x0)] := hb9
 refine c_nil ?_
 refine c_seq (c_region ?_)
 refine pl_val (.agg #[(.int .i64 a_.1), (.slice a6x0 n6x0 c6x0)]) (y_load rfl ((box_load Ag81 Sz81 hb9 [] [(.int .i64 a_.1), (.slice a6x0 n6x0 c6x0)] [] rfl rfl (fun h => nomatch h)) _ (Chg.refl _ _))) ?_
 obtain ⟨w10, hst10, hC10, hb10⟩ := box_store (P := Try.prog) hb3 [] [(.int .i64 0), (.slice none 0 0)] [] [(.int .i64 a_.1), (.slice a6x0 n6x0 c6x0)] rfl rfl (by intro u hu; simp only [List.mem_cons, List.not_mem_nil, or_false] at hu; rcases hu with rfl | rfl <;> rfl)
 refine pl_skip (w' := w10) (ys_store rfl rfl (hst10 _ _ rfl Sz81)) ?_
 have hO := hO.fr2
 have hb2 := hb2.chg hC10 (fun hg => hO.apart _ ((fun _ h => h) _ hg) (mem_r (mem_r (mem_l (List.mem_singleton.2 rfl)))))
 have hb9 := hb9.chg hC10 (fun hg => hO.apart _ ((fun _ h => h) _ hg) (mem_l (List.mem_singleton.2 rfl)))
 have hv6x0 := hv6x0.mut hC10 (fun g hg => hO.inM g ((fun _ h => h) g hg)) (fun g hg e => hO.apart g ((fun _ h => h) g hg) (mem_r (mem_l (e))))
 have hC := hC.step hC10 (fun g hg => hO.inN g ((fun _ h => h) g hg))
 have hO := hO.ext hC10
 have hb10 : BoxV w10 g3 81 [(.int .i64 a_.1), (.slice a6x0 n6x0 c6x0)] := hb10
 refine c_nil ?_
 refine wp_ret ?_
 cases hs
 have hO := hO.drop
 have hO := hO.drop
 have hO := hO.fr1
 have hO := hO.drop
 exact ⟨_, g3, a6x0, n6x0, c6x0, f6x0, fr_ovl 12 ⟨rfl, trivial⟩, hb10, hC, hv6x0, hO.top⟩

theorem Rw33 : RowT Try.prog 33 81 2 [(.int .i64 0), (.slice none 0 0)] := ⟨Try.underlying33, ⟨_, _, rfl, rfl, rfl, rfl, by decide⟩, rfl, by decide⟩

theorem Bd83 : Bodied Try.prog 83 := bodied Try.func83 (by kernel_rfl) rfl

theorem Sl33 : SlT Try.prog 33 81 := Try.underlying33

def k_laws_toOpS (M : Nat → Prop) (w0 : World) (r : (List (Int × (List Int)))) (a : Act) (w : World) : Prop :=
  ∃ (σ : Nat → Value) (ra0 : Option Addr) (rn0 rc0 : Nat) (rf0 : List Nat), a = fr 23 (ovl σ [(2, (.slice ra0 rn0 rc0))]) ∧ Chg [] w0 w ∧ (RT.os 81 (RT.pr (RT.int .i64) (RT.os 3 (RT.int .i64)))).val M w (.slice ra0 rn0 rc0) r rf0 ∧ Own (Nw w0 []) (fun _ => True) w (rf0 ++ ([]))
def s_laws_toOpS (a_ : List (Int × (List Int))) : Option ((List (Int × (List Int)))) :=
  (mks (a_.length : Int) ((0, []) : Int × (List Int))).bind fun y3 =>
  (forC (S := (List (Int × (List Int)))) (R := (List (Int × (List Int)))) (fun k28 s26 =>
  (idx a_ k28).bind fun x34 =>
  (s_laws_toOp (x34.1, x34.2)).bind fun r39 =>
  (idx s26 k28).bind fun x41 =>
  some (.nx (List.set s26 (Int.toNat k28) (r39.1, r39.2)))) 0 (a_.length : Int) y3).bind fun o30 => after o30 (fun r_ => some r_) (fun s26 =>
  some s26)
set_option maxHeartbeats 4000000 in
theorem c_laws_toOpS {M : Nat → Prop} {w : World} {pa0 : Option Addr} {pn0 pc0 : Nat} (a_ : List (Int × (List Int))) (h0 : (RT.rs (RT.pr (RT.int .i64) (RT.rs (RT.int .i64)))).val M w (.slice pa0 pn0 pc0) a_ ([])) (hM : ∀ g, w.heap.size ≤ g → M g) {r : (List (Int × (List Int)))} (hs : s_laws_toOpS a_ = some r) :
    Gives Try.prog 52 [(.slice pa0 pn0 pc0)] w (fun v w' => ∃ (ra0 : Option Addr) (rn0 rc0 : Nat) (rf0 : List Nat), v = (.slice ra0 rn0 rc0) ∧ Chg [] w w' ∧ (RT.os 81 (RT.pr (RT.int .i64) (RT.os 3 (RT.int .i64)))).val M w' (.slice ra0 rn0 rc0) r rf0 ∧ Own (Nw w []) (fun _ => True) w' (rf0 ++ ([]))) := by
 refine calls_fr Try.func52 rfl Try.ntmps52 (Nat.le_of_ble_eq_true rfl) ?_
 have hO := Own.start (N := Nw w []) hM Nw.fut
 have hC := Chg.refl [] w
 unfold s_laws_toOpS at hs
 refine wp_mono (Q := KPost (k_laws_toOpS M w r)) ?_ (fun e a w1 h => ?_)
 rotate_left
 ·cases e
  case ret =>
   obtain ⟨σ, ra0, rn0, rc0, rf0, rfl, hrest⟩ := h
   exact ret1x Try.results52 (res_tmp rfl) ⟨ra0, rn0, rc0, rf0, rfl, hrest⟩
  all_goals exact (h : False).elim
 refine c_seq (c_region ?_)
 refine pl_val (.slice none 0 0) (y_assign rfl) ?_
 refine c_nil ?_
 refine c_seq (c_region ?_)
 refine pl_val (.slice pa0 pn0 pc0) (y_move rfl) ?_
 refine pl_val (.int .i64 (a_.length : Int)) (y_len' Sl28 (rs_len h0) rfl) ?_
 obtain ⟨y3, hy3, hs⟩ := bind_some hs
 obtain ⟨a2, n2, c2, w2, f2, hm2, hC2, hfr2, hv2⟩ := mk_os (M := M) (w := w) (r := (RT.pr (RT.int .i64) (RT.os 3 (RT.int .i64)))) Rw33 hy3 (fun _ _ => ⟨_, _, [], [], rfl, rfl, ⟨rfl, rfl⟩, (os_unval os_nil)⟩)
 refine pl_val (w' := w2) (.slice a2 n2 c2) (y_make rfl rfl hm2) ?_
 have h0 := h0.ext hC2
 have hC := hC.ext hC2
 have hO := hO.new hC2 hfr2 (os_nodup hv2) hv2.fpl
 refine pl_val (.slice a2 n2 c2) (y_assign rfl) ?_
 refine c_nil ?_
 refine c_seq ?_
 refine c_seq (c_region ?_)
 refine pl_val (.int .i64 0) (y_assign rfl) ?_
 refine c_nil ?_
 obtain ⟨o30, hl31, hs⟩ := bind_some hs
 refine wp_block ?_
 refine wp_forC (id := 0) (a_.length : Int) (I := fun k28 s26 a w27 => ∃ (σ : Nat → Value) (f32 : List Nat), a = fr 23 (ovl σ [(0, (.slice pa0 pn0 pc0)), (3, (.slice a2 n2 c2)), (4, (.int .i64 k28))]) ∧ Chg [] w w27 ∧ Own (Nw w []) M w27 (f32 ++ []) ∧ (RT.rs (RT.pr (RT.int .i64) (RT.rs (RT.int .i64)))).val M w27 (.slice pa0 pn0 pc0) a_ ([]) ∧ (RT.os 81 (RT.pr (RT.int .i64) (RT.os 3 (RT.int .i64)))).val M w27 (.slice a2 n2 c2) s26 f32) (J := fun s26 a w27 => ∃ (σ : Nat → Value) (f33 : List Nat), a = fr 23 (ovl σ [(3, (.slice a2 n2 c2))]) ∧ Chg [] w w27 ∧ Own (Nw w []) M w27 (f33 ++ []) ∧ (RT.rs (RT.pr (RT.int .i64) (RT.rs (RT.int .i64)))).val M w27 (.slice pa0 pn0 pc0) a_ ([]) ∧ (RT.os 81 (RT.pr (RT.int .i64) (RT.os 3 (RT.int .i64)))).val M w27 (.slice a2 n2 c2) s26 f33) (K := (k_laws_toOpS M w)) ?_ ?_ 0 y3 o30 _ _ ?_ hl31 ?_
 ·rintro k28 s26 a w27 ⟨σ, f32, rfl, hC, hO, h0, hv32⟩ hlt
  refine c_seq ?_
  refine c_seq (c_region ?_)
  refine pl_val (.int .i64 k28) (y_move rfl) ?_
  refine pl_val (.slice pa0 pn0 pc0) (y_move rfl) ?_
  refine pl_val (.int .i64 (a_.length : Int)) (y_len' Sl28 (rs_len h0) rfl) ?_
  refine pl_val (.bool (decide (k28 < (a_.length : Int)))) (y_lss rfl rfl) ?_
  refine c_nil ?_
  refine c_condF (congrArg Value.bool (decide_eq_false hlt)) ?_
  refine wp_exit ?_
  exact ⟨rfl, _, f32, fr_ovl 23 ⟨rfl, trivial⟩, hC, hO, h0, hv32⟩
 ·rintro k28 s26 o30 a w27 ⟨σ, f32, rfl, hC, hO, h0, hv32⟩ hlt hw hs
  refine c_seq ?_
  refine c_seq (c_region ?_)
  refine pl_val (.int .i64 k28) (y_move rfl) ?_
  refine pl_val (.slice pa0 pn0 pc0) (y_move rfl) ?_
  refine pl_val (.int .i64 (a_.length : Int)) (y_len' Sl28 (rs_len h0) rfl) ?_
  refine pl_val (.bool (decide (k28 < (a_.length : Int)))) (y_lss rfl rfl) ?_
  refine c_nil ?_
  refine c_condT (congrArg Value.bool (decide_eq_true hlt)) ?_
  refine wp_skip ?_
  refine c_seq ?_
  refine wp_block ?_
  refine c_region ?_
  refine pl_val (.slice a2 n2 c2) (y_move rfl) ?_
  refine pl_val (.int .i64 k28) (y_move rfl) ?_
  refine pl_val (.slice pa0 pn0 pc0) (y_move rfl) ?_
  refine pl_val (.int .i64 k28) (y_move rfl) ?_
  obtain ⟨x34, hx34, hs⟩ := bind_some hs
  obtain ⟨b35, o35, hp35, ha35⟩ := rs_idx Sl28 Sz78 h0 hx34
  refine pl_val (.pointer (some ⟨b35, o35, none⟩)) (hp35 _ _ _ _ _ _ _ _ _ rfl rfl) ?_
  obtain ⟨v36, hl36, hv36⟩ := at_load Ag78 Sz78 (by intro h; cases h) ha35
  obtain ⟨cs36, rfl, hr36⟩ := hv36
  obtain ⟨cc36x1, cd36x1, rfl, hh36x1, ht36x1⟩ := pr_open hr36
  obtain rfl := int_rel hh36x1
  obtain ⟨a36x2, n36x2, c36x2, rfl, hv36x2⟩ := rs_rel ht36x1
  refine pl_val (.agg #[(.int .i64 x34.1), (.slice a36x2 n36x2 c36x2)]) (y_load rfl (hl36 _ (Chg.refl _ _))) ?_
  obtain ⟨r39, hr39, hs⟩ := bind_some hs
  refine pl_call Bd83 rfl (c_laws_toOp (M := M) (x34.1, x34.2) hv36x2 hO.fut hr39) ?_
  rintro _ w38 ⟨a38x0, n38x0, c38x0, f38x0, rfl, hC38, hv38x0, hOc38⟩
  have h0 := h0.ext hC38
  have hv32 := hv32.ext hC38
  have hv36x2 := hv36x2.ext hC38
  have hC := hC.ext hC38
  have hO := Own.join0 hO hC38 hOc38
  have hO := hO.perm (R := f38x0 ++ (f32 ++ ([]))) (by simp)
  obtain ⟨x41, hx41, hs⟩ := bind_some hs
  obtain ⟨g42, f42, hg42, hk42, hp42, ha42, hf42⟩ := os_idx Sl33 Sz81 hv32 hx41
  have hb42 := own_row (Frz.pr Frz.int (Frz.os Frz.int)) ha42 hf42
  refine pl_val (.pointer (some ⟨g42, 0 + Int.toNat k28 * 2, none⟩)) (hp42 _ _ _ _ _ _ _ _ _ rfl rfl) ?_
  have hO := hO.fr1
  obtain ⟨w43, f43, hst43, hC43, hf43, hv43⟩ := os_store (P := Try.prog) (c' := [(.int .i64 r39.1), (.slice a38x0 n38x0 c38x0)]) hg42 hv32 hk42 (fun g hg => hO.inM g (os_block hv32 g (by simpa using hg))) ⟨_, _, _, _, rfl, rfl, ⟨rfl, rfl⟩, (os_unval hv38x0)⟩ (hO.drop.perm (R := (([] : List Nat) ++ f38x0) ++ ([])) (by simp)).nd (fun g hg hq => hO.apart g hq (by simp only [List.mem_append, List.not_mem_nil, false_or, or_false] at hg ⊢; simp [hg])) (fun _ h => .inl h)
  have hG43 : ∀ q ∈ [g42], q ∈ f32 := fun q hq => os_block hv32 q (by rw [hg42]; exact hq)
  refine pl_skip (w' := w43) (ys_store rfl rfl (hst43 _ _ rfl Sz81)) ?_
  have hO := hO.fr1
  have hO := hO.fr1
  have h0 := h0.mut hC43 (fun g hg => hO.inM g (hG43 g hg)) (fun _ _ h => nomatch h)
  have hv36x2 := hv36x2.mut hC43 (fun g hg => hO.inM g (hG43 g hg)) (fun _ _ h => nomatch h)
  have hC := hC.step hC43 (fun g hg => hO.inN g (hG43 g hg))
  have hO := hO.perm (R := f32 ++ ((([] : List Nat) ++ f38x0) ++ ([]))) (by simp)
  have hO := hO.eat hC43 (fun q hq => (hf43 q hq).elim .inl (fun h => .inr (.inl h))) (os_nodup hv43) hv43.fpl
  refine c_nil ?_
  refine c_region ?_
  refine pl_val (.int .i64 k28) (y_move rfl) ?_
  refine pl_val (.int .i64 (w64 (k28 + 1))) (y_add rfl rfl) ?_
  refine pl_val (.int .i64 (w64 (k28 + 1))) (y_assign rfl) ?_
  refine c_nil ?_
  cases hs
  exact ⟨_, f43, fr_ovl 23 ⟨rfl, rfl, congrArg (Value.int .i64) hw, trivial⟩, hC, hO, h0, hv43⟩
 ·skip
  exact ⟨_, f2, fr_ovl 23 ⟨rfl, rfl, rfl, trivial⟩, hC, hO, h0, hv2⟩
 ·cases o30 with
  | nx _ => exact True.intro
  | rt r_ =>
   have hs := after_rt hs
   intro a1 w1 hK
   cases hs
   exact hK
  | br s26 =>
   have hs := after_br hs
   rintro a1 w27 ⟨σ, f33, rfl, hC, hO, h0, hv33⟩
   refine c_seq (c_region ?_)
   refine pl_val (.slice a2 n2 c2) (y_move rfl) ?_
   refine pl_val (.slice a2 n2 c2) (y_assign rfl) ?_
   refine c_nil ?_
   refine wp_ret ?_
   cases hs
   exact ⟨_, a2, n2, c2, f33, fr_ovl 23 ⟨rfl, trivial⟩, hC, hv33, hO.top⟩

theorem Ag35 : AggT Try.prog 35 true := fun _ => by kernel_rfl

theorem Sz35 : SzT Try.prog 35 2 := ⟨_, rfl, rfl⟩

theorem Fa30x0 : ∀ (a : Addr) (w : World), (Instr.fieldAt 30 (.pointer (some a)) 0).run Try.prog w = .ok (.pointer (some (a.add 0))) w := fun _ _ => by kernel_rfl

theorem Fa35x0 : ∀ (a : Addr) (w : World), (Instr.fieldAt 35 (.pointer (some a)) 0).run Try.prog w = .ok (.pointer (some (a.add 0))) w := fun _ _ => by kernel_rfl

theorem Bd52 : Bodied Try.prog 52 := bodied Try.func52 (by kernel_rfl) rfl

theorem Fa35x1 : ∀ (a : Addr) (w : World), (Instr.fieldAt 35 (.pointer (some a)) 1).run Try.prog w = .ok (.pointer (some (a.add 1))) w := fun _ _ => by kernel_rfl

theorem Sz33 : SzT Try.prog 33 1 := ⟨_, rfl, rfl⟩

def k_laws_toAlgebra (M : Nat → Prop) (w0 : World) (r : (Int × (List (Int × (List Int))))) (a : Act) (w : World) : Prop :=
  ∃ (σ : Nat → Value) (rg2 : Nat) (ra0 : Option Addr) (rn0 rc0 : Nat) (rf0 : List Nat), a = fr 12 (ovl σ [(2, (.pointer (some ⟨rg2, 0, none⟩)))]) ∧ BoxV w rg2 35 [(.int .i64 r.1), (.slice ra0 rn0 rc0)] ∧ Chg [] w0 w ∧ (RT.os 81 (RT.pr (RT.int .i64) (RT.os 3 (RT.int .i64)))).val M w (.slice ra0 rn0 rc0) r.2 rf0 ∧ Own (Nw w0 []) (fun _ => True) w (rf0 ++ ([]))
def s_laws_toAlgebra (a_ : Int × (List (Int × (List Int)))) : Option ((Int × (List (Int × (List Int))))) :=
  (s_laws_toOpS a_.2).bind fun r7 =>
  some (a_.1, r7)
set_option maxHeartbeats 4000000 in
theorem c_laws_toAlgebra {M : Nat → Prop} {w : World} {pa0 : Option Addr} {pn0 pc0 : Nat} (a_ : Int × (List (Int × (List Int)))) (h0 : (RT.rs (RT.pr (RT.int .i64) (RT.rs (RT.int .i64)))).val M w (.slice pa0 pn0 pc0) a_.2 ([])) (hM : ∀ g, w.heap.size ≤ g → M g) {r : (Int × (List (Int × (List Int))))} (hs : s_laws_toAlgebra a_ = some r) :
    Gives Try.prog 19 [(.agg #[(.int .i64 a_.1), (.slice pa0 pn0 pc0)])] w (fun v w' => ∃ (ra0 : Option Addr) (rn0 rc0 : Nat) (rf0 : List Nat), v = (.agg #[(.int .i64 r.1), (.slice ra0 rn0 rc0)]) ∧ Chg [] w w' ∧ (RT.os 81 (RT.pr (RT.int .i64) (RT.os 3 (RT.int .i64)))).val M w' (.slice ra0 rn0 rc0) r.2 rf0 ∧ Own (Nw w []) (fun _ => True) w' (rf0 ++ ([]))) := by
 refine calls_fr Try.func19 rfl Try.ntmps19 (Nat.le_of_ble_eq_true rfl) ?_
 have hO := Own.start (N := Nw w []) hM Nw.fut
 have hC := Chg.refl [] w
 unfold s_laws_toAlgebra at hs
 refine wp_mono (Q := KPost (k_laws_toAlgebra M w r)) ?_ (fun e a w1 h => ?_)
 rotate_left
 ·cases e
  case ret =>
   obtain ⟨σ, rg2, ra0, rn0, rc0, rf0, rfl, hbrg2, hrest⟩ := h
   exact ret1x Try.results19 (res_cell rfl (box_load Ag35 Sz35 hbrg2 [] _ [] rfl rfl (fun h => nomatch h))) ⟨ra0, rn0, rc0, rf0, rfl, hrest⟩
  all_goals exact (h : False).elim
 refine c_seq (c_region ?_)
 obtain ⟨w2, g2, ew2, eg2, hC2, hb2⟩ := new_block w [(.int .i64 a_.1), (.slice pa0 pn0 pc0)] 30
 refine pl_val (w' := w2) (.pointer (some ⟨g2, 0, none⟩)) (y_box rfl (by rw [ew2, eg2]; kernel_rfl)) ?_
 have h0 := h0.ext hC2
 have hC := hC.ext hC2
 have hO := hO.new1 hC2 eg2 hb2.lt
 obtain ⟨w3, g3, ew3, eg3, hC3, hb3⟩ := new_block w2 [(.int .i64 0), (.slice none 0 0)] 35
 refine pl_val (w' := w3) (.pointer (some ⟨g3, 0, none⟩)) (y_alloc (by rw [ew3, eg3]; kernel_rfl)) ?_
 have h0 := h0.ext hC3
 have hb2 := hb2.chg hC3 (fun h => nomatch h)
 have hC := hC.ext hC3
 have hO := hO.new1 hC3 eg3 hb3.lt
 refine c_nil ?_
 refine c_seq (c_region ?_)
 obtain ⟨w4, g4, ew4, eg4, hC4, hb4⟩ := new_block w3 [(.int .i64 0), (.slice none 0 0)] 35
 refine pl_val (w' := w4) (.pointer (some ⟨g4, 0, none⟩)) (y_alloc (by rw [ew4, eg4]; kernel_rfl)) ?_
 have h0 := h0.ext hC4
 have hb2 := hb2.chg hC4 (fun h => nomatch h)
 have hb3 := hb3.chg hC4 (fun h => nomatch h)
 have hC := hC.ext hC4
 have hO := hO.new1 hC4 eg4 hb4.lt
 refine c_nil ?_
 refine c_seq (c_region ?_)
 refine pl_val (.pointer (some ⟨g2, 0, none⟩)) (y_faddr rfl Fa30x0) ?_
 refine pl_val (.int .i64 a_.1) (y_load rfl ((box_load Ag3 Sz3 hb2 [] [(.int .i64 a_.1)] [(.slice pa0 pn0 pc0)] rfl rfl (fun _ => rfl)) _ (Chg.refl _ _))) ?_
 refine pl_val (.pointer (some ⟨g4, 0, none⟩)) (y_faddr rfl Fa35x0) ?_
 obtain ⟨w5, hst5, hC5, hb5⟩ := box_store (P := Try.prog) hb4 [] [(.int .i64 0)] [(.slice none 0 0)] [(.int .i64 a_.1)] rfl rfl (by intro u hu; simp only [List.mem_cons, List.not_mem_nil, or_false] at hu; rcases hu with rfl <;> rfl)
 refine pl_skip (w' := w5) (ys_store rfl rfl (hst5 _ _ rfl Sz3)) ?_
 have h0 := h0.mut hC5 (fun g hg => hO.inM g ((fun _ h => h) g hg)) (fun _ _ h => nomatch h)
 have hb2 := hb2.chg hC5 (fun hg => hO.apart _ ((fun _ h => h) _ hg) (mem_r (mem_l (List.mem_singleton.2 rfl))))
 have hb3 := hb3.chg hC5 (fun hg => hO.apart _ ((fun _ h => h) _ hg) (mem_l (List.mem_singleton.2 rfl)))
 have hC := hC.step hC5 (fun g hg => hO.inN g ((fun _ h => h) g hg))
 have hO := hO.ext hC5
 have hb5 : BoxV w5 g4 35 [(.int .i64 a_.1), (.slice none 0 0)] := hb5
 refine c_nil ?_
 refine c_seq (c_region ?_)
 refine pl_val (.pointer (some ⟨g2, 1, none⟩)) (y_faddr rfl Fa30x1) ?_
 refine pl_val (.slice pa0 pn0 pc0) (y_load rfl ((box_load Ag28 Sz28 hb2 [(.int .i64 a_.1)] [(.slice pa0 pn0 pc0)] [] rfl rfl (fun _ => rfl)) _ (Chg.refl _ _))) ?_
 obtain ⟨r7, hr7, hs⟩ := bind_some hs
 refine pl_call Bd52 rfl (c_laws_toOpS (M := M) a_.2 h0 hO.fut hr7) ?_
 rintro _ w6 ⟨a6x0, n6x0, c6x0, f6x0, rfl, hC6, hv6x0, hOc6⟩
 have h0 := h0.ext hC6
 have hb2 := hb2.chg hC6 (fun h => nomatch h)
 have hb3 := hb3.chg hC6 (fun h => nomatch h)
 have hb5 := hb5.chg hC6 (fun h => nomatch h)
 have hC := hC.ext hC6
 have hO := Own.join0 hO hC6 hOc6
 have hO := hO.perm (R := f6x0 ++ (([g4]) ++ (([g3]) ++ (([g2]) ++ ([]))))) (by simp)
 refine pl_val (.pointer (some ⟨g4, 1, none⟩)) (y_faddr rfl Fa35x1) ?_
 obtain ⟨w9, hst9, hC9, hb9⟩ := box_store (P := Try.prog) hb5 [(.int .i64 a_.1)] [(.slice none 0 0)] [] [(.slice a6x0 n6x0 c6x0)] rfl rfl (by intro u hu; simp only [List.mem_cons, List.not_mem_nil, or_false] at hu; rcases hu with rfl <;> rfl)
 refine pl_skip (w' := w9) (ys_store rfl rfl (hst9 _ _ rfl Sz33)) ?_
 have hO := hO.fr1
 have h0 := h0.mut hC9 (fun g hg => hO.inM g ((fun _ h => h) g hg)) (fun _ _ h => nomatch h)
 have hb2 := hb2.chg hC9 (fun hg => hO.apart _ ((fun _ h => h) _ hg) (mem_r (mem_r (mem_l (List.mem_singleton.2 rfl)))))
 have hb3 := hb3.chg hC9 (fun hg => hO.apart _ ((fun _ h => h) _ hg) (mem_r (mem_l (List.mem_singleton.2 rfl))))
 have hv6x0 := hv6x0.mut hC9 (fun g hg => hO.inM g ((fun _ h => h) g hg)) (fun g hg e => hO.apart g ((fun _ h => h) g hg) (mem_l (e)))
 have hC := hC.step hC9 (fun g hg => hO.inN g ((fun _ h => h) g hg))
 have hO := hO.ext hC9
 have hb9 : BoxV w9 g4 35 [(.int .i64 a_.1), (.slice a6x0 n6x0 c6x0)] := hb9
 refine c_nil ?_
 refine c_seq (c_region ?_)
 refine pl_val (.agg #[(.int .i64 a_.1), (.slice a6x0 n6x0 c6x0)]) (y_load rfl ((box_load Ag35 Sz35 hb9 [] [(.int .i64 a_.1), (.slice a6x0 n6x0 c6x0)] [] rfl rfl (fun h => nomatch h)) _ (Chg.refl _ _))) ?_
 obtain ⟨w10, hst10, hC10, hb10⟩ := box_store (P := Try.prog) hb3 [] [(.int .i64 0), (.slice none 0 0)] [] [(.int .i64 a_.1), (.slice a6x0 n6x0 c6x0)] rfl rfl (by intro u hu; simp only [List.mem_cons, List.not_mem_nil, or_false] at hu; rcases hu with rfl | rfl <;> rfl)
 refine pl_skip (w' := w10) (ys_store rfl rfl (hst10 _ _ rfl Sz35)) ?_
 have hO := hO.fr2
 have hb2 := hb2.chg hC10 (fun hg => hO.apart _ ((fun _ h => h) _ hg) (mem_r (mem_r (mem_l (List.mem_singleton.2 rfl)))))
 have hb9 := hb9.chg hC10 (fun hg => hO.apart _ ((fun _ h => h) _ hg) (mem_l (List.mem_singleton.2 rfl)))
 have hv6x0 := hv6x0.mut hC10 (fun g hg => hO.inM g ((fun _ h => h) g hg)) (fun g hg e => hO.apart g ((fun _ h => h) g hg) (mem_r (mem_l (e))))
 have hC := hC.step hC10 (fun g hg => hO.inN g ((fun _ h => h) g hg))
 have hO := hO.ext hC10
 have hb10 : BoxV w10 g3 35 [(.int .i64 a_.1), (.slice a6x0 n6x0 c6x0)] := hb10
 refine c_nil ?_
 refine wp_ret ?_
 cases hs
 have hO := hO.drop
 have hO := hO.drop
 have hO := hO.fr1
 have hO := hO.drop
 exact ⟨_, g3, a6x0, n6x0, c6x0, f6x0, fr_ovl 12 ⟨rfl, trivial⟩, hb10, hC, hv6x0, hO.top⟩

def k_spec_l1In (M : Nat → Prop) (w0 : World) (r : Bool) (a : Act) (w : World) : Prop :=
  ∃ (σ : Nat → Value) , a = fr 15 (ovl σ [(6, (.bool r))]) ∧ Chg [] w0 w
def s_spec_l1In (x_ : Int) (a_ : Int) (b : Int) : Option (Bool) :=
  (bif (decide (a_ ≤ x_)) then some (decide (x_ ≤ b)) else some false)
set_option maxHeartbeats 4000000 in
theorem c_spec_l1In {M : Nat → Prop} {w : World}  (x_ : Int) (a_ : Int) (b : Int)  (hM : ∀ g, w.heap.size ≤ g → M g) {r : Bool} (hs : s_spec_l1In x_ a_ b = some r) :
    Gives Try.prog 93 [(.int .i64 x_), (.int .i64 a_), (.int .i64 b)] w (fun v w' => v = (.bool r) ∧ Chg [] w w') := by
 refine calls_fr Try.func93 rfl Try.ntmps93 (Nat.le_of_ble_eq_true rfl) ?_
 have hO := Own.start (N := Nw w []) hM Nw.fut
 have hC := Chg.refl [] w
 unfold s_spec_l1In at hs
 refine wp_mono (Q := KPost (k_spec_l1In M w r)) ?_ (fun e a w1 h => ?_)
 rotate_left
 ·cases e
  case ret =>
   obtain ⟨σ, rfl, hrest⟩ := h
   exact ret1x Try.results93 (res_tmp rfl) ⟨rfl, hrest⟩
  all_goals exact (h : False).elim
 refine c_seq (c_region ?_)
 refine pl_val (.bool false) (y_assign rfl) ?_
 refine c_nil ?_
 refine c_seq (c_region ?_)
 refine pl_val (.int .i64 x_) (y_move rfl) ?_
 refine pl_val (.int .i64 a_) (y_move rfl) ?_
 refine pl_val (.bool (decide (a_ ≤ x_))) (y_geq rfl rfl) ?_
 refine pl_val (.bool (decide (a_ ≤ x_))) (y_move rfl) ?_
 rcases bif_some hs with ⟨hc1, hs⟩ | ⟨hc1, hs⟩
 ·skip
  refine pl_yes (.int .i64 x_) (tg := 10) (by kernel_rfl) (congrArg Value.bool hc1) (y_move rfl) ?_
  refine pl_yes (.int .i64 b) (tg := 10) (by kernel_rfl) (congrArg Value.bool hc1) (y_move rfl) ?_
  refine pl_yes (.bool (decide (x_ ≤ b))) (tg := 10) (by kernel_rfl) (congrArg Value.bool hc1) (y_leq rfl rfl) ?_
  refine pl_val (.bool (decide (x_ ≤ b))) (y_pick_t (congrArg Value.bool hc1) rfl) ?_
  refine pl_val (.bool (decide (x_ ≤ b))) (y_assign rfl) ?_
  refine c_nil ?_
  refine wp_ret ?_
  cases hs
  exact ⟨_, fr_ovl 15 ⟨rfl, trivial⟩, hC⟩
 ·skip
  refine pl_not (tg := 10) (by kernel_rfl) (congrArg Value.bool hc1) ?_
  refine pl_not (tg := 10) (by kernel_rfl) (congrArg Value.bool hc1) ?_
  refine pl_not (tg := 10) (by kernel_rfl) (congrArg Value.bool hc1) ?_
  refine pl_val (.bool false) (y_pick_f (congrArg Value.bool hc1) rfl) ?_
  refine pl_val (.bool false) (y_assign rfl) ?_
  refine c_nil ?_
  refine wp_ret ?_
  cases hs
  exact ⟨_, fr_ovl 15 ⟨rfl, trivial⟩, hC⟩

def k_spec_l2Pow (M : Nat → Prop) (w0 : World) (r : Int) (a : Act) (w : World) : Prop :=
  ∃ (σ : Nat → Value) , a = fr 14 (ovl σ [(4, (.int .i64 r))]) ∧ Chg [] w0 w
def s_spec_l2Pow (n : Int) (k : Int) : Option (Int) :=
  (iter (S := Int × Int) (R := Int) (fun s2 =>
  (bif (decide (0 < s2.1)) then some (.nx (w64 (s2.1 - 1), w64 (s2.2 * n))) else some (.br (s2.1, s2.2)))) FU (k, 1)).bind fun o6 => after o6 (fun r_ => some r_) (fun s2 =>
  some s2.2)
set_option maxHeartbeats 4000000 in
theorem c_spec_l2Pow {M : Nat → Prop} {w : World}  (n : Int) (k : Int)  (hM : ∀ g, w.heap.size ≤ g → M g) {r : Int} (hs : s_spec_l2Pow n k = some r) :
    Gives Try.prog 120 [(.int .i64 n), (.int .i64 k)] w (fun v w' => v = (.int .i64 r) ∧ Chg [] w w') := by
 refine calls_fr Try.func120 rfl Try.ntmps120 (Nat.le_of_ble_eq_true rfl) ?_
 have hO := Own.start (N := Nw w []) hM Nw.fut
 have hC := Chg.refl [] w
 unfold s_spec_l2Pow at hs
 refine wp_mono (Q := KPost (k_spec_l2Pow M w r)) ?_ (fun e a w1 h => ?_)
 rotate_left
 ·cases e
  case ret =>
   obtain ⟨σ, rfl, hrest⟩ := h
   exact ret1x Try.results120 (res_tmp rfl) ⟨rfl, hrest⟩
  all_goals exact (h : False).elim
 refine c_seq (c_region ?_)
 refine pl_val (.int .i64 0) (y_assign rfl) ?_
 refine c_nil ?_
 refine c_seq (c_region ?_)
 refine pl_val (.int .i64 1) (y_assign rfl) ?_
 refine c_nil ?_
 refine c_seq ?_
 obtain ⟨o6, hl7, hs⟩ := bind_some hs
 refine wp_block ?_
 refine wp_iter (id := 0) (I := fun s2 a w3 => ∃ (σ : Nat → Value), a = fr 14 (ovl σ [(0, (.int .i64 n)), (1, (.int .i64 s2.1)), (5, (.int .i64 s2.2))]) ∧ Chg [] w w3 ∧ Own (Nw w []) M w3 ([])) (J := fun s2 a w3 => ∃ (σ : Nat → Value), a = fr 14 (ovl σ [(5, (.int .i64 s2.2))]) ∧ Chg [] w w3 ∧ Own (Nw w []) M w3 ([])) (K := (k_spec_l2Pow M w)) ?_ FU (k, 1) o6 _ _ ?_ hl7 ?_
 ·rintro s2 o6 a w3 ⟨σ, rfl, hC, hO⟩ hs
  refine c_seq ?_
  refine c_seq (c_region ?_)
  refine pl_val (.int .i64 s2.1) (y_move rfl) ?_
  refine pl_val (.bool (decide (0 < s2.1))) (y_gtr rfl rfl) ?_
  refine c_nil ?_
  rcases bif_some hs with ⟨hc8, hs⟩ | ⟨hc8, hs⟩
  ·skip
   refine c_condT (congrArg Value.bool hc8) ?_
   refine wp_skip ?_
   refine c_seq ?_
   refine wp_block ?_
   refine c_region ?_
   refine pl_val (.int .i64 s2.2) (y_move rfl) ?_
   refine pl_val (.int .i64 n) (y_move rfl) ?_
   refine pl_val (.int .i64 (w64 (s2.2 * n))) (y_mul rfl rfl) ?_
   refine pl_val (.int .i64 (w64 (s2.2 * n))) (y_assign rfl) ?_
   refine c_nil ?_
   refine c_region ?_
   refine pl_val (.int .i64 s2.1) (y_move rfl) ?_
   refine pl_val (.int .i64 (w64 (s2.1 - 1))) (y_sub rfl rfl) ?_
   refine pl_val (.int .i64 (w64 (s2.1 - 1))) (y_assign rfl) ?_
   refine c_nil ?_
   cases hs
   exact ⟨_, fr_ovl 14 ⟨rfl, rfl, rfl, trivial⟩, hC, hO⟩
  ·skip
   refine c_condF (congrArg Value.bool hc8) ?_
   refine wp_exit ?_
   cases hs
   exact ⟨rfl, _, fr_ovl 14 ⟨rfl, trivial⟩, hC, hO⟩
 ·skip
  exact ⟨_, fr_ovl 14 ⟨rfl, rfl, rfl, trivial⟩, hC, hO⟩
 ·cases o6 with
  | nx _ => exact True.intro
  | rt r_ =>
   have hs := after_rt hs
   intro a1 w1 hK
   cases hs
   exact hK
  | br s2 =>
   have hs := after_br hs
   rintro a1 w3 ⟨σ, rfl, hC, hO⟩
   refine c_seq (c_region ?_)
   refine pl_val (.int .i64 s2.2) (y_move rfl) ?_
   refine pl_val (.int .i64 s2.2) (y_assign rfl) ?_
   refine c_nil ?_
   refine wp_ret ?_
   cases hs
   exact ⟨_, fr_ovl 14 ⟨rfl, trivial⟩, hC⟩

theorem Mx : Try.prog.follows .mixedOrders = true := by kernel_rfl

theorem Bd93 : Bodied Try.prog 93 := bodied Try.func93 (by kernel_rfl) rfl

theorem Bd120 : Bodied Try.prog 120 := bodied Try.func120 (by kernel_rfl) rfl

def k_spec_l2Op (M : Nat → Prop) (w0 : World) (r : Bool) (a : Act) (w : World) : Prop :=
  ∃ (σ : Nat → Value) , a = fr 36 (ovl σ [(4, (.bool r))]) ∧ Chg [] w0 w
def s_spec_l2Op (n : Int) (op : Int × (List Int)) : Option (Bool) :=
  ((s_spec_l1In op.1 0 3).bind fun r8 =>
  (bif (!r8) then some true else (s_spec_l2Pow n op.1).bind fun r11 =>
  some ((op.2.length : Int) != r11))).bind fun s3 =>
  (bif s3 then some false else (forC (S := Unit) (R := Bool) (fun k24 s22 =>
  (idx op.2 k24).bind fun x28 =>
  (s_spec_l1In x28 0 (w64 (n - 1))).bind fun r31 =>
  (bif (!r31) then some (.rt false) else some (.nx ()))) 0 (op.2.length : Int) ()).bind fun o26 => after o26 (fun r_ => some r_) (fun s22 =>
  some true))
set_option maxHeartbeats 4000000 in
theorem c_spec_l2Op {M : Nat → Prop} {w : World} {pa0 : Option Addr} {pn0 pc0 : Nat} (n : Int) (op : Int × (List Int)) (h0 : (RT.rs (RT.int .i64)).val M w (.slice pa0 pn0 pc0) op.2 ([])) (hM : ∀ g, w.heap.size ≤ g → M g) {r : Bool} (hs : s_spec_l2Op n op = some r) :
    Gives Try.prog 106 [(.int .i64 n), (.agg #[(.int .i64 op.1), (.slice pa0 pn0 pc0)])] w (fun v w' => v = (.bool r) ∧ Chg [] w w') := by
 refine calls_fr Try.func106 rfl Try.ntmps106 (Nat.le_of_ble_eq_true rfl) ?_
 have hO := Own.start (N := Nw w []) hM Nw.fut
 have hC := Chg.refl [] w
 unfold s_spec_l2Op at hs
 refine wp_mono (Q := KPost (k_spec_l2Op M w r)) ?_ (fun e a w1 h => ?_)
 rotate_left
 ·cases e
  case ret =>
   obtain ⟨σ, rfl, hrest⟩ := h
   exact ret1x Try.results106 (res_tmp rfl) ⟨rfl, hrest⟩
  all_goals exact (h : False).elim
 refine c_seq (c_region ?_)
 obtain ⟨w2, g2, ew2, eg2, hC2, hb2⟩ := new_block w [(.int .i64 op.1), (.slice pa0 pn0 pc0)] 81
 refine pl_val (w' := w2) (.pointer (some ⟨g2, 0, none⟩)) (y_box rfl (by rw [ew2, eg2]; kernel_rfl)) ?_
 have h0 := h0.ext hC2
 have hC := hC.ext hC2
 have hO := hO.new1 hC2 eg2 hb2.lt
 refine pl_val (.bool false) (y_assign rfl) ?_
 refine c_nil ?_
 refine c_seq ?_
 refine c_seq ?_
 obtain ⟨s3, hm5, hs⟩ := bind_some hs
 refine c_mid (I := fun a w4 => ∃ (σ : Nat → Value), a = fr 36 (ovl σ [(0, (.int .i64 n)), (3, (.pointer (some ⟨g2, 0, none⟩))), (4, (.bool false)), (19, (.bool s3))]) ∧ Chg [] w2 w4) ?_ ?_
 ·replace hs := hm5
  have hMid := Chg.refl [] w2
  refine x_start [] Mx rfl ?_
  have hCw6 := Chg.drew w2
  generalize World.drew w2 = w6 at hCw6 ⊢
  have h0 := h0.ext hCw6
  have hb2 := hb2.chg hCw6 (fun h => nomatch h)
  have hMid := hMid.ext hCw6
  have hC := hC.ext hCw6
  have hO := hO.ext hCw6
  have hS := Chg.refl [] w6
  refine x_p 0 (.pointer (some ⟨g2, 0, none⟩)) rfl (by kernel_rfl)  (fun _ => y_faddr rfl Fa81x0) (fun _ => hS) ?_
  refine x_l 1 (.int .i64 op.1) rfl (by kernel_rfl)  (fun w' hw' => y_load rfl ((box_load Ag3 Sz3 hb2 [] [(.int .i64 op.1)] [(.slice pa0 pn0 pc0)] rfl rfl (fun _ => rfl)) w' hw')) hS ?_
  refine x_one (i := 2) (by kernel_rfl) ?_
  obtain ⟨r8, hr8, hs⟩ := bind_some hs
  refine xk_call (b := false) rfl  Bd93 rfl (c_spec_l1In (M := M) op.1 0 3  hO.fut hr8) rfl (by rintro _ _ _ ⟨rfl, hC7⟩; exact hS.ext hC7) ?_
  rintro _ w7 ⟨rfl, hC7⟩
  have h0 := h0.ext hC7
  have hb2 := hb2.chg hC7 (fun h => nomatch h)
  have hMid := hMid.ext hC7
  have hC := hC.ext hC7
  have hO := hO.ext hC7
  have hS := hS.ext hC7
  refine x_p 3 (.bool (!r8)) rfl (by kernel_rfl)  (fun _ => y_not rfl) (fun _ => hS) ?_
  refine x_p 4 (.bool (!r8)) rfl (by kernel_rfl)  (fun _ => y_move rfl) (fun _ => hS) ?_
  rcases bif_some hs with ⟨hc9, hs⟩ | ⟨hc9, hs⟩
  ·skip
   refine x_pn 5 rfl (by kernel_rfl) (tg := 10) (by kernel_rfl) (congrArg Value.bool hc9) (fun _ => hS) ?_
   refine x_pn 6 rfl (by kernel_rfl) (tg := 10) (by kernel_rfl) (congrArg Value.bool hc9) (fun _ => hS) ?_
   refine x_pn 7 rfl (by kernel_rfl) (tg := 10) (by kernel_rfl) (congrArg Value.bool hc9) (fun _ => hS) ?_
   refine x_pn 8 rfl (by kernel_rfl) (tg := 10) (by kernel_rfl) (congrArg Value.bool hc9) (fun _ => hS) ?_
   refine x_pn 9 rfl (by kernel_rfl) (tg := 10) (by kernel_rfl) (congrArg Value.bool hc9) (fun _ => hS) ?_
   refine x_pn 10 rfl (by kernel_rfl) (tg := 10) (by kernel_rfl) (congrArg Value.bool hc9) (fun _ => hS) ?_
   refine x_pn 11 rfl (by kernel_rfl) (tg := 10) (by kernel_rfl) (congrArg Value.bool hc9) (fun _ => hS) ?_
   refine x_pn 12 rfl (by kernel_rfl) (tg := 10) (by kernel_rfl) (congrArg Value.bool hc9) (fun _ => hS) ?_
   refine x_p 13 (.bool true) rfl (by kernel_rfl)  (fun _ => y_pick_t (congrArg Value.bool hc9) rfl) (fun _ => hS) ?_
   refine x_end (by kernel_rfl) ?_
   clear hS
   cases hs
   exact ⟨_, fr_ovl 36 ⟨rfl, rfl, rfl, rfl, trivial⟩, hMid⟩
  ·skip
   refine x_py 5 (.pointer (some ⟨g2, 1, none⟩)) rfl (by kernel_rfl) (tg := 10) (by kernel_rfl) (congrArg Value.bool hc9) (fun _ => y_faddr rfl Fa81x1) (fun _ => hS) ?_
   refine x_py 8 (.int .i64 n) rfl (by kernel_rfl) (tg := 10) (by kernel_rfl) (congrArg Value.bool hc9) (fun _ => y_move rfl) (fun _ => hS) ?_
   refine x_py 9 (.pointer (some ⟨g2, 0, none⟩)) rfl (by kernel_rfl) (tg := 10) (by kernel_rfl) (congrArg Value.bool hc9) (fun _ => y_faddr rfl Fa81x0) (fun _ => hS) ?_
   refine x_two (i := 6) (j := 10) (by kernel_rfl) ?_ ?_
   ·skip
    refine xk_valy (b := false) (.slice pa0 pn0 pc0) rfl (tg := 10) (by kernel_rfl) (congrArg Value.bool hc9) (y_load rfl ((box_load Ag22 Sz22 hb2 [(.int .i64 op.1)] [(.slice pa0 pn0 pc0)] [] rfl rfl (fun _ => rfl)) _ (Chg.refl _ _))) rfl (fun _ => hS) ?_
    refine x_py 7 (.int .i64 (op.2.length : Int)) rfl (by kernel_rfl) (tg := 10) (by kernel_rfl) (congrArg Value.bool hc9) (fun _ => y_len' Sl22 (rs_len h0) rfl) (fun _ => hS) ?_
    refine x_one (i := 10) (by kernel_rfl) ?_
    refine xk_valy (b := false) (.int .i64 op.1) rfl (tg := 10) (by kernel_rfl) (congrArg Value.bool hc9) (y_load rfl ((box_load Ag3 Sz3 hb2 [] [(.int .i64 op.1)] [(.slice pa0 pn0 pc0)] rfl rfl (fun _ => rfl)) _ (Chg.refl _ _))) rfl (fun _ => hS) ?_
    refine x_one (i := 11) (by kernel_rfl) ?_
    obtain ⟨r11, hr11, hs⟩ := bind_some hs
    refine xk_cally (b := false) rfl (tg := 10) (by kernel_rfl) (congrArg Value.bool hc9) Bd120 rfl (c_spec_l2Pow (M := M) n op.1  hO.fut hr11) rfl (by rintro _ _ _ ⟨rfl, hC10⟩; exact hS.ext hC10) ?_
    rintro _ w10 ⟨rfl, hC10⟩
    have h0 := h0.ext hC10
    have hb2 := hb2.chg hC10 (fun h => nomatch h)
    have hMid := hMid.ext hC10
    have hC := hC.ext hC10
    have hO := hO.ext hC10
    have hS := hS.ext hC10
    refine x_py 12 (.bool ((op.2.length : Int) != r11)) rfl (by kernel_rfl) (tg := 10) (by kernel_rfl) (congrArg Value.bool hc9) (fun _ => y_neq rfl rfl) (fun _ => hS) ?_
    refine x_p 13 (.bool ((op.2.length : Int) != r11)) rfl (by kernel_rfl)  (fun _ => y_pick_f (congrArg Value.bool hc9) rfl) (fun _ => hS) ?_
    refine x_end (by kernel_rfl) ?_
    clear hS
    cases hs
    exact ⟨_, fr_ovl 36 ⟨rfl, rfl, rfl, rfl, trivial⟩, hMid⟩
   ·skip
    refine xk_valy (b := false) (.int .i64 op.1) rfl (tg := 10) (by kernel_rfl) (congrArg Value.bool hc9) (y_load rfl ((box_load Ag3 Sz3 hb2 [] [(.int .i64 op.1)] [(.slice pa0 pn0 pc0)] rfl rfl (fun _ => rfl)) _ (Chg.refl _ _))) rfl (fun _ => hS) ?_
    refine x_two (i := 6) (j := 11) (by kernel_rfl) ?_ ?_
    ·skip
     refine xk_valy (b := false) (.slice pa0 pn0 pc0) rfl (tg := 10) (by kernel_rfl) (congrArg Value.bool hc9) (y_load rfl ((box_load Ag22 Sz22 hb2 [(.int .i64 op.1)] [(.slice pa0 pn0 pc0)] [] rfl rfl (fun _ => rfl)) _ (Chg.refl _ _))) rfl (fun _ => hS) ?_
     refine x_py 7 (.int .i64 (op.2.length : Int)) rfl (by kernel_rfl) (tg := 10) (by kernel_rfl) (congrArg Value.bool hc9) (fun _ => y_len' Sl22 (rs_len h0) rfl) (fun _ => hS) ?_
     refine x_one (i := 11) (by kernel_rfl) ?_
     obtain ⟨r11, hr11, hs⟩ := bind_some hs
     refine xk_cally (b := false) rfl (tg := 10) (by kernel_rfl) (congrArg Value.bool hc9) Bd120 rfl (c_spec_l2Pow (M := M) n op.1  hO.fut hr11) rfl (by rintro _ _ _ ⟨rfl, hC12⟩; exact hS.ext hC12) ?_
     rintro _ w12 ⟨rfl, hC12⟩
     have h0 := h0.ext hC12
     have hb2 := hb2.chg hC12 (fun h => nomatch h)
     have hMid := hMid.ext hC12
     have hC := hC.ext hC12
     have hO := hO.ext hC12
     have hS := hS.ext hC12
     refine x_py 12 (.bool ((op.2.length : Int) != r11)) rfl (by kernel_rfl) (tg := 10) (by kernel_rfl) (congrArg Value.bool hc9) (fun _ => y_neq rfl rfl) (fun _ => hS) ?_
     refine x_p 13 (.bool ((op.2.length : Int) != r11)) rfl (by kernel_rfl)  (fun _ => y_pick_f (congrArg Value.bool hc9) rfl) (fun _ => hS) ?_
     refine x_end (by kernel_rfl) ?_
     clear hS
     cases hs
     exact ⟨_, fr_ovl 36 ⟨rfl, rfl, rfl, rfl, trivial⟩, hMid⟩
    ·skip
     obtain ⟨r11, hr11, hs⟩ := bind_some hs
     refine xk_cally (b := false) rfl (tg := 10) (by kernel_rfl) (congrArg Value.bool hc9) Bd120 rfl (c_spec_l2Pow (M := M) n op.1  hO.fut hr11) rfl (by rintro _ _ _ ⟨rfl, hC14⟩; exact hS.ext hC14) ?_
     rintro _ w14 ⟨rfl, hC14⟩
     have h0 := h0.ext hC14
     have hb2 := hb2.chg hC14 (fun h => nomatch h)
     have hMid := hMid.ext hC14
     have hC := hC.ext hC14
     have hO := hO.ext hC14
     have hS := hS.ext hC14
     refine x_one (i := 6) (by kernel_rfl) ?_
     refine xk_valy (b := false) (.slice pa0 pn0 pc0) rfl (tg := 10) (by kernel_rfl) (congrArg Value.bool hc9) (y_load rfl ((box_load Ag22 Sz22 hb2 [(.int .i64 op.1)] [(.slice pa0 pn0 pc0)] [] rfl rfl (fun _ => rfl)) _ (Chg.refl _ _))) rfl (fun _ => hS) ?_
     refine x_py 7 (.int .i64 (op.2.length : Int)) rfl (by kernel_rfl) (tg := 10) (by kernel_rfl) (congrArg Value.bool hc9) (fun _ => y_len' Sl22 (rs_len h0) rfl) (fun _ => hS) ?_
     refine x_py 12 (.bool ((op.2.length : Int) != r11)) rfl (by kernel_rfl) (tg := 10) (by kernel_rfl) (congrArg Value.bool hc9) (fun _ => y_neq rfl rfl) (fun _ => hS) ?_
     refine x_p 13 (.bool ((op.2.length : Int) != r11)) rfl (by kernel_rfl)  (fun _ => y_pick_f (congrArg Value.bool hc9) rfl) (fun _ => hS) ?_
     refine x_end (by kernel_rfl) ?_
     clear hS
     cases hs
     exact ⟨_, fr_ovl 36 ⟨rfl, rfl, rfl, rfl, trivial⟩, hMid⟩
 ·rintro a1 w4 ⟨σ, rfl, hCs3⟩
  have h0 := h0.ext hCs3
  have hb2 := hb2.chg hCs3 (fun h => nomatch h)
  have hC := hC.ext hCs3
  have hO := hO.ext hCs3
  rcases bif_some hs with ⟨hc16, hs⟩ | ⟨hc16, hs⟩
  ·skip
   refine c_condT (congrArg Value.bool hc16) ?_
   refine c_seq (c_region ?_)
   refine pl_val (.bool false) (y_assign rfl) ?_
   refine c_nil ?_
   refine wp_ret ?_
   cases hs
   exact ⟨_, fr_ovl 36 ⟨rfl, trivial⟩, hC⟩
  ·skip
   refine c_condF (congrArg Value.bool hc16) ?_
   refine wp_skip ?_
   refine c_seq ?_
   refine c_seq (c_region ?_)
   refine pl_val (.int .i64 0) (y_assign rfl) ?_
   refine c_nil ?_
   obtain ⟨o26, hl27, hs⟩ := bind_some hs
   refine wp_block ?_
   refine wp_forC (id := 0) (op.2.length : Int) (I := fun k24 s22 a w23 => ∃ (σ : Nat → Value), a = fr 36 (ovl σ [(0, (.int .i64 n)), (3, (.pointer (some ⟨g2, 0, none⟩))), (5, (.int .i64 k24))]) ∧ Chg [] w w23 ∧ Own (Nw w []) M w23 (([g2]) ++ []) ∧ (RT.rs (RT.int .i64)).val M w23 (.slice pa0 pn0 pc0) op.2 ([]) ∧ BoxV w23 g2 81 [(.int .i64 op.1), (.slice pa0 pn0 pc0)]) (J := fun s22 a w23 => ∃ (σ : Nat → Value), a = fr 36 (ovl σ []) ∧ Chg [] w w23 ∧ Own (Nw w []) M w23 (([g2]) ++ []) ∧ (RT.rs (RT.int .i64)).val M w23 (.slice pa0 pn0 pc0) op.2 ([]) ∧ BoxV w23 g2 81 [(.int .i64 op.1), (.slice pa0 pn0 pc0)]) (K := (k_spec_l2Op M w)) ?_ ?_ 0 () o26 _ _ ?_ hl27 ?_
   ·rintro k24 s22 a w23 ⟨σ, rfl, hC, hO, h0, hb2⟩ hlt
    refine c_seq ?_
    refine c_seq (c_region ?_)
    refine pl_val (.int .i64 k24) (y_move rfl) ?_
    refine pl_val (.pointer (some ⟨g2, 1, none⟩)) (y_faddr rfl Fa81x1) ?_
    refine pl_val (.slice pa0 pn0 pc0) (y_load rfl ((box_load Ag22 Sz22 hb2 [(.int .i64 op.1)] [(.slice pa0 pn0 pc0)] [] rfl rfl (fun _ => rfl)) _ (Chg.refl _ _))) ?_
    refine pl_val (.int .i64 (op.2.length : Int)) (y_len' Sl22 (rs_len h0) rfl) ?_
    refine pl_val (.bool (decide (k24 < (op.2.length : Int)))) (y_lss rfl rfl) ?_
    refine c_nil ?_
    refine c_condF (congrArg Value.bool (decide_eq_false hlt)) ?_
    refine wp_exit ?_
    exact ⟨rfl, _, fr_ovl 36 trivial, hC, hO, h0, hb2⟩
   ·rintro k24 s22 o26 a w23 ⟨σ, rfl, hC, hO, h0, hb2⟩ hlt hw hs
    refine c_seq ?_
    refine c_seq (c_region ?_)
    refine pl_val (.int .i64 k24) (y_move rfl) ?_
    refine pl_val (.pointer (some ⟨g2, 1, none⟩)) (y_faddr rfl Fa81x1) ?_
    refine pl_val (.slice pa0 pn0 pc0) (y_load rfl ((box_load Ag22 Sz22 hb2 [(.int .i64 op.1)] [(.slice pa0 pn0 pc0)] [] rfl rfl (fun _ => rfl)) _ (Chg.refl _ _))) ?_
    refine pl_val (.int .i64 (op.2.length : Int)) (y_len' Sl22 (rs_len h0) rfl) ?_
    refine pl_val (.bool (decide (k24 < (op.2.length : Int)))) (y_lss rfl rfl) ?_
    refine c_nil ?_
    refine c_condT (congrArg Value.bool (decide_eq_true hlt)) ?_
    refine wp_skip ?_
    refine c_seq ?_
    refine wp_block ?_
    refine c_seq (c_region ?_)
    refine pl_val (.pointer (some ⟨g2, 1, none⟩)) (y_faddr rfl Fa81x1) ?_
    refine pl_val (.slice pa0 pn0 pc0) (y_load rfl ((box_load Ag22 Sz22 hb2 [(.int .i64 op.1)] [(.slice pa0 pn0 pc0)] [] rfl rfl (fun _ => rfl)) _ (Chg.refl _ _))) ?_
    refine pl_val (.int .i64 k24) (y_move rfl) ?_
    obtain ⟨x28, hx28, hs⟩ := bind_some hs
    obtain ⟨b29, o29, hp29, ha29⟩ := rs_idx Sl22 Sz3 h0 hx28
    refine pl_val (.pointer (some ⟨b29, o29, none⟩)) (hp29 _ _ _ _ _ _ _ _ _ rfl rfl) ?_
    refine pl_val (.int .i64 x28) (y_load rfl ((at_load_int Ag3 Sz3 ha29) _ (Chg.refl _ _))) ?_
    refine pl_val (.int .i64 n) (y_move rfl) ?_
    refine pl_val (.int .i64 (w64 (n - 1))) (y_sub rfl rfl) ?_
    obtain ⟨r31, hr31, hs⟩ := bind_some hs
    refine pl_call Bd93 rfl (c_spec_l1In (M := M) x28 0 (w64 (n - 1))  hO.fut hr31) ?_
    rintro _ w30 ⟨rfl, hC30⟩
    have h0 := h0.ext hC30
    have hb2 := hb2.chg hC30 (fun h => nomatch h)
    have hC := hC.ext hC30
    have hO := hO.ext hC30
    refine pl_val (.bool (!r31)) (y_not rfl) ?_
    refine c_nil ?_
    rcases bif_some hs with ⟨hc32, hs⟩ | ⟨hc32, hs⟩
    ·skip
     refine c_condT (congrArg Value.bool hc32) ?_
     refine c_seq (c_region ?_)
     refine pl_val (.bool false) (y_assign rfl) ?_
     refine c_nil ?_
     refine wp_ret ?_
     cases hs
     exact ⟨_, fr_ovl 36 ⟨rfl, trivial⟩, hC⟩
    ·skip
     refine c_condF (congrArg Value.bool hc32) ?_
     refine wp_skip ?_
     refine c_region ?_
     refine pl_val (.int .i64 k24) (y_move rfl) ?_
     refine pl_val (.int .i64 (w64 (k24 + 1))) (y_add rfl rfl) ?_
     refine pl_val (.int .i64 (w64 (k24 + 1))) (y_assign rfl) ?_
     refine c_nil ?_
     cases hs
     exact ⟨_, fr_ovl 36 ⟨rfl, rfl, congrArg (Value.int .i64) hw, trivial⟩, hC, hO, h0, hb2⟩
   ·skip
    exact ⟨_, fr_ovl 36 ⟨rfl, rfl, rfl, trivial⟩, hC, hO, h0, hb2⟩
   ·cases o26 with
    | nx _ => exact True.intro
    | rt r_ =>
     have hs := after_rt hs
     intro a1 w1 hK
     cases hs
     exact hK
    | br s22 =>
     have hs := after_br hs
     rintro a1 w23 ⟨σ, rfl, hC, hO, h0, hb2⟩
     refine c_seq (c_region ?_)
     refine pl_val (.bool true) (y_assign rfl) ?_
     refine c_nil ?_
     refine wp_ret ?_
     cases hs
     exact ⟨_, fr_ovl 36 ⟨rfl, trivial⟩, hC⟩

theorem Ag33 : AggT Try.prog 33 false := fun _ => by kernel_rfl

theorem Bd106 : Bodied Try.prog 106 := bodied Try.func106 (by kernel_rfl) rfl

def k_spec_l2Good (M : Nat → Prop) (w0 : World) (r : Bool) (a : Act) (w : World) : Prop :=
  ∃ (σ : Nat → Value) , a = fr 30 (ovl σ [(2, (.bool r))]) ∧ Chg [] w0 w
def s_spec_l2Good (a_ : Int × (List (Int × (List Int)))) : Option (Bool) :=
  ((s_spec_l1In a_.1 1 8).bind fun r7 =>
  (bif (!r7) then some true else some (decide (4 < (a_.2.length : Int))))).bind fun s3 =>
  (bif s3 then some false else (forC (S := Unit) (R := Bool) (fun k20 s18 =>
  (idx a_.2 k20).bind fun x25 =>
  (s_spec_l2Op a_.1 (x25.1, x25.2)).bind fun r30 =>
  (bif (!r30) then some (.rt false) else some (.nx ()))) 0 (a_.2.length : Int) ()).bind fun o22 => after o22 (fun r_ => some r_) (fun s18 =>
  some true))
set_option maxHeartbeats 4000000 in
theorem c_spec_l2Good {M : Nat → Prop} {w : World} {pa0 : Option Addr} {pn0 pc0 : Nat} (a_ : Int × (List (Int × (List Int)))) (h0 : (RT.rs (RT.pr (RT.int .i64) (RT.rs (RT.int .i64)))).val M w (.slice pa0 pn0 pc0) a_.2 ([])) (hM : ∀ g, w.heap.size ≤ g → M g) {r : Bool} (hs : s_spec_l2Good a_ = some r) :
    Gives Try.prog 81 [(.agg #[(.int .i64 a_.1), (.slice pa0 pn0 pc0)])] w (fun v w' => v = (.bool r) ∧ Chg [] w w') := by
 refine calls_fr Try.func81 rfl Try.ntmps81 (Nat.le_of_ble_eq_true rfl) ?_
 have hO := Own.start (N := Nw w []) hM Nw.fut
 have hC := Chg.refl [] w
 unfold s_spec_l2Good at hs
 refine wp_mono (Q := KPost (k_spec_l2Good M w r)) ?_ (fun e a w1 h => ?_)
 rotate_left
 ·cases e
  case ret =>
   obtain ⟨σ, rfl, hrest⟩ := h
   exact ret1x Try.results81 (res_tmp rfl) ⟨rfl, hrest⟩
  all_goals exact (h : False).elim
 refine c_seq (c_region ?_)
 obtain ⟨w2, g2, ew2, eg2, hC2, hb2⟩ := new_block w [(.int .i64 a_.1), (.slice pa0 pn0 pc0)] 35
 refine pl_val (w' := w2) (.pointer (some ⟨g2, 0, none⟩)) (y_box rfl (by rw [ew2, eg2]; kernel_rfl)) ?_
 have h0 := h0.ext hC2
 have hC := hC.ext hC2
 have hO := hO.new1 hC2 eg2 hb2.lt
 refine pl_val (.bool false) (y_assign rfl) ?_
 refine c_nil ?_
 refine c_seq ?_
 refine c_seq ?_
 obtain ⟨s3, hm5, hs⟩ := bind_some hs
 refine c_mid (I := fun a w4 => ∃ (σ : Nat → Value), a = fr 30 (ovl σ [(1, (.pointer (some ⟨g2, 0, none⟩))), (2, (.bool false)), (13, (.bool s3))]) ∧ Chg [] w2 w4) ?_ ?_
 ·replace hs := hm5
  have hMid := Chg.refl [] w2
  refine c_region ?_
  refine pl_val (.pointer (some ⟨g2, 0, none⟩)) (y_faddr rfl Fa35x0) ?_
  refine pl_val (.int .i64 a_.1) (y_load rfl ((box_load Ag3 Sz3 hb2 [] [(.int .i64 a_.1)] [(.slice pa0 pn0 pc0)] rfl rfl (fun _ => rfl)) _ (Chg.refl _ _))) ?_
  obtain ⟨r7, hr7, hs⟩ := bind_some hs
  refine pl_call Bd93 rfl (c_spec_l1In (M := M) a_.1 1 8  hO.fut hr7) ?_
  rintro _ w6 ⟨rfl, hC6⟩
  have h0 := h0.ext hC6
  have hb2 := hb2.chg hC6 (fun h => nomatch h)
  have hMid := hMid.ext hC6
  have hC := hC.ext hC6
  have hO := hO.ext hC6
  refine pl_val (.bool (!r7)) (y_not rfl) ?_
  refine pl_val (.bool (!r7)) (y_move rfl) ?_
  rcases bif_some hs with ⟨hc8, hs⟩ | ⟨hc8, hs⟩
  ·skip
   refine pl_not (tg := 8) (by kernel_rfl) (congrArg Value.bool hc8) ?_
   refine pl_not (tg := 8) (by kernel_rfl) (congrArg Value.bool hc8) ?_
   refine pl_not (tg := 8) (by kernel_rfl) (congrArg Value.bool hc8) ?_
   refine pl_not (tg := 8) (by kernel_rfl) (congrArg Value.bool hc8) ?_
   refine pl_val (.bool true) (y_pick_t (congrArg Value.bool hc8) rfl) ?_
   refine c_nil ?_
   cases hs
   exact ⟨_, fr_ovl 30 ⟨rfl, rfl, rfl, trivial⟩, hMid⟩
  ·skip
   refine pl_yes (.pointer (some ⟨g2, 1, none⟩)) (tg := 8) (by kernel_rfl) (congrArg Value.bool hc8) (y_faddr rfl Fa35x1) ?_
   refine pl_yes (.slice pa0 pn0 pc0) (tg := 8) (by kernel_rfl) (congrArg Value.bool hc8) (y_load rfl ((box_load Ag33 Sz33 hb2 [(.int .i64 a_.1)] [(.slice pa0 pn0 pc0)] [] rfl rfl (fun _ => rfl)) _ (Chg.refl _ _))) ?_
   refine pl_yes (.int .i64 (a_.2.length : Int)) (tg := 8) (by kernel_rfl) (congrArg Value.bool hc8) (y_len' Sl33 (rs_len h0) rfl) ?_
   refine pl_yes (.bool (decide (4 < (a_.2.length : Int)))) (tg := 8) (by kernel_rfl) (congrArg Value.bool hc8) (y_gtr rfl rfl) ?_
   refine pl_val (.bool (decide (4 < (a_.2.length : Int)))) (y_pick_f (congrArg Value.bool hc8) rfl) ?_
   refine c_nil ?_
   cases hs
   exact ⟨_, fr_ovl 30 ⟨rfl, rfl, rfl, trivial⟩, hMid⟩
 ·rintro a1 w4 ⟨σ, rfl, hCs3⟩
  have h0 := h0.ext hCs3
  have hb2 := hb2.chg hCs3 (fun h => nomatch h)
  have hC := hC.ext hCs3
  have hO := hO.ext hCs3
  rcases bif_some hs with ⟨hc9, hs⟩ | ⟨hc9, hs⟩
  ·skip
   refine c_condT (congrArg Value.bool hc9) ?_
   refine c_seq (c_region ?_)
   refine pl_val (.bool false) (y_assign rfl) ?_
   refine c_nil ?_
   refine wp_ret ?_
   cases hs
   exact ⟨_, fr_ovl 30 ⟨rfl, trivial⟩, hC⟩
  ·skip
   refine c_condF (congrArg Value.bool hc9) ?_
   refine wp_skip ?_
   refine c_seq ?_
   refine c_seq (c_region ?_)
   refine pl_val (.int .i64 0) (y_assign rfl) ?_
   refine c_nil ?_
   obtain ⟨o22, hl23, hs⟩ := bind_some hs
   refine wp_block ?_
   refine wp_forC (id := 0) (a_.2.length : Int) (I := fun k20 s18 a w19 => ∃ (σ : Nat → Value), a = fr 30 (ovl σ [(1, (.pointer (some ⟨g2, 0, none⟩))), (3, (.int .i64 k20))]) ∧ Chg [] w w19 ∧ Own (Nw w []) M w19 (([g2]) ++ []) ∧ (RT.rs (RT.pr (RT.int .i64) (RT.rs (RT.int .i64)))).val M w19 (.slice pa0 pn0 pc0) a_.2 ([]) ∧ BoxV w19 g2 35 [(.int .i64 a_.1), (.slice pa0 pn0 pc0)]) (J := fun s18 a w19 => ∃ (σ : Nat → Value), a = fr 30 (ovl σ []) ∧ Chg [] w w19 ∧ Own (Nw w []) M w19 (([g2]) ++ []) ∧ (RT.rs (RT.pr (RT.int .i64) (RT.rs (RT.int .i64)))).val M w19 (.slice pa0 pn0 pc0) a_.2 ([]) ∧ BoxV w19 g2 35 [(.int .i64 a_.1), (.slice pa0 pn0 pc0)]) (K := (k_spec_l2Good M w)) ?_ ?_ 0 () o22 _ _ ?_ hl23 ?_
   ·rintro k20 s18 a w19 ⟨σ, rfl, hC, hO, h0, hb2⟩ hlt
    refine c_seq ?_
    refine c_seq (c_region ?_)
    refine pl_val (.int .i64 k20) (y_move rfl) ?_
    refine pl_val (.pointer (some ⟨g2, 1, none⟩)) (y_faddr rfl Fa35x1) ?_
    refine pl_val (.slice pa0 pn0 pc0) (y_load rfl ((box_load Ag33 Sz33 hb2 [(.int .i64 a_.1)] [(.slice pa0 pn0 pc0)] [] rfl rfl (fun _ => rfl)) _ (Chg.refl _ _))) ?_
    refine pl_val (.int .i64 (a_.2.length : Int)) (y_len' Sl33 (rs_len h0) rfl) ?_
    refine pl_val (.bool (decide (k20 < (a_.2.length : Int)))) (y_lss rfl rfl) ?_
    refine c_nil ?_
    refine c_condF (congrArg Value.bool (decide_eq_false hlt)) ?_
    refine wp_exit ?_
    exact ⟨rfl, _, fr_ovl 30 trivial, hC, hO, h0, hb2⟩
   ·rintro k20 s18 o22 a w19 ⟨σ, rfl, hC, hO, h0, hb2⟩ hlt hw hs
    refine c_seq ?_
    refine c_seq (c_region ?_)
    refine pl_val (.int .i64 k20) (y_move rfl) ?_
    refine pl_val (.pointer (some ⟨g2, 1, none⟩)) (y_faddr rfl Fa35x1) ?_
    refine pl_val (.slice pa0 pn0 pc0) (y_load rfl ((box_load Ag33 Sz33 hb2 [(.int .i64 a_.1)] [(.slice pa0 pn0 pc0)] [] rfl rfl (fun _ => rfl)) _ (Chg.refl _ _))) ?_
    refine pl_val (.int .i64 (a_.2.length : Int)) (y_len' Sl33 (rs_len h0) rfl) ?_
    refine pl_val (.bool (decide (k20 < (a_.2.length : Int)))) (y_lss rfl rfl) ?_
    refine c_nil ?_
    refine c_condT (congrArg Value.bool (decide_eq_true hlt)) ?_
    refine wp_skip ?_
    refine c_seq ?_
    refine wp_block ?_
    refine c_seq ?_
    refine x_start [] Mx rfl ?_
    have hCw24 := Chg.drew w19
    generalize World.drew w19 = w24 at hCw24 ⊢
    have h0 := h0.ext hCw24
    have hb2 := hb2.chg hCw24 (fun h => nomatch h)
    have hC := hC.ext hCw24
    have hO := hO.ext hCw24
    have hS := Chg.refl [] w24
    refine x_p 0 (.pointer (some ⟨g2, 0, none⟩)) rfl (by kernel_rfl)  (fun _ => y_faddr rfl Fa35x0) (fun _ => hS) ?_
    refine x_l 1 (.int .i64 a_.1) rfl (by kernel_rfl)  (fun w' hw' => y_load rfl ((box_load Ag3 Sz3 hb2 [] [(.int .i64 a_.1)] [(.slice pa0 pn0 pc0)] rfl rfl (fun _ => rfl)) w' hw')) hS ?_
    refine x_p 2 (.pointer (some ⟨g2, 1, none⟩)) rfl (by kernel_rfl)  (fun _ => y_faddr rfl Fa35x1) (fun _ => hS) ?_
    refine x_l 3 (.slice pa0 pn0 pc0) rfl (by kernel_rfl)  (fun w' hw' => y_load rfl ((box_load Ag33 Sz33 hb2 [(.int .i64 a_.1)] [(.slice pa0 pn0 pc0)] [] rfl rfl (fun _ => rfl)) w' hw')) hS ?_
    refine x_p 4 (.int .i64 k20) rfl (by kernel_rfl)  (fun _ => y_move rfl) (fun _ => hS) ?_
    obtain ⟨x25, hx25, hs⟩ := bind_some hs
    obtain ⟨b26, o26, hp26, ha26⟩ := rs_idx Sl33 Sz81 h0 hx25
    refine x_p 5 (.pointer (some ⟨b26, o26, none⟩)) rfl (by kernel_rfl)  (fun _ => hp26 _ _ _ _ _ _ _ _ _ rfl rfl) (fun _ => hS) ?_
    obtain ⟨v27, hl27, hv27⟩ := at_load Ag81 Sz81 (by intro h; cases h) ha26
    obtain ⟨cs27, rfl, hr27⟩ := hv27
    obtain ⟨cc27x1, cd27x1, rfl, hh27x1, ht27x1⟩ := pr_open hr27
    obtain rfl := int_rel hh27x1
    obtain ⟨a27x2, n27x2, c27x2, rfl, hv27x2⟩ := rs_rel ht27x1
    refine x_l 6 (.agg #[(.int .i64 x25.1), (.slice a27x2 n27x2 c27x2)]) rfl (by kernel_rfl)  (fun w' hw' => y_load rfl (hl27 w' hw')) hS ?_
    refine x_one (i := 7) (by kernel_rfl) ?_
    obtain ⟨r30, hr30, hs⟩ := bind_some hs
    refine xk_call (b := false) rfl  Bd106 rfl (c_spec_l2Op (M := M) a_.1 (x25.1, x25.2) hv27x2 hO.fut hr30) rfl (by rintro _ _ _ ⟨rfl, hC29⟩; exact hS.ext hC29) ?_
    rintro _ w29 ⟨rfl, hC29⟩
    have h0 := h0.ext hC29
    have hb2 := hb2.chg hC29 (fun h => nomatch h)
    have hv27x2 := hv27x2.ext hC29
    have hC := hC.ext hC29
    have hO := hO.ext hC29
    have hS := hS.ext hC29
    refine x_p 8 (.bool (!r30)) rfl (by kernel_rfl)  (fun _ => y_not rfl) (fun _ => hS) ?_
    refine x_end (by kernel_rfl) ?_
    clear hS
    rcases bif_some hs with ⟨hc31, hs⟩ | ⟨hc31, hs⟩
    ·skip
     refine c_condT (congrArg Value.bool hc31) ?_
     refine c_seq (c_region ?_)
     refine pl_val (.bool false) (y_assign rfl) ?_
     refine c_nil ?_
     refine wp_ret ?_
     cases hs
     exact ⟨_, fr_ovl 30 ⟨rfl, trivial⟩, hC⟩
    ·skip
     refine c_condF (congrArg Value.bool hc31) ?_
     refine wp_skip ?_
     refine c_region ?_
     refine pl_val (.int .i64 k20) (y_move rfl) ?_
     refine pl_val (.int .i64 (w64 (k20 + 1))) (y_add rfl rfl) ?_
     refine pl_val (.int .i64 (w64 (k20 + 1))) (y_assign rfl) ?_
     refine c_nil ?_
     cases hs
     exact ⟨_, fr_ovl 30 ⟨rfl, congrArg (Value.int .i64) hw, trivial⟩, hC, hO, h0, hb2⟩
   ·skip
    exact ⟨_, fr_ovl 30 ⟨rfl, rfl, trivial⟩, hC, hO, h0, hb2⟩
   ·cases o22 with
    | nx _ => exact True.intro
    | rt r_ =>
     have hs := after_rt hs
     intro a1 w1 hK
     cases hs
     exact hK
    | br s18 =>
     have hs := after_br hs
     rintro a1 w19 ⟨σ, rfl, hC, hO, h0, hb2⟩
     refine c_seq (c_region ?_)
     refine pl_val (.bool true) (y_assign rfl) ?_
     refine c_nil ?_
     refine wp_ret ?_
     cases hs
     exact ⟨_, fr_ovl 30 ⟨rfl, trivial⟩, hC⟩

def k_spec_l6Identity (M : Nat → Prop) (w0 : World) (r : (List Int)) (a : Act) (w : World) : Prop :=
  ∃ (σ : Nat → Value) (ra0 : Option Addr) (rn0 rc0 : Nat) (rf0 : List Nat), a = fr 16 (ovl σ [(2, (.slice ra0 rn0 rc0))]) ∧ Chg [] w0 w ∧ (RT.os 3 (RT.int .i64)).val M w (.slice ra0 rn0 rc0) r rf0 ∧ Own (Nw w0 []) (fun _ => True) w (rf0 ++ ([]))
def s_spec_l6Identity (n : Int) : Option ((List Int)) :=
  (forC (S := (List Int)) (R := (List Int)) (fun k12 s10 =>
  (app s10 ([k12])).bind fun y23 =>
  some (.nx y23)) 0 n ([])).bind fun o14 => after o14 (fun r_ => some r_) (fun s10 =>
  some s10)
set_option maxHeartbeats 4000000 in
theorem c_spec_l6Identity {M : Nat → Prop} {w : World}  (n : Int)  (hM : ∀ g, w.heap.size ≤ g → M g) {r : (List Int)} (hs : s_spec_l6Identity n = some r) :
    Gives Try.prog 95 [(.int .i64 n)] w (fun v w' => ∃ (ra0 : Option Addr) (rn0 rc0 : Nat) (rf0 : List Nat), v = (.slice ra0 rn0 rc0) ∧ Chg [] w w' ∧ (RT.os 3 (RT.int .i64)).val M w' (.slice ra0 rn0 rc0) r rf0 ∧ Own (Nw w []) (fun _ => True) w' (rf0 ++ ([]))) := by
 refine calls_fr Try.func95 rfl Try.ntmps95 (Nat.le_of_ble_eq_true rfl) ?_
 have hO := Own.start (N := Nw w []) hM Nw.fut
 have hC := Chg.refl [] w
 unfold s_spec_l6Identity at hs
 refine wp_mono (Q := KPost (k_spec_l6Identity M w r)) ?_ (fun e a w1 h => ?_)
 rotate_left
 ·cases e
  case ret =>
   obtain ⟨σ, ra0, rn0, rc0, rf0, rfl, hrest⟩ := h
   exact ret1x Try.results95 (res_tmp rfl) ⟨ra0, rn0, rc0, rf0, rfl, hrest⟩
  all_goals exact (h : False).elim
 refine c_seq (c_region ?_)
 refine pl_val (.slice none 0 0) (y_assign rfl) ?_
 refine c_nil ?_
 refine c_seq (c_region ?_)
 obtain ⟨w1, g1, ew1, eg1, hC1, hb1⟩ := new_block w [] 3
 refine pl_val (w' := w1) (.slice (some ⟨g1, 0, none⟩) 0 0) (y_bslice rfl (by rw [ew1, eg1]; kernel_rfl)) ?_
 have hC := hC.ext hC1
 have hO := hO.new1 hC1 eg1 hb1.lt
 have hv1 := os_of_box (r := (RT.int .i64)) (M := M) (css := []) (fps := []) (xs := ([] : List Int)) hb1 trivial (Nat.zero_le _) (List.nodup_cons.2 ⟨(fun h => nomatch h), List.nodup_nil⟩)
 have hv1 : (RT.os 3 (RT.int .i64)).val M w1 (.slice (some ⟨g1, 0, none⟩) 0 0) [] [g1] := hv1
 refine pl_val (.slice (some ⟨g1, 0, none⟩) 0 0) (y_assign rfl) ?_
 refine c_nil ?_
 refine c_seq ?_
 refine c_seq (c_region ?_)
 refine pl_val (.int .i64 0) (y_assign rfl) ?_
 refine c_nil ?_
 obtain ⟨o14, hl15, hs⟩ := bind_some hs
 refine wp_block ?_
 refine wp_forC (id := 0) n (I := fun k12 s10 a w11 => ∃ (σ : Nat → Value) (a16 : Option Addr) (n16 : Nat) (c16 : Nat) (f16 : List Nat), a = fr 16 (ovl σ [(0, (.int .i64 n)), (3, (.slice a16 n16 c16)), (4, (.int .i64 k12))]) ∧ Chg [] w w11 ∧ Own (Nw w []) M w11 (f16 ++ []) ∧ (RT.os 3 (RT.int .i64)).val M w11 (.slice a16 n16 c16) s10 f16) (J := fun s10 a w11 => ∃ (σ : Nat → Value) (a18 : Option Addr) (n18 : Nat) (c18 : Nat) (f18 : List Nat), a = fr 16 (ovl σ [(3, (.slice a18 n18 c18))]) ∧ Chg [] w w11 ∧ Own (Nw w []) M w11 (f18 ++ []) ∧ (RT.os 3 (RT.int .i64)).val M w11 (.slice a18 n18 c18) s10 f18) (K := (k_spec_l6Identity M w)) ?_ ?_ 0 ([]) o14 _ _ ?_ hl15 ?_
 ·rintro k12 s10 a w11 ⟨σ, a16, n16, c16, f16, rfl, hC, hO, hv16⟩ hlt
  refine c_seq ?_
  refine c_seq (c_region ?_)
  refine pl_val (.int .i64 k12) (y_move rfl) ?_
  refine pl_val (.int .i64 n) (y_move rfl) ?_
  refine pl_val (.bool (decide (k12 < n))) (y_lss rfl rfl) ?_
  refine c_nil ?_
  refine c_condF (congrArg Value.bool (decide_eq_false hlt)) ?_
  refine wp_exit ?_
  exact ⟨rfl, _, a16, n16, c16, f16, fr_ovl 16 ⟨rfl, trivial⟩, hC, hO, hv16⟩
 ·rintro k12 s10 o14 a w11 ⟨σ, a16, n16, c16, f16, rfl, hC, hO, hv16⟩ hlt hw hs
  refine c_seq ?_
  refine c_seq (c_region ?_)
  refine pl_val (.int .i64 k12) (y_move rfl) ?_
  refine pl_val (.int .i64 n) (y_move rfl) ?_
  refine pl_val (.bool (decide (k12 < n))) (y_lss rfl rfl) ?_
  refine c_nil ?_
  refine c_condT (congrArg Value.bool (decide_eq_true hlt)) ?_
  refine wp_skip ?_
  refine c_seq ?_
  refine wp_block ?_
  refine c_region ?_
  refine pl_val (.slice a16 n16 c16) (y_move rfl) ?_
  refine pl_val (.int .i64 k12) (y_move rfl) ?_
  obtain ⟨w20, g20, ew20, eg20, hC20, hb20⟩ := new_block w11 [(.int .i64 k12)] 3
  refine pl_val (w' := w20) (.slice (some ⟨g20, 0, none⟩) 1 1) (y_bslice rfl (by rw [ew20, eg20]; kernel_rfl)) ?_
  have hv16 := hv16.ext hC20
  have hC := hC.ext hC20
  have hO := hO.new1 hC20 eg20 hb20.lt
  have hv20 := os_of_box (r := (RT.int .i64)) (M := M) (css := [[(.int .i64 k12)]]) (fps := [([] : List Nat)]) (xs := ([k12] : List Int)) hb20 ⟨⟨rfl, rfl⟩, trivial⟩ (Nat.le_of_ble_eq_true rfl) (List.nodup_cons.2 ⟨(fun h => nomatch h), List.nodup_nil⟩)
  have hv20 : (RT.os 3 (RT.int .i64)).val M w20 (.slice (some ⟨g20, 0, none⟩) 1 1) [k12] [g20] := hv20
  obtain ⟨y23, hy23, hs⟩ := bind_some hs
  have hO := hO.fr1
  obtain ⟨a22, n22, c22, w22, f22, hr22, hC22, hf22, hv22⟩ := app_os Rw22 hy23 hv16 hv20 hO.inM (fun g hg hq => hO.apart g hq (mem_l hg))
  have hG22 := os_block hv16
  refine pl_val (w' := w22) (.slice a22 n22 c22) (y_append rfl rfl (hr22 _)) ?_
  have hO := hO.fr1
  have hO := hO.fr1
  have hC := hC.step hC22 (fun g hg => hO.inN g (hG22 g hg))
  have hO := hO.eat hC22 hf22 (os_nodup hv22) hv22.fpl
  refine pl_val (.slice a22 n22 c22) (y_assign rfl) ?_
  refine c_nil ?_
  refine c_region ?_
  refine pl_val (.int .i64 k12) (y_move rfl) ?_
  refine pl_val (.int .i64 (w64 (k12 + 1))) (y_add rfl rfl) ?_
  refine pl_val (.int .i64 (w64 (k12 + 1))) (y_assign rfl) ?_
  refine c_nil ?_
  cases hs
  exact ⟨_, a22, n22, c22, f22, fr_ovl 16 ⟨rfl, rfl, congrArg (Value.int .i64) hw, trivial⟩, hC, hO, hv22⟩
 ·skip
  exact ⟨_, (some ⟨g1, 0, none⟩), 0, 0, ([g1]), fr_ovl 16 ⟨rfl, rfl, rfl, trivial⟩, hC, hO, hv1⟩
 ·cases o14 with
  | nx _ => exact True.intro
  | rt r_ =>
   have hs := after_rt hs
   intro a1 w1 hK
   cases hs
   exact hK
  | br s10 =>
   have hs := after_br hs
   rintro a1 w11 ⟨σ, a18, n18, c18, f18, rfl, hC, hO, hv18⟩
   refine c_seq (c_region ?_)
   refine pl_val (.slice a18 n18 c18) (y_move rfl) ?_
   refine pl_val (.slice a18 n18 c18) (y_assign rfl) ?_
   refine c_nil ?_
   refine wp_ret ?_
   cases hs
   exact ⟨_, a18, n18, c18, f18, fr_ovl 16 ⟨rfl, trivial⟩, hC, hv18, hO.top⟩

def k_spec_l1Least (M : Nat → Prop) (w0 : World) (r : Int) (a : Act) (w : World) : Prop :=
  ∃ (σ : Nat → Value) , a = fr 10 (ovl σ [(4, (.int .i64 r))]) ∧ Chg [] w0 w
def s_spec_l1Least (a_ : Int) (b : Int) : Option (Int) :=
  (bif (decide (a_ < b)) then some a_ else some b)
set_option maxHeartbeats 4000000 in
theorem c_spec_l1Least {M : Nat → Prop} {w : World}  (a_ : Int) (b : Int)  (hM : ∀ g, w.heap.size ≤ g → M g) {r : Int} (hs : s_spec_l1Least a_ b = some r) :
    Gives Try.prog 116 [(.int .i64 a_), (.int .i64 b)] w (fun v w' => v = (.int .i64 r) ∧ Chg [] w w') := by
 refine calls_fr Try.func116 rfl Try.ntmps116 (Nat.le_of_ble_eq_true rfl) ?_
 have hO := Own.start (N := Nw w []) hM Nw.fut
 have hC := Chg.refl [] w
 unfold s_spec_l1Least at hs
 refine wp_mono (Q := KPost (k_spec_l1Least M w r)) ?_ (fun e a w1 h => ?_)
 rotate_left
 ·cases e
  case ret =>
   obtain ⟨σ, rfl, hrest⟩ := h
   exact ret1x Try.results116 (res_tmp rfl) ⟨rfl, hrest⟩
  all_goals exact (h : False).elim
 refine c_seq (c_region ?_)
 refine pl_val (.int .i64 0) (y_assign rfl) ?_
 refine c_nil ?_
 refine c_seq ?_
 refine c_seq (c_region ?_)
 refine pl_val (.int .i64 a_) (y_move rfl) ?_
 refine pl_val (.int .i64 b) (y_move rfl) ?_
 refine pl_val (.bool (decide (a_ < b))) (y_lss rfl rfl) ?_
 refine c_nil ?_
 rcases bif_some hs with ⟨hc1, hs⟩ | ⟨hc1, hs⟩
 ·skip
  refine c_condT (congrArg Value.bool hc1) ?_
  refine c_seq (c_region ?_)
  refine pl_val (.int .i64 a_) (y_move rfl) ?_
  refine pl_val (.int .i64 a_) (y_assign rfl) ?_
  refine c_nil ?_
  refine wp_ret ?_
  cases hs
  exact ⟨_, fr_ovl 10 ⟨rfl, trivial⟩, hC⟩
 ·skip
  refine c_condF (congrArg Value.bool hc1) ?_
  refine wp_skip ?_
  refine c_seq (c_region ?_)
  refine pl_val (.int .i64 b) (y_move rfl) ?_
  refine pl_val (.int .i64 b) (y_assign rfl) ?_
  refine c_nil ?_
  refine wp_ret ?_
  cases hs
  exact ⟨_, fr_ovl 10 ⟨rfl, trivial⟩, hC⟩

def k_spec_l1Most (M : Nat → Prop) (w0 : World) (r : Int) (a : Act) (w : World) : Prop :=
  ∃ (σ : Nat → Value) , a = fr 10 (ovl σ [(4, (.int .i64 r))]) ∧ Chg [] w0 w
def s_spec_l1Most (a_ : Int) (b : Int) : Option (Int) :=
  (bif (decide (b < a_)) then some a_ else some b)
set_option maxHeartbeats 4000000 in
theorem c_spec_l1Most {M : Nat → Prop} {w : World}  (a_ : Int) (b : Int)  (hM : ∀ g, w.heap.size ≤ g → M g) {r : Int} (hs : s_spec_l1Most a_ b = some r) :
    Gives Try.prog 51 [(.int .i64 a_), (.int .i64 b)] w (fun v w' => v = (.int .i64 r) ∧ Chg [] w w') := by
 refine calls_fr Try.func51 rfl Try.ntmps51 (Nat.le_of_ble_eq_true rfl) ?_
 have hO := Own.start (N := Nw w []) hM Nw.fut
 have hC := Chg.refl [] w
 unfold s_spec_l1Most at hs
 refine wp_mono (Q := KPost (k_spec_l1Most M w r)) ?_ (fun e a w1 h => ?_)
 rotate_left
 ·cases e
  case ret =>
   obtain ⟨σ, rfl, hrest⟩ := h
   exact ret1x Try.results51 (res_tmp rfl) ⟨rfl, hrest⟩
  all_goals exact (h : False).elim
 refine c_seq (c_region ?_)
 refine pl_val (.int .i64 0) (y_assign rfl) ?_
 refine c_nil ?_
 refine c_seq ?_
 refine c_seq (c_region ?_)
 refine pl_val (.int .i64 a_) (y_move rfl) ?_
 refine pl_val (.int .i64 b) (y_move rfl) ?_
 refine pl_val (.bool (decide (b < a_))) (y_gtr rfl rfl) ?_
 refine c_nil ?_
 rcases bif_some hs with ⟨hc1, hs⟩ | ⟨hc1, hs⟩
 ·skip
  refine c_condT (congrArg Value.bool hc1) ?_
  refine c_seq (c_region ?_)
  refine pl_val (.int .i64 a_) (y_move rfl) ?_
  refine pl_val (.int .i64 a_) (y_assign rfl) ?_
  refine c_nil ?_
  refine wp_ret ?_
  cases hs
  exact ⟨_, fr_ovl 10 ⟨rfl, trivial⟩, hC⟩
 ·skip
  refine c_condF (congrArg Value.bool hc1) ?_
  refine wp_skip ?_
  refine c_seq (c_region ?_)
  refine pl_val (.int .i64 b) (y_move rfl) ?_
  refine pl_val (.int .i64 b) (y_assign rfl) ?_
  refine c_nil ?_
  refine wp_ret ?_
  cases hs
  exact ⟨_, fr_ovl 10 ⟨rfl, trivial⟩, hC⟩

theorem Bd116 : Bodied Try.prog 116 := bodied Try.func116 (by kernel_rfl) rfl

theorem Bd51 : Bodied Try.prog 51 := bodied Try.func51 (by kernel_rfl) rfl

def k_spec_l6Unite (M : Nat → Prop) (w0 : World) (r : (List Int)) (a : Act) (w : World) : Prop :=
  ∃ (σ : Nat → Value) (ra0 : Option Addr) (rn0 rc0 : Nat) (rf0 : List Nat), a = fr 54 (ovl σ [(6, (.slice ra0 rn0 rc0))]) ∧ Chg [] w0 w ∧ (RT.os 3 (RT.int .i64)).val M w (.slice ra0 rn0 rc0) r rf0 ∧ Own (Nw w0 []) (fun _ => True) w (rf0 ++ ([]))
def s_spec_l6Unite (p : List Int) (x_ : Int) (y : Int) : Option ((List Int)) :=
  (idx p x_).bind fun x16 =>
  (idx p y).bind fun x18 =>
  (idx p x_).bind fun x20 =>
  (idx p y).bind fun x22 =>
  (s_spec_l1Least x16 x18).bind fun r25 =>
  (s_spec_l1Most x20 x22).bind fun r27 =>
  (forC (S := (List Int)) (R := (List Int)) (fun k49 s47 =>
  (idx p k49).bind fun x57 =>
  (bif (x57 == r27) then (app s47 ([r25])).bind fun y63 =>
  some (.nx y63) else (idx p k49).bind fun x65 =>
  (app s47 ([x65])).bind fun y70 =>
  some (.nx y70))) 0 (p.length : Int) ([])).bind fun o51 => after o51 (fun r_ => some r_) (fun s47 =>
  some s47)
set_option maxHeartbeats 4000000 in
theorem c_spec_l6Unite {M : Nat → Prop} {w : World} {pa0 : Option Addr} {pn0 pc0 : Nat} (p : List Int) (x_ : Int) (y : Int) (h0 : (RT.rs (RT.int .i64)).val M w (.slice pa0 pn0 pc0) p ([])) (hM : ∀ g, w.heap.size ≤ g → M g) {r : (List Int)} (hs : s_spec_l6Unite p x_ y = some r) :
    Gives Try.prog 101 [(.slice pa0 pn0 pc0), (.int .i64 x_), (.int .i64 y)] w (fun v w' => ∃ (ra0 : Option Addr) (rn0 rc0 : Nat) (rf0 : List Nat), v = (.slice ra0 rn0 rc0) ∧ Chg [] w w' ∧ (RT.os 3 (RT.int .i64)).val M w' (.slice ra0 rn0 rc0) r rf0 ∧ Own (Nw w []) (fun _ => True) w' (rf0 ++ ([]))) := by
 refine calls_fr Try.func101 rfl Try.ntmps101 (Nat.le_of_ble_eq_true rfl) ?_
 have hO := Own.start (N := Nw w []) hM Nw.fut
 have hC := Chg.refl [] w
 unfold s_spec_l6Unite at hs
 refine wp_mono (Q := KPost (k_spec_l6Unite M w r)) ?_ (fun e a w1 h => ?_)
 rotate_left
 ·cases e
  case ret =>
   obtain ⟨σ, ra0, rn0, rc0, rf0, rfl, hrest⟩ := h
   exact ret1x Try.results101 (res_tmp rfl) ⟨ra0, rn0, rc0, rf0, rfl, hrest⟩
  all_goals exact (h : False).elim
 refine c_seq (c_region ?_)
 refine pl_val (.slice none 0 0) (y_assign rfl) ?_
 refine c_nil ?_
 refine c_seq ?_
 refine x_start [] Mx rfl ?_
 have hCw15 := Chg.drew w
 generalize World.drew w = w15 at hCw15 ⊢
 have h0 := h0.ext hCw15
 have hC := hC.ext hCw15
 have hO := hO.ext hCw15
 have hS := Chg.refl [] w15
 refine x_p 0 (.slice pa0 pn0 pc0) rfl (by kernel_rfl)  (fun _ => y_move rfl) (fun _ => hS) ?_
 refine x_p 1 (.int .i64 x_) rfl (by kernel_rfl)  (fun _ => y_move rfl) (fun _ => hS) ?_
 obtain ⟨x16, hx16, hs⟩ := bind_some hs
 obtain ⟨b17, o17, hp17, ha17⟩ := rs_idx Sl22 Sz3 h0 hx16
 refine x_p 2 (.pointer (some ⟨b17, o17, none⟩)) rfl (by kernel_rfl)  (fun _ => hp17 _ _ _ _ _ _ _ _ _ rfl rfl) (fun _ => hS) ?_
 refine x_l 3 (.int .i64 x16) rfl (by kernel_rfl)  (fun w' hw' => y_load rfl ((at_load_int Ag3 Sz3 ha17) w' hw')) hS ?_
 refine x_p 4 (.slice pa0 pn0 pc0) rfl (by kernel_rfl)  (fun _ => y_move rfl) (fun _ => hS) ?_
 refine x_p 5 (.int .i64 y) rfl (by kernel_rfl)  (fun _ => y_move rfl) (fun _ => hS) ?_
 obtain ⟨x18, hx18, hs⟩ := bind_some hs
 obtain ⟨b19, o19, hp19, ha19⟩ := rs_idx Sl22 Sz3 h0 hx18
 refine x_p 6 (.pointer (some ⟨b19, o19, none⟩)) rfl (by kernel_rfl)  (fun _ => hp19 _ _ _ _ _ _ _ _ _ rfl rfl) (fun _ => hS) ?_
 refine x_l 7 (.int .i64 x18) rfl (by kernel_rfl)  (fun w' hw' => y_load rfl ((at_load_int Ag3 Sz3 ha19) w' hw')) hS ?_
 refine x_p 9 (.slice pa0 pn0 pc0) rfl (by kernel_rfl)  (fun _ => y_move rfl) (fun _ => hS) ?_
 refine x_p 10 (.int .i64 x_) rfl (by kernel_rfl)  (fun _ => y_move rfl) (fun _ => hS) ?_
 obtain ⟨x20, hx20, hs⟩ := bind_some hs
 obtain ⟨b21, o21, hp21, ha21⟩ := rs_idx Sl22 Sz3 h0 hx20
 refine x_p 11 (.pointer (some ⟨b21, o21, none⟩)) rfl (by kernel_rfl)  (fun _ => hp21 _ _ _ _ _ _ _ _ _ rfl rfl) (fun _ => hS) ?_
 refine x_l 12 (.int .i64 x20) rfl (by kernel_rfl)  (fun w' hw' => y_load rfl ((at_load_int Ag3 Sz3 ha21) w' hw')) hS ?_
 refine x_p 13 (.slice pa0 pn0 pc0) rfl (by kernel_rfl)  (fun _ => y_move rfl) (fun _ => hS) ?_
 refine x_p 14 (.int .i64 y) rfl (by kernel_rfl)  (fun _ => y_move rfl) (fun _ => hS) ?_
 obtain ⟨x22, hx22, hs⟩ := bind_some hs
 obtain ⟨b23, o23, hp23, ha23⟩ := rs_idx Sl22 Sz3 h0 hx22
 refine x_p 15 (.pointer (some ⟨b23, o23, none⟩)) rfl (by kernel_rfl)  (fun _ => hp23 _ _ _ _ _ _ _ _ _ rfl rfl) (fun _ => hS) ?_
 refine x_l 16 (.int .i64 x22) rfl (by kernel_rfl)  (fun w' hw' => y_load rfl ((at_load_int Ag3 Sz3 ha23) w' hw')) hS ?_
 refine x_one (i := 8) (by kernel_rfl) ?_
 obtain ⟨r25, hr25, hs⟩ := bind_some hs
 refine xk_call (b := false) rfl  Bd116 rfl (c_spec_l1Least (M := M) x16 x18  hO.fut hr25) rfl (by rintro _ _ _ ⟨rfl, hC24⟩; exact hS.ext hC24) ?_
 rintro _ w24 ⟨rfl, hC24⟩
 have h0 := h0.ext hC24
 have hC := hC.ext hC24
 have hO := hO.ext hC24
 have hS := hS.ext hC24
 refine x_one (i := 17) (by kernel_rfl) ?_
 obtain ⟨r27, hr27, hs⟩ := bind_some hs
 refine xk_call (b := false) rfl  Bd51 rfl (c_spec_l1Most (M := M) x20 x22  hO.fut hr27) rfl (by rintro _ _ _ ⟨rfl, hC26⟩; exact hS.ext hC26) ?_
 rintro _ w26 ⟨rfl, hC26⟩
 have h0 := h0.ext hC26
 have hC := hC.ext hC26
 have hO := hO.ext hC26
 have hS := hS.ext hC26
 refine x_p 18 (.int .i64 r25) rfl (by kernel_rfl)  (fun _ => y_assign rfl) (fun _ => hS) ?_
 refine x_p 19 (.int .i64 r27) rfl (by kernel_rfl)  (fun _ => y_assign rfl) (fun _ => hS) ?_
 refine x_end (by kernel_rfl) ?_
 clear hS
 refine c_seq (c_region ?_)
 obtain ⟨w28, g28, ew28, eg28, hC28, hb28⟩ := new_block w26 [] 3
 refine pl_val (w' := w28) (.slice (some ⟨g28, 0, none⟩) 0 0) (y_bslice rfl (by rw [ew28, eg28]; kernel_rfl)) ?_
 have h0 := h0.ext hC28
 have hC := hC.ext hC28
 have hO := hO.new1 hC28 eg28 hb28.lt
 have hv28 := os_of_box (r := (RT.int .i64)) (M := M) (css := []) (fps := []) (xs := ([] : List Int)) hb28 trivial (Nat.zero_le _) (List.nodup_cons.2 ⟨(fun h => nomatch h), List.nodup_nil⟩)
 have hv28 : (RT.os 3 (RT.int .i64)).val M w28 (.slice (some ⟨g28, 0, none⟩) 0 0) [] [g28] := hv28
 refine pl_val (.slice (some ⟨g28, 0, none⟩) 0 0) (y_assign rfl) ?_
 refine c_nil ?_
 refine c_seq ?_
 refine c_seq (c_region ?_)
 refine pl_val (.int .i64 0) (y_assign rfl) ?_
 refine c_nil ?_
 obtain ⟨o51, hl52, hs⟩ := bind_some hs
 refine wp_block ?_
 refine wp_forC (id := 0) (p.length : Int) (I := fun k49 s47 a w48 => ∃ (σ : Nat → Value) (a53 : Option Addr) (n53 : Nat) (c53 : Nat) (f53 : List Nat), a = fr 54 (ovl σ [(0, (.slice pa0 pn0 pc0)), (7, (.int .i64 r25)), (8, (.int .i64 r27)), (9, (.slice a53 n53 c53)), (10, (.int .i64 k49))]) ∧ Chg [] w w48 ∧ Own (Nw w []) M w48 (f53 ++ []) ∧ (RT.rs (RT.int .i64)).val M w48 (.slice pa0 pn0 pc0) p ([]) ∧ (RT.os 3 (RT.int .i64)).val M w48 (.slice a53 n53 c53) s47 f53) (J := fun s47 a w48 => ∃ (σ : Nat → Value) (a55 : Option Addr) (n55 : Nat) (c55 : Nat) (f55 : List Nat), a = fr 54 (ovl σ [(9, (.slice a55 n55 c55))]) ∧ Chg [] w w48 ∧ Own (Nw w []) M w48 (f55 ++ []) ∧ (RT.rs (RT.int .i64)).val M w48 (.slice pa0 pn0 pc0) p ([]) ∧ (RT.os 3 (RT.int .i64)).val M w48 (.slice a55 n55 c55) s47 f55) (K := (k_spec_l6Unite M w)) ?_ ?_ 0 ([]) o51 _ _ ?_ hl52 ?_
 ·rintro k49 s47 a w48 ⟨σ, a53, n53, c53, f53, rfl, hC, hO, h0, hv53⟩ hlt
  refine c_seq ?_
  refine c_seq (c_region ?_)
  refine pl_val (.int .i64 k49) (y_move rfl) ?_
  refine pl_val (.slice pa0 pn0 pc0) (y_move rfl) ?_
  refine pl_val (.int .i64 (p.length : Int)) (y_len' Sl22 (rs_len h0) rfl) ?_
  refine pl_val (.bool (decide (k49 < (p.length : Int)))) (y_lss rfl rfl) ?_
  refine c_nil ?_
  refine c_condF (congrArg Value.bool (decide_eq_false hlt)) ?_
  refine wp_exit ?_
  exact ⟨rfl, _, a53, n53, c53, f53, fr_ovl 54 ⟨rfl, trivial⟩, hC, hO, h0, hv53⟩
 ·rintro k49 s47 o51 a w48 ⟨σ, a53, n53, c53, f53, rfl, hC, hO, h0, hv53⟩ hlt hw hs
  refine c_seq ?_
  refine c_seq (c_region ?_)
  refine pl_val (.int .i64 k49) (y_move rfl) ?_
  refine pl_val (.slice pa0 pn0 pc0) (y_move rfl) ?_
  refine pl_val (.int .i64 (p.length : Int)) (y_len' Sl22 (rs_len h0) rfl) ?_
  refine pl_val (.bool (decide (k49 < (p.length : Int)))) (y_lss rfl rfl) ?_
  refine c_nil ?_
  refine c_condT (congrArg Value.bool (decide_eq_true hlt)) ?_
  refine wp_skip ?_
  refine c_seq ?_
  refine wp_block ?_
  refine c_seq (c_region ?_)
  refine pl_val (.slice pa0 pn0 pc0) (y_move rfl) ?_
  refine pl_val (.int .i64 k49) (y_move rfl) ?_
  obtain ⟨x57, hx57, hs⟩ := bind_some hs
  obtain ⟨b58, o58, hp58, ha58⟩ := rs_idx Sl22 Sz3 h0 hx57
  refine pl_val (.pointer (some ⟨b58, o58, none⟩)) (hp58 _ _ _ _ _ _ _ _ _ rfl rfl) ?_
  refine pl_val (.int .i64 x57) (y_load rfl ((at_load_int Ag3 Sz3 ha58) _ (Chg.refl _ _))) ?_
  refine pl_val (.int .i64 r27) (y_move rfl) ?_
  refine pl_val (.bool (x57 == r27)) (y_eql rfl rfl) ?_
  refine c_nil ?_
  rcases bif_some hs with ⟨hc59, hs⟩ | ⟨hc59, hs⟩
  ·skip
   refine c_condT (congrArg Value.bool hc59) ?_
   refine c_region ?_
   refine pl_val (.slice a53 n53 c53) (y_move rfl) ?_
   refine pl_val (.int .i64 r25) (y_move rfl) ?_
   obtain ⟨w60, g60, ew60, eg60, hC60, hb60⟩ := new_block w48 [(.int .i64 r25)] 3
   refine pl_val (w' := w60) (.slice (some ⟨g60, 0, none⟩) 1 1) (y_bslice rfl (by rw [ew60, eg60]; kernel_rfl)) ?_
   have h0 := h0.ext hC60
   have hv53 := hv53.ext hC60
   have hC := hC.ext hC60
   have hO := hO.new1 hC60 eg60 hb60.lt
   have hv60 := os_of_box (r := (RT.int .i64)) (M := M) (css := [[(.int .i64 r25)]]) (fps := [([] : List Nat)]) (xs := ([r25] : List Int)) hb60 ⟨⟨rfl, rfl⟩, trivial⟩ (Nat.le_of_ble_eq_true rfl) (List.nodup_cons.2 ⟨(fun h => nomatch h), List.nodup_nil⟩)
   have hv60 : (RT.os 3 (RT.int .i64)).val M w60 (.slice (some ⟨g60, 0, none⟩) 1 1) [r25] [g60] := hv60
   obtain ⟨y63, hy63, hs⟩ := bind_some hs
   have hO := hO.fr1
   obtain ⟨a62, n62, c62, w62, f62, hr62, hC62, hf62, hv62⟩ := app_os Rw22 hy63 hv53 hv60 hO.inM (fun g hg hq => hO.apart g hq (mem_l hg))
   have hG62 := os_block hv53
   refine pl_val (w' := w62) (.slice a62 n62 c62) (y_append rfl rfl (hr62 _)) ?_
   have hO := hO.fr1
   have hO := hO.fr1
   have h0 := h0.mut hC62 (fun g hg => hO.inM g (hG62 g hg)) (fun _ _ h => nomatch h)
   have hC := hC.step hC62 (fun g hg => hO.inN g (hG62 g hg))
   have hO := hO.eat hC62 hf62 (os_nodup hv62) hv62.fpl
   refine pl_val (.slice a62 n62 c62) (y_assign rfl) ?_
   refine c_nil ?_
   refine c_region ?_
   refine pl_val (.int .i64 k49) (y_move rfl) ?_
   refine pl_val (.int .i64 (w64 (k49 + 1))) (y_add rfl rfl) ?_
   refine pl_val (.int .i64 (w64 (k49 + 1))) (y_assign rfl) ?_
   refine c_nil ?_
   cases hs
   exact ⟨_, a62, n62, c62, f62, fr_ovl 54 ⟨rfl, rfl, rfl, rfl, congrArg (Value.int .i64) hw, trivial⟩, hC, hO, h0, hv62⟩
  ·skip
   refine c_condF (congrArg Value.bool hc59) ?_
   refine c_region ?_
   refine pl_val (.slice a53 n53 c53) (y_move rfl) ?_
   refine pl_val (.slice pa0 pn0 pc0) (y_move rfl) ?_
   refine pl_val (.int .i64 k49) (y_move rfl) ?_
   obtain ⟨x65, hx65, hs⟩ := bind_some hs
   obtain ⟨b66, o66, hp66, ha66⟩ := rs_idx Sl22 Sz3 h0 hx65
   refine pl_val (.pointer (some ⟨b66, o66, none⟩)) (hp66 _ _ _ _ _ _ _ _ _ rfl rfl) ?_
   refine pl_val (.int .i64 x65) (y_load rfl ((at_load_int Ag3 Sz3 ha66) _ (Chg.refl _ _))) ?_
   obtain ⟨w67, g67, ew67, eg67, hC67, hb67⟩ := new_block w48 [(.int .i64 x65)] 3
   refine pl_val (w' := w67) (.slice (some ⟨g67, 0, none⟩) 1 1) (y_bslice rfl (by rw [ew67, eg67]; kernel_rfl)) ?_
   have h0 := h0.ext hC67
   have hv53 := hv53.ext hC67
   have hC := hC.ext hC67
   have hO := hO.new1 hC67 eg67 hb67.lt
   have hv67 := os_of_box (r := (RT.int .i64)) (M := M) (css := [[(.int .i64 x65)]]) (fps := [([] : List Nat)]) (xs := ([x65] : List Int)) hb67 ⟨⟨rfl, rfl⟩, trivial⟩ (Nat.le_of_ble_eq_true rfl) (List.nodup_cons.2 ⟨(fun h => nomatch h), List.nodup_nil⟩)
   have hv67 : (RT.os 3 (RT.int .i64)).val M w67 (.slice (some ⟨g67, 0, none⟩) 1 1) [x65] [g67] := hv67
   obtain ⟨y70, hy70, hs⟩ := bind_some hs
   have hO := hO.fr1
   obtain ⟨a69, n69, c69, w69, f69, hr69, hC69, hf69, hv69⟩ := app_os Rw22 hy70 hv53 hv67 hO.inM (fun g hg hq => hO.apart g hq (mem_l hg))
   have hG69 := os_block hv53
   refine pl_val (w' := w69) (.slice a69 n69 c69) (y_append rfl rfl (hr69 _)) ?_
   have hO := hO.fr1
   have hO := hO.fr1
   have h0 := h0.mut hC69 (fun g hg => hO.inM g (hG69 g hg)) (fun _ _ h => nomatch h)
   have hC := hC.step hC69 (fun g hg => hO.inN g (hG69 g hg))
   have hO := hO.eat hC69 hf69 (os_nodup hv69) hv69.fpl
   refine pl_val (.slice a69 n69 c69) (y_assign rfl) ?_
   refine c_nil ?_
   refine c_region ?_
   refine pl_val (.int .i64 k49) (y_move rfl) ?_
   refine pl_val (.int .i64 (w64 (k49 + 1))) (y_add rfl rfl) ?_
   refine pl_val (.int .i64 (w64 (k49 + 1))) (y_assign rfl) ?_
   refine c_nil ?_
   cases hs
   exact ⟨_, a69, n69, c69, f69, fr_ovl 54 ⟨rfl, rfl, rfl, rfl, congrArg (Value.int .i64) hw, trivial⟩, hC, hO, h0, hv69⟩
 ·skip
  exact ⟨_, (some ⟨g28, 0, none⟩), 0, 0, ([g28]), fr_ovl 54 ⟨rfl, rfl, rfl, rfl, rfl, trivial⟩, hC, hO, h0, hv28⟩
 ·cases o51 with
  | nx _ => exact True.intro
  | rt r_ =>
   have hs := after_rt hs
   intro a1 w1 hK
   cases hs
   exact hK
  | br s47 =>
   have hs := after_br hs
   rintro a1 w48 ⟨σ, a55, n55, c55, f55, rfl, hC, hO, h0, hv55⟩
   refine c_seq (c_region ?_)
   refine pl_val (.slice a55 n55 c55) (y_move rfl) ?_
   refine pl_val (.slice a55 n55 c55) (y_assign rfl) ?_
   refine c_nil ?_
   refine wp_ret ?_
   cases hs
   exact ⟨_, a55, n55, c55, f55, fr_ovl 54 ⟨rfl, trivial⟩, hC, hv55, hO.top⟩

def k_spec_l1Own (M : Nat → Prop) (w0 : World) (r : (List Int)) (a : Act) (w : World) : Prop :=
  ∃ (σ : Nat → Value) (ra0 : Option Addr) (rn0 rc0 : Nat) (rf0 : List Nat), a = fr 6 (ovl σ [(2, (.slice ra0 rn0 rc0))]) ∧ Chg [] w0 w ∧ (RT.os 3 (RT.int .i64)).val M w (.slice ra0 rn0 rc0) r rf0 ∧ Own (Nw w0 []) (fun _ => True) w (rf0 ++ ([]))
def s_spec_l1Own (l : List Int) : Option ((List Int)) :=
  (app ([]) l).bind fun y5 =>
  some y5
set_option maxHeartbeats 4000000 in
theorem c_spec_l1Own {M : Nat → Prop} {w : World} {pa0 : Option Addr} {pn0 pc0 : Nat} (l : List Int) (h0 : (RT.rs (RT.int .i64)).val M w (.slice pa0 pn0 pc0) l ([])) (hM : ∀ g, w.heap.size ≤ g → M g) {r : (List Int)} (hs : s_spec_l1Own l = some r) :
    Gives Try.prog 100 [(.slice pa0 pn0 pc0)] w (fun v w' => ∃ (ra0 : Option Addr) (rn0 rc0 : Nat) (rf0 : List Nat), v = (.slice ra0 rn0 rc0) ∧ Chg [] w w' ∧ (RT.os 3 (RT.int .i64)).val M w' (.slice ra0 rn0 rc0) r rf0 ∧ Own (Nw w []) (fun _ => True) w' (rf0 ++ ([]))) := by
 refine calls_fr Try.func100 rfl Try.ntmps100 (Nat.le_of_ble_eq_true rfl) ?_
 have hO := Own.start (N := Nw w []) hM Nw.fut
 have hC := Chg.refl [] w
 unfold s_spec_l1Own at hs
 refine wp_mono (Q := KPost (k_spec_l1Own M w r)) ?_ (fun e a w1 h => ?_)
 rotate_left
 ·cases e
  case ret =>
   obtain ⟨σ, ra0, rn0, rc0, rf0, rfl, hrest⟩ := h
   exact ret1x Try.results100 (res_tmp rfl) ⟨ra0, rn0, rc0, rf0, rfl, hrest⟩
  all_goals exact (h : False).elim
 refine c_seq (c_region ?_)
 refine pl_val (.slice none 0 0) (y_assign rfl) ?_
 refine c_nil ?_
 refine c_seq (c_region ?_)
 obtain ⟨w2, g2, ew2, eg2, hC2, hb2⟩ := new_block w [] 3
 refine pl_val (w' := w2) (.slice (some ⟨g2, 0, none⟩) 0 0) (y_bslice rfl (by rw [ew2, eg2]; kernel_rfl)) ?_
 have h0 := h0.ext hC2
 have hC := hC.ext hC2
 have hO := hO.new1 hC2 eg2 hb2.lt
 have hv2 := os_of_box (r := (RT.int .i64)) (M := M) (css := []) (fps := []) (xs := ([] : List Int)) hb2 trivial (Nat.zero_le _) (List.nodup_cons.2 ⟨(fun h => nomatch h), List.nodup_nil⟩)
 have hv2 : (RT.os 3 (RT.int .i64)).val M w2 (.slice (some ⟨g2, 0, none⟩) 0 0) [] [g2] := hv2
 refine pl_val (.slice pa0 pn0 pc0) (y_move rfl) ?_
 obtain ⟨y5, hy5, hs⟩ := bind_some hs
 obtain ⟨a4, n4, c4, w4, f4, hr4, hC4, hf4, hv4⟩ := app_rs Rw22 hy5 hv2 h0 hO.inM
 have hG4 := os_block hv2
 refine pl_val (w' := w4) (.slice a4 n4 c4) (y_append rfl rfl (hr4 _)) ?_
 have h0 := h0.mut hC4 (fun g hg => hO.inM g (hG4 g hg)) (fun _ _ h => nomatch h)
 have hC := hC.step hC4 (fun g hg => hO.inN g (hG4 g hg))
 have hO := hO.grow hC4 hf4 (os_nodup hv4) hv4.fpl
 refine pl_val (.slice a4 n4 c4) (y_assign rfl) ?_
 refine c_nil ?_
 refine wp_ret ?_
 cases hs
 exact ⟨_, a4, n4, c4, f4, fr_ovl 6 ⟨rfl, trivial⟩, hC, hv4, hO.top⟩

def k_spec_l2Args (M : Nat → Prop) (w0 : World) (r : (List Int)) (a : Act) (w : World) : Prop :=
  ∃ (σ : Nat → Value) (ra0 : Option Addr) (rn0 rc0 : Nat) (rf0 : List Nat), a = fr 27 (ovl σ [(6, (.slice ra0 rn0 rc0))]) ∧ Chg [] w0 w ∧ (RT.os 3 (RT.int .i64)).val M w (.slice ra0 rn0 rc0) r rf0 ∧ Own (Nw w0 []) (fun _ => True) w (rf0 ++ ([]))
def s_spec_l2Args (n : Int) (arity : Int) (at_ : Int) : Option ((List Int)) :=
  (mks arity (0 : Int)).bind fun y2 =>
  (iter (S := Int × Int × (List Int)) (R := (List Int)) (fun s17 =>
  (bif (decide (0 ≤ s17.2.1)) then (nz n).bind fun u26 =>
  (idx s17.2.2 s17.2.1).bind fun x27 =>
  (nz n).bind fun u30 =>
  some (.nx (w64 (Int.tdiv s17.1 n), w64 (s17.2.1 - 1), List.set s17.2.2 (Int.toNat s17.2.1) (Int.tmod s17.1 n))) else some (.br (s17.1, s17.2.1, s17.2.2)))) FU (at_, w64 (arity - 1), y2)).bind fun o21 => after o21 (fun r_ => some r_) (fun s17 =>
  some s17.2.2)
set_option maxHeartbeats 4000000 in
theorem c_spec_l2Args {M : Nat → Prop} {w : World}  (n : Int) (arity : Int) (at_ : Int)  (hM : ∀ g, w.heap.size ≤ g → M g) {r : (List Int)} (hs : s_spec_l2Args n arity at_ = some r) :
    Gives Try.prog 114 [(.int .i64 n), (.int .i64 arity), (.int .i64 at_)] w (fun v w' => ∃ (ra0 : Option Addr) (rn0 rc0 : Nat) (rf0 : List Nat), v = (.slice ra0 rn0 rc0) ∧ Chg [] w w' ∧ (RT.os 3 (RT.int .i64)).val M w' (.slice ra0 rn0 rc0) r rf0 ∧ Own (Nw w []) (fun _ => True) w' (rf0 ++ ([]))) := by
 refine calls_fr Try.func114 rfl Try.ntmps114 (Nat.le_of_ble_eq_true rfl) ?_
 have hO := Own.start (N := Nw w []) hM Nw.fut
 have hC := Chg.refl [] w
 unfold s_spec_l2Args at hs
 refine wp_mono (Q := KPost (k_spec_l2Args M w r)) ?_ (fun e a w1 h => ?_)
 rotate_left
 ·cases e
  case ret =>
   obtain ⟨σ, ra0, rn0, rc0, rf0, rfl, hrest⟩ := h
   exact ret1x Try.results114 (res_tmp rfl) ⟨ra0, rn0, rc0, rf0, rfl, hrest⟩
  all_goals exact (h : False).elim
 refine c_seq (c_region ?_)
 refine pl_val (.slice none 0 0) (y_assign rfl) ?_
 refine c_nil ?_
 refine c_seq (c_region ?_)
 refine pl_val (.int .i64 arity) (y_move rfl) ?_
 obtain ⟨y2, hy2, hs⟩ := bind_some hs
 obtain ⟨a1, n1, c1, w1, f1, hm1, hC1, hfr1, hv1⟩ := mk_os (M := M) (w := w) (r := (RT.int .i64)) Rw22 hy2 (fun _ _ => ⟨rfl, rfl⟩)
 refine pl_val (w' := w1) (.slice a1 n1 c1) (y_make rfl rfl hm1) ?_
 have hC := hC.ext hC1
 have hO := hO.new hC1 hfr1 (os_nodup hv1) hv1.fpl
 refine pl_val (.slice a1 n1 c1) (y_assign rfl) ?_
 refine c_nil ?_
 refine c_seq ?_
 refine c_seq (c_region ?_)
 refine pl_val (.int .i64 arity) (y_move rfl) ?_
 refine pl_val (.int .i64 (w64 (arity - 1))) (y_sub rfl rfl) ?_
 refine pl_val (.int .i64 (w64 (arity - 1))) (y_assign rfl) ?_
 refine c_nil ?_
 obtain ⟨o21, hl22, hs⟩ := bind_some hs
 refine wp_block ?_
 refine wp_iter (id := 0) (I := fun s17 a w18 => ∃ (σ : Nat → Value) (f23 : List Nat), a = fr 27 (ovl σ [(0, (.int .i64 n)), (2, (.int .i64 s17.1)), (7, (.slice a1 n1 c1)), (8, (.int .i64 s17.2.1))]) ∧ Chg [] w w18 ∧ Own (Nw w []) M w18 (f23 ++ []) ∧ (RT.os 3 (RT.int .i64)).val M w18 (.slice a1 n1 c1) s17.2.2 f23) (J := fun s17 a w18 => ∃ (σ : Nat → Value) (f24 : List Nat), a = fr 27 (ovl σ [(7, (.slice a1 n1 c1))]) ∧ Chg [] w w18 ∧ Own (Nw w []) M w18 (f24 ++ []) ∧ (RT.os 3 (RT.int .i64)).val M w18 (.slice a1 n1 c1) s17.2.2 f24) (K := (k_spec_l2Args M w)) ?_ FU (at_, w64 (arity - 1), y2) o21 _ _ ?_ hl22 ?_
 ·rintro s17 o21 a w18 ⟨σ, f23, rfl, hC, hO, hv23⟩ hs
  refine c_seq ?_
  refine c_seq (c_region ?_)
  refine pl_val (.int .i64 s17.2.1) (y_move rfl) ?_
  refine pl_val (.bool (decide (0 ≤ s17.2.1))) (y_geq rfl rfl) ?_
  refine c_nil ?_
  rcases bif_some hs with ⟨hc25, hs⟩ | ⟨hc25, hs⟩
  ·skip
   refine c_condT (congrArg Value.bool hc25) ?_
   refine wp_skip ?_
   refine c_seq ?_
   refine wp_block ?_
   refine c_seq (c_region ?_)
   refine pl_val (.slice a1 n1 c1) (y_move rfl) ?_
   refine pl_val (.int .i64 s17.2.1) (y_move rfl) ?_
   refine pl_val (.int .i64 s17.1) (y_move rfl) ?_
   refine pl_val (.int .i64 n) (y_move rfl) ?_
   obtain ⟨u26, hu26, hs⟩ := bind_some hs
   refine pl_val (.int .i64 (Int.tmod s17.1 n)) (y_rem rfl rfl (nz_ne hu26)) ?_
   obtain ⟨x27, hx27, hs⟩ := bind_some hs
   obtain ⟨g28, f28, hg28, hk28, hp28, ha28, hf28⟩ := os_idx Sl22 Sz3 hv23 hx27
   refine pl_val (.pointer (some ⟨g28, 0 + Int.toNat s17.2.1 * 1, none⟩)) (hp28 _ _ _ _ _ _ _ _ _ rfl rfl) ?_
   obtain ⟨w29, f29, hst29, hC29, hf29, hv29⟩ := os_store (P := Try.prog) (c' := [(.int .i64 (Int.tmod s17.1 n))]) hg28 hv23 hk28 (fun g hg => hO.inM g (os_block hv23 g (by simpa using hg))) ⟨rfl, rfl⟩ List.nodup_nil (fun _ h => nomatch h) (fun _ h => .inl h)
   have hG29 : ∀ q ∈ [g28], q ∈ f23 := fun q hq => os_block hv23 q (by rw [hg28]; exact hq)
   refine pl_skip (w' := w29) (ys_store rfl rfl (hst29 _ _ rfl Sz3)) ?_
   have hC := hC.step hC29 (fun g hg => hO.inN g (hG29 g hg))
   have hO := hO.grow hC29 (fun q hq => .inl ((hf29 q hq).resolve_right (fun h => nomatch h))) (os_nodup hv29) hv29.fpl
   refine c_nil ?_
   refine c_region ?_
   refine pl_val (.int .i64 s17.1) (y_move rfl) ?_
   refine pl_val (.int .i64 n) (y_move rfl) ?_
   obtain ⟨u30, hu30, hs⟩ := bind_some hs
   refine pl_val (.int .i64 (w64 (Int.tdiv s17.1 n))) (y_quo rfl rfl (nz_ne hu30)) ?_
   refine pl_val (.int .i64 (w64 (Int.tdiv s17.1 n))) (y_assign rfl) ?_
   refine c_nil ?_
   refine c_region ?_
   refine pl_val (.int .i64 s17.2.1) (y_move rfl) ?_
   refine pl_val (.int .i64 (w64 (s17.2.1 - 1))) (y_sub rfl rfl) ?_
   refine pl_val (.int .i64 (w64 (s17.2.1 - 1))) (y_assign rfl) ?_
   refine c_nil ?_
   cases hs
   exact ⟨_, f29, fr_ovl 27 ⟨rfl, rfl, rfl, rfl, trivial⟩, hC, hO, hv29⟩
  ·skip
   refine c_condF (congrArg Value.bool hc25) ?_
   refine wp_exit ?_
   cases hs
   exact ⟨rfl, _, f23, fr_ovl 27 ⟨rfl, trivial⟩, hC, hO, hv23⟩
 ·skip
  exact ⟨_, f1, fr_ovl 27 ⟨rfl, rfl, rfl, rfl, trivial⟩, hC, hO, hv1⟩
 ·cases o21 with
  | nx _ => exact True.intro
  | rt r_ =>
   have hs := after_rt hs
   intro a1 w1 hK
   cases hs
   exact hK
  | br s17 =>
   have hs := after_br hs
   rintro a1 w18 ⟨σ, f24, rfl, hC, hO, hv24⟩
   refine c_seq (c_region ?_)
   refine pl_val (.slice a1 n1 c1) (y_move rfl) ?_
   refine pl_val (.slice a1 n1 c1) (y_assign rfl) ?_
   refine c_nil ?_
   refine wp_ret ?_
   cases hs
   exact ⟨_, a1, n1, c1, f24, fr_ovl 27 ⟨rfl, trivial⟩, hC, hv24, hO.top⟩

def k_spec_l2Value (M : Nat → Prop) (w0 : World) (r : Int) (a : Act) (w : World) : Prop :=
  ∃ (σ : Nat → Value) , a = fr 33 (ovl σ [(6, (.int .i64 r))]) ∧ Chg [] w0 w
def s_spec_l2Value (a_ : Int × (List (Int × (List Int)))) (op : Int) (args : List Int) : Option (Int) :=
  (forC (S := Int) (R := Int) (fun k9 s7 =>
  (idx args k9).bind fun x14 =>
  some (.nx (w64 ((w64 (s7 * a_.1)) + x14)))) 0 (args.length : Int) 0).bind fun o11 => after o11 (fun r_ => some r_) (fun s7 =>
  (idx a_.2 op).bind fun x16 =>
  (idx x16.2 s7).bind fun x21 =>
  some x21)
set_option maxHeartbeats 4000000 in
theorem c_spec_l2Value {M : Nat → Prop} {w : World} {pa0 : Option Addr} {pn0 pc0 : Nat} {pa1 : Option Addr} {pn1 pc1 : Nat} (a_ : Int × (List (Int × (List Int)))) (op : Int) (args : List Int) (h0 : (RT.rs (RT.pr (RT.int .i64) (RT.rs (RT.int .i64)))).val M w (.slice pa0 pn0 pc0) a_.2 ([])) (h1 : (RT.rs (RT.int .i64)).val M w (.slice pa1 pn1 pc1) args ([])) (hM : ∀ g, w.heap.size ≤ g → M g) {r : Int} (hs : s_spec_l2Value a_ op args = some r) :
    Gives Try.prog 115 [(.agg #[(.int .i64 a_.1), (.slice pa0 pn0 pc0)]), (.int .i64 op), (.slice pa1 pn1 pc1)] w (fun v w' => v = (.int .i64 r) ∧ Chg [] w w') := by
 refine calls_fr Try.func115 rfl Try.ntmps115 (Nat.le_of_ble_eq_true rfl) ?_
 have hO := Own.start (N := Nw w []) hM Nw.fut
 have hC := Chg.refl [] w
 unfold s_spec_l2Value at hs
 refine wp_mono (Q := KPost (k_spec_l2Value M w r)) ?_ (fun e a w1 h => ?_)
 rotate_left
 ·cases e
  case ret =>
   obtain ⟨σ, rfl, hrest⟩ := h
   exact ret1x Try.results115 (res_tmp rfl) ⟨rfl, hrest⟩
  all_goals exact (h : False).elim
 refine c_seq (c_region ?_)
 obtain ⟨w3, g3, ew3, eg3, hC3, hb3⟩ := new_block w [(.int .i64 a_.1), (.slice pa0 pn0 pc0)] 35
 refine pl_val (w' := w3) (.pointer (some ⟨g3, 0, none⟩)) (y_box rfl (by rw [ew3, eg3]; kernel_rfl)) ?_
 have h0 := h0.ext hC3
 have h1 := h1.ext hC3
 have hC := hC.ext hC3
 have hO := hO.new1 hC3 eg3 hb3.lt
 refine pl_val (.int .i64 0) (y_assign rfl) ?_
 refine c_nil ?_
 refine c_seq (c_region ?_)
 refine pl_val (.int .i64 0) (y_assign rfl) ?_
 refine c_nil ?_
 refine c_seq ?_
 refine c_seq (c_region ?_)
 refine pl_val (.int .i64 0) (y_assign rfl) ?_
 refine c_nil ?_
 obtain ⟨o11, hl12, hs⟩ := bind_some hs
 refine wp_block ?_
 refine wp_forC (id := 0) (args.length : Int) (I := fun k9 s7 a w8 => ∃ (σ : Nat → Value), a = fr 33 (ovl σ [(1, (.int .i64 op)), (2, (.slice pa1 pn1 pc1)), (3, (.pointer (some ⟨g3, 0, none⟩))), (7, (.int .i64 s7)), (8, (.int .i64 k9))]) ∧ Chg [] w w8 ∧ Own (Nw w []) M w8 (([g3]) ++ []) ∧ (RT.rs (RT.pr (RT.int .i64) (RT.rs (RT.int .i64)))).val M w8 (.slice pa0 pn0 pc0) a_.2 ([]) ∧ (RT.rs (RT.int .i64)).val M w8 (.slice pa1 pn1 pc1) args ([]) ∧ BoxV w8 g3 35 [(.int .i64 a_.1), (.slice pa0 pn0 pc0)]) (J := fun s7 a w8 => ∃ (σ : Nat → Value), a = fr 33 (ovl σ [(1, (.int .i64 op)), (3, (.pointer (some ⟨g3, 0, none⟩))), (7, (.int .i64 s7))]) ∧ Chg [] w w8 ∧ Own (Nw w []) M w8 (([g3]) ++ []) ∧ (RT.rs (RT.pr (RT.int .i64) (RT.rs (RT.int .i64)))).val M w8 (.slice pa0 pn0 pc0) a_.2 ([]) ∧ (RT.rs (RT.int .i64)).val M w8 (.slice pa1 pn1 pc1) args ([]) ∧ BoxV w8 g3 35 [(.int .i64 a_.1), (.slice pa0 pn0 pc0)]) (K := (k_spec_l2Value M w)) ?_ ?_ 0 0 o11 _ _ ?_ hl12 ?_
 ·rintro k9 s7 a w8 ⟨σ, rfl, hC, hO, h0, h1, hb3⟩ hlt
  refine c_seq ?_
  refine c_seq (c_region ?_)
  refine pl_val (.int .i64 k9) (y_move rfl) ?_
  refine pl_val (.slice pa1 pn1 pc1) (y_move rfl) ?_
  refine pl_val (.int .i64 (args.length : Int)) (y_len' Sl22 (rs_len h1) rfl) ?_
  refine pl_val (.bool (decide (k9 < (args.length : Int)))) (y_lss rfl rfl) ?_
  refine c_nil ?_
  refine c_condF (congrArg Value.bool (decide_eq_false hlt)) ?_
  refine wp_exit ?_
  exact ⟨rfl, _, fr_ovl 33 ⟨rfl, rfl, rfl, trivial⟩, hC, hO, h0, h1, hb3⟩
 ·rintro k9 s7 o11 a w8 ⟨σ, rfl, hC, hO, h0, h1, hb3⟩ hlt hw hs
  refine c_seq ?_
  refine c_seq (c_region ?_)
  refine pl_val (.int .i64 k9) (y_move rfl) ?_
  refine pl_val (.slice pa1 pn1 pc1) (y_move rfl) ?_
  refine pl_val (.int .i64 (args.length : Int)) (y_len' Sl22 (rs_len h1) rfl) ?_
  refine pl_val (.bool (decide (k9 < (args.length : Int)))) (y_lss rfl rfl) ?_
  refine c_nil ?_
  refine c_condT (congrArg Value.bool (decide_eq_true hlt)) ?_
  refine wp_skip ?_
  refine c_seq ?_
  refine wp_block ?_
  refine x_start [] Mx rfl ?_
  have hCw13 := Chg.drew w8
  generalize World.drew w8 = w13 at hCw13 ⊢
  have h0 := h0.ext hCw13
  have h1 := h1.ext hCw13
  have hb3 := hb3.chg hCw13 (fun h => nomatch h)
  have hC := hC.ext hCw13
  have hO := hO.ext hCw13
  have hS := Chg.refl [] w13
  refine x_p 0 (.int .i64 s7) rfl (by kernel_rfl)  (fun _ => y_move rfl) (fun _ => hS) ?_
  refine x_p 1 (.pointer (some ⟨g3, 0, none⟩)) rfl (by kernel_rfl)  (fun _ => y_faddr rfl Fa35x0) (fun _ => hS) ?_
  refine x_l 2 (.int .i64 a_.1) rfl (by kernel_rfl)  (fun w' hw' => y_load rfl ((box_load Ag3 Sz3 hb3 [] [(.int .i64 a_.1)] [(.slice pa0 pn0 pc0)] rfl rfl (fun _ => rfl)) w' hw')) hS ?_
  refine x_p 3 (.int .i64 (w64 (s7 * a_.1))) rfl (by kernel_rfl)  (fun _ => y_mul rfl rfl) (fun _ => hS) ?_
  refine x_p 4 (.slice pa1 pn1 pc1) rfl (by kernel_rfl)  (fun _ => y_move rfl) (fun _ => hS) ?_
  refine x_p 5 (.int .i64 k9) rfl (by kernel_rfl)  (fun _ => y_move rfl) (fun _ => hS) ?_
  obtain ⟨x14, hx14, hs⟩ := bind_some hs
  obtain ⟨b15, o15, hp15, ha15⟩ := rs_idx Sl22 Sz3 h1 hx14
  refine x_p 6 (.pointer (some ⟨b15, o15, none⟩)) rfl (by kernel_rfl)  (fun _ => hp15 _ _ _ _ _ _ _ _ _ rfl rfl) (fun _ => hS) ?_
  refine x_l 7 (.int .i64 x14) rfl (by kernel_rfl)  (fun w' hw' => y_load rfl ((at_load_int Ag3 Sz3 ha15) w' hw')) hS ?_
  refine x_p 8 (.int .i64 (w64 ((w64 (s7 * a_.1)) + x14))) rfl (by kernel_rfl)  (fun _ => y_add rfl rfl) (fun _ => hS) ?_
  refine x_p 9 (.int .i64 (w64 ((w64 (s7 * a_.1)) + x14))) rfl (by kernel_rfl)  (fun _ => y_assign rfl) (fun _ => hS) ?_
  refine x_end (by kernel_rfl) ?_
  clear hS
  refine c_region ?_
  refine pl_val (.int .i64 k9) (y_move rfl) ?_
  refine pl_val (.int .i64 (w64 (k9 + 1))) (y_add rfl rfl) ?_
  refine pl_val (.int .i64 (w64 (k9 + 1))) (y_assign rfl) ?_
  refine c_nil ?_
  cases hs
  exact ⟨_, fr_ovl 33 ⟨rfl, rfl, rfl, rfl, congrArg (Value.int .i64) hw, trivial⟩, hC, hO, h0, h1, hb3⟩
 ·skip
  exact ⟨_, fr_ovl 33 ⟨rfl, rfl, rfl, rfl, rfl, trivial⟩, hC, hO, h0, h1, hb3⟩
 ·cases o11 with
  | nx _ => exact True.intro
  | rt r_ =>
   have hs := after_rt hs
   intro a1 w1 hK
   cases hs
   exact hK
  | br s7 =>
   have hs := after_br hs
   rintro a1 w8 ⟨σ, rfl, hC, hO, h0, h1, hb3⟩
   refine c_seq (c_region ?_)
   refine pl_val (.pointer (some ⟨g3, 1, none⟩)) (y_faddr rfl Fa35x1) ?_
   refine pl_val (.slice pa0 pn0 pc0) (y_load rfl ((box_load Ag33 Sz33 hb3 [(.int .i64 a_.1)] [(.slice pa0 pn0 pc0)] [] rfl rfl (fun _ => rfl)) _ (Chg.refl _ _))) ?_
   refine pl_val (.int .i64 op) (y_move rfl) ?_
   obtain ⟨x16, hx16, hs⟩ := bind_some hs
   obtain ⟨b17, o17, hp17, ha17⟩ := rs_idx Sl33 Sz81 h0 hx16
   refine pl_val (.pointer (some ⟨b17, o17, none⟩)) (hp17 _ _ _ _ _ _ _ _ _ rfl rfl) ?_
   obtain ⟨_, hq18x0⟩ := pr_at ha17
   refine pl_val (.pointer (some ⟨b17, o17 + 1, none⟩)) (y_faddr rfl Fa81x1) ?_
   obtain ⟨v19, hl19, hv19⟩ := at_load Ag22 Sz22 (fun _ => rfl) hq18x0
   obtain ⟨a19, n19, c19, rfl⟩ := rs_sl hv19
   refine pl_val (.slice a19 n19 c19) (y_load rfl (hl19 _ (Chg.refl _ _))) ?_
   refine pl_val (.int .i64 s7) (y_move rfl) ?_
   obtain ⟨x21, hx21, hs⟩ := bind_some hs
   obtain ⟨b22, o22, hp22, ha22⟩ := rs_idx Sl22 Sz3 hv19 hx21
   refine pl_val (.pointer (some ⟨b22, o22, none⟩)) (hp22 _ _ _ _ _ _ _ _ _ rfl rfl) ?_
   refine pl_val (.int .i64 x21) (y_load rfl ((at_load_int Ag3 Sz3 ha22) _ (Chg.refl _ _))) ?_
   refine pl_val (.int .i64 x21) (y_assign rfl) ?_
   refine c_nil ?_
   refine wp_ret ?_
   cases hs
   exact ⟨_, fr_ovl 33 ⟨rfl, trivial⟩, hC⟩

theorem Bd100 : Bodied Try.prog 100 := bodied Try.func100 (by kernel_rfl) rfl

theorem Bd114 : Bodied Try.prog 114 := bodied Try.func114 (by kernel_rfl) rfl

theorem Bd115 : Bodied Try.prog 115 := bodied Try.func115 (by kernel_rfl) rfl

theorem Bd101 : Bodied Try.prog 101 := bodied Try.func101 (by kernel_rfl) rfl

def k_spec_l6Push (M : Nat → Prop) (w0 : World) (r : (List Int)) (a : Act) (w : World) : Prop :=
  ∃ (σ : Nat → Value) (ra0 : Option Addr) (rn0 rc0 : Nat) (rf0 : List Nat), a = fr 75 (ovl σ [(4, (.slice ra0 rn0 rc0))]) ∧ Chg [] w0 w ∧ (RT.os 3 (RT.int .i64)).val M w (.slice ra0 rn0 rc0) r rf0 ∧ Own (Nw w0 []) (fun _ => True) w (rf0 ++ ([]))
def s_spec_l6Push (a_ : Int × (List (Int × (List Int)))) (p : List Int) : Option ((List Int)) :=
  (s_spec_l1Own p).bind fun r5 =>
  (forC (S := (List Int)) (R := (List Int)) (fun k180 s178 =>
  (iter (S := (List Int) × Int) (R := (List Int)) (fun s268 =>
  (idx a_.2 k180).bind fun x278 =>
  (bif (decide (s268.2 < (x278.2.length : Int))) then (idx a_.2 k180).bind fun x292 =>
  (s_spec_l2Args a_.1 x292.1 s268.2).bind fun r296 =>
  (forC (S := (List Int)) (R := (List Int)) (fun k325 s323 =>
  (s_spec_l1Own r296).bind fun r334 =>
  (idx r296 k325).bind fun x336 =>
  (idx p x336).bind fun x338 =>
  (idx r334 k325).bind fun x340 =>
  (idx a_.2 k180).bind fun x344 =>
  (idx x344.2 s268.2).bind fun x349 =>
  (s_spec_l2Value (a_.1, a_.2) k180 (List.set r334 (Int.toNat k325) x338)).bind fun r352 =>
  (s_spec_l6Unite s323 x349 r352).bind fun r354 =>
  some (.nx r354)) 0 (r296.length : Int) s268.1).bind fun o327 => after o327 (fun r_ => some (.rt r_)) (fun s323 =>
  some (.nx (s323, w64 (s268.2 + 1)))) else some (.br (s268.1, s268.2)))) FU (s178, 0)).bind fun o272 => after o272 (fun r_ => some (.rt r_)) (fun s268 =>
  some (.nx s268.1))) 0 (a_.2.length : Int) r5).bind fun o182 => after o182 (fun r_ => some r_) (fun s178 =>
  some s178)
set_option maxHeartbeats 4000000 in
theorem c_spec_l6Push {M : Nat → Prop} {w : World} {pa0 : Option Addr} {pn0 pc0 : Nat} {pa1 : Option Addr} {pn1 pc1 : Nat} (a_ : Int × (List (Int × (List Int)))) (p : List Int) (h0 : (RT.rs (RT.pr (RT.int .i64) (RT.rs (RT.int .i64)))).val M w (.slice pa0 pn0 pc0) a_.2 ([])) (h1 : (RT.rs (RT.int .i64)).val M w (.slice pa1 pn1 pc1) p ([])) (hM : ∀ g, w.heap.size ≤ g → M g) {r : (List Int)} (hs : s_spec_l6Push a_ p = some r) :
    Gives Try.prog 94 [(.agg #[(.int .i64 a_.1), (.slice pa0 pn0 pc0)]), (.slice pa1 pn1 pc1)] w (fun v w' => ∃ (ra0 : Option Addr) (rn0 rc0 : Nat) (rf0 : List Nat), v = (.slice ra0 rn0 rc0) ∧ Chg [] w w' ∧ (RT.os 3 (RT.int .i64)).val M w' (.slice ra0 rn0 rc0) r rf0 ∧ Own (Nw w []) (fun _ => True) w' (rf0 ++ ([]))) := by
 refine calls_fr Try.func94 rfl Try.ntmps94 (Nat.le_of_ble_eq_true rfl) ?_
 have hO := Own.start (N := Nw w []) hM Nw.fut
 have hC := Chg.refl [] w
 unfold s_spec_l6Push at hs
 refine wp_mono (Q := KPost (k_spec_l6Push M w r)) ?_ (fun e a w1 h => ?_)
 rotate_left
 ·cases e
  case ret =>
   obtain ⟨σ, ra0, rn0, rc0, rf0, rfl, hrest⟩ := h
   exact ret1x Try.results94 (res_tmp rfl) ⟨ra0, rn0, rc0, rf0, rfl, hrest⟩
  all_goals exact (h : False).elim
 refine c_seq (c_region ?_)
 obtain ⟨w3, g3, ew3, eg3, hC3, hb3⟩ := new_block w [(.int .i64 a_.1), (.slice pa0 pn0 pc0)] 35
 refine pl_val (w' := w3) (.pointer (some ⟨g3, 0, none⟩)) (y_box rfl (by rw [ew3, eg3]; kernel_rfl)) ?_
 have h0 := h0.ext hC3
 have h1 := h1.ext hC3
 have hC := hC.ext hC3
 have hO := hO.new1 hC3 eg3 hb3.lt
 refine pl_val (.slice none 0 0) (y_assign rfl) ?_
 refine c_nil ?_
 refine c_seq (c_region ?_)
 refine pl_val (.slice pa1 pn1 pc1) (y_move rfl) ?_
 obtain ⟨r5, hr5, hs⟩ := bind_some hs
 refine pl_call Bd100 rfl (c_spec_l1Own (M := M) p h1 hO.fut hr5) ?_
 rintro _ w4 ⟨a4x0, n4x0, c4x0, f4x0, rfl, hC4, hv4x0, hOc4⟩
 have h0 := h0.ext hC4
 have h1 := h1.ext hC4
 have hb3 := hb3.chg hC4 (fun h => nomatch h)
 have hC := hC.ext hC4
 have hO := Own.join0 hO hC4 hOc4
 have hO := hO.perm (R := f4x0 ++ (([g3]) ++ ([]))) (by simp)
 refine pl_val (.slice a4x0 n4x0 c4x0) (y_assign rfl) ?_
 refine c_nil ?_
 refine c_seq ?_
 refine c_seq (c_region ?_)
 refine pl_val (.int .i64 0) (y_assign rfl) ?_
 refine c_nil ?_
 obtain ⟨o182, hl183, hs⟩ := bind_some hs
 refine wp_block ?_
 refine wp_forC (id := 0) (a_.2.length : Int) (I := fun k180 s178 a w179 => ∃ (σ : Nat → Value) (a184 : Option Addr) (n184 : Nat) (c184 : Nat) (f184 : List Nat), a = fr 75 (ovl σ [(1, (.slice pa1 pn1 pc1)), (2, (.pointer (some ⟨g3, 0, none⟩))), (5, (.slice a184 n184 c184)), (6, (.int .i64 k180))]) ∧ Chg [] w w179 ∧ Own (Nw w []) M w179 (f184 ++ (([g3]) ++ [])) ∧ (RT.rs (RT.pr (RT.int .i64) (RT.rs (RT.int .i64)))).val M w179 (.slice pa0 pn0 pc0) a_.2 ([]) ∧ (RT.rs (RT.int .i64)).val M w179 (.slice pa1 pn1 pc1) p ([]) ∧ BoxV w179 g3 35 [(.int .i64 a_.1), (.slice pa0 pn0 pc0)] ∧ (RT.os 3 (RT.int .i64)).val M w179 (.slice a184 n184 c184) s178 f184) (J := fun s178 a w179 => ∃ (σ : Nat → Value) (a186 : Option Addr) (n186 : Nat) (c186 : Nat) (f186 : List Nat), a = fr 75 (ovl σ [(5, (.slice a186 n186 c186))]) ∧ Chg [] w w179 ∧ Own (Nw w []) M w179 (f186 ++ (([g3]) ++ [])) ∧ (RT.rs (RT.pr (RT.int .i64) (RT.rs (RT.int .i64)))).val M w179 (.slice pa0 pn0 pc0) a_.2 ([]) ∧ (RT.rs (RT.int .i64)).val M w179 (.slice pa1 pn1 pc1) p ([]) ∧ BoxV w179 g3 35 [(.int .i64 a_.1), (.slice pa0 pn0 pc0)] ∧ (RT.os 3 (RT.int .i64)).val M w179 (.slice a186 n186 c186) s178 f186) (K := (k_spec_l6Push M w)) ?_ ?_ 0 r5 o182 _ _ ?_ hl183 ?_
 ·rintro k180 s178 a w179 ⟨σ, a184, n184, c184, f184, rfl, hC, hO, h0, h1, hb3, hv184⟩ hlt
  refine c_seq ?_
  refine c_seq (c_region ?_)
  refine pl_val (.int .i64 k180) (y_move rfl) ?_
  refine pl_val (.pointer (some ⟨g3, 1, none⟩)) (y_faddr rfl Fa35x1) ?_
  refine pl_val (.slice pa0 pn0 pc0) (y_load rfl ((box_load Ag33 Sz33 hb3 [(.int .i64 a_.1)] [(.slice pa0 pn0 pc0)] [] rfl rfl (fun _ => rfl)) _ (Chg.refl _ _))) ?_
  refine pl_val (.int .i64 (a_.2.length : Int)) (y_len' Sl33 (rs_len h0) rfl) ?_
  refine pl_val (.bool (decide (k180 < (a_.2.length : Int)))) (y_lss rfl rfl) ?_
  refine c_nil ?_
  refine c_condF (congrArg Value.bool (decide_eq_false hlt)) ?_
  refine wp_exit ?_
  have hO := hO.fr1
  have hO := hO.fr1
  exact ⟨rfl, _, a184, n184, c184, f184, fr_ovl 75 ⟨rfl, trivial⟩, hC, hO, h0, h1, hb3, hv184⟩
 ·rintro k180 s178 o182 a w179 ⟨σ, a184, n184, c184, f184, rfl, hC, hO, h0, h1, hb3, hv184⟩ hlt hw hs
  refine c_seq ?_
  refine c_seq (c_region ?_)
  refine pl_val (.int .i64 k180) (y_move rfl) ?_
  refine pl_val (.pointer (some ⟨g3, 1, none⟩)) (y_faddr rfl Fa35x1) ?_
  refine pl_val (.slice pa0 pn0 pc0) (y_load rfl ((box_load Ag33 Sz33 hb3 [(.int .i64 a_.1)] [(.slice pa0 pn0 pc0)] [] rfl rfl (fun _ => rfl)) _ (Chg.refl _ _))) ?_
  refine pl_val (.int .i64 (a_.2.length : Int)) (y_len' Sl33 (rs_len h0) rfl) ?_
  refine pl_val (.bool (decide (k180 < (a_.2.length : Int)))) (y_lss rfl rfl) ?_
  refine c_nil ?_
  refine c_condT (congrArg Value.bool (decide_eq_true hlt)) ?_
  refine wp_skip ?_
  refine c_seq ?_
  refine wp_block ?_
  refine c_seq (c_region ?_)
  refine pl_val (.int .i64 0) (y_assign rfl) ?_
  refine c_nil ?_
  obtain ⟨o272, hl273, hs⟩ := bind_some hs
  refine wp_block ?_
  refine wp_iter (id := 2) (I := fun s268 a w269 => ∃ (σ : Nat → Value) (a274 : Option Addr) (n274 : Nat) (c274 : Nat) (f274 : List Nat), a = fr 75 (ovl σ [(1, (.slice pa1 pn1 pc1)), (2, (.pointer (some ⟨g3, 0, none⟩))), (5, (.slice a274 n274 c274)), (6, (.int .i64 k180)), (7, (.int .i64 s268.2))]) ∧ Chg [] w w269 ∧ Own (Nw w []) M w269 (f274 ++ (([g3]) ++ [])) ∧ (RT.rs (RT.pr (RT.int .i64) (RT.rs (RT.int .i64)))).val M w269 (.slice pa0 pn0 pc0) a_.2 ([]) ∧ (RT.rs (RT.int .i64)).val M w269 (.slice pa1 pn1 pc1) p ([]) ∧ BoxV w269 g3 35 [(.int .i64 a_.1), (.slice pa0 pn0 pc0)] ∧ (RT.os 3 (RT.int .i64)).val M w269 (.slice a274 n274 c274) s268.1 f274) (J := fun s268 a w269 => ∃ (σ : Nat → Value) (a276 : Option Addr) (n276 : Nat) (c276 : Nat) (f276 : List Nat), a = fr 75 (ovl σ [(1, (.slice pa1 pn1 pc1)), (2, (.pointer (some ⟨g3, 0, none⟩))), (5, (.slice a276 n276 c276)), (6, (.int .i64 k180))]) ∧ Chg [] w w269 ∧ Own (Nw w []) M w269 (f276 ++ (([g3]) ++ [])) ∧ (RT.rs (RT.pr (RT.int .i64) (RT.rs (RT.int .i64)))).val M w269 (.slice pa0 pn0 pc0) a_.2 ([]) ∧ (RT.rs (RT.int .i64)).val M w269 (.slice pa1 pn1 pc1) p ([]) ∧ BoxV w269 g3 35 [(.int .i64 a_.1), (.slice pa0 pn0 pc0)] ∧ (RT.os 3 (RT.int .i64)).val M w269 (.slice a276 n276 c276) s268.1 f276) (K := (k_spec_l6Push M w)) ?_ FU (s178, 0) o272 _ _ ?_ hl273 ?_
  ·rintro s268 o272 a w269 ⟨σ, a274, n274, c274, f274, rfl, hC, hO, h0, h1, hb3, hv274⟩ hs
   refine c_seq ?_
   refine c_seq (c_region ?_)
   refine pl_val (.int .i64 s268.2) (y_move rfl) ?_
   refine pl_val (.pointer (some ⟨g3, 1, none⟩)) (y_faddr rfl Fa35x1) ?_
   refine pl_val (.slice pa0 pn0 pc0) (y_load rfl ((box_load Ag33 Sz33 hb3 [(.int .i64 a_.1)] [(.slice pa0 pn0 pc0)] [] rfl rfl (fun _ => rfl)) _ (Chg.refl _ _))) ?_
   refine pl_val (.int .i64 k180) (y_move rfl) ?_
   obtain ⟨x278, hx278, hs⟩ := bind_some hs
   obtain ⟨b279, o279, hp279, ha279⟩ := rs_idx Sl33 Sz81 h0 hx278
   refine pl_val (.pointer (some ⟨b279, o279, none⟩)) (hp279 _ _ _ _ _ _ _ _ _ rfl rfl) ?_
   obtain ⟨_, hq280x0⟩ := pr_at ha279
   refine pl_val (.pointer (some ⟨b279, o279 + 1, none⟩)) (y_faddr rfl Fa81x1) ?_
   obtain ⟨v281, hl281, hv281⟩ := at_load Ag22 Sz22 (fun _ => rfl) hq280x0
   obtain ⟨a281, n281, c281, rfl⟩ := rs_sl hv281
   refine pl_val (.slice a281 n281 c281) (y_load rfl (hl281 _ (Chg.refl _ _))) ?_
   refine pl_val (.int .i64 (x278.2.length : Int)) (y_len' Sl22 (rs_len hv281) rfl) ?_
   refine pl_val (.bool (decide (s268.2 < (x278.2.length : Int)))) (y_lss rfl rfl) ?_
   refine c_nil ?_
   rcases bif_some hs with ⟨hc283, hs⟩ | ⟨hc283, hs⟩
   ·skip
    refine c_condT (congrArg Value.bool hc283) ?_
    refine wp_skip ?_
    refine c_seq ?_
    refine wp_block ?_
    refine c_seq ?_
    refine x_start [] Mx rfl ?_
    have hCw291 := Chg.drew w269
    generalize World.drew w269 = w291 at hCw291 ⊢
    have h0 := h0.ext hCw291
    have h1 := h1.ext hCw291
    have hb3 := hb3.chg hCw291 (fun h => nomatch h)
    have hv274 := hv274.ext hCw291
    have hC := hC.ext hCw291
    have hO := hO.ext hCw291
    have hS := Chg.refl [] w291
    refine x_p 0 (.pointer (some ⟨g3, 0, none⟩)) rfl (by kernel_rfl)  (fun _ => y_faddr rfl Fa35x0) (fun _ => hS) ?_
    refine x_l 1 (.int .i64 a_.1) rfl (by kernel_rfl)  (fun w' hw' => y_load rfl ((box_load Ag3 Sz3 hb3 [] [(.int .i64 a_.1)] [(.slice pa0 pn0 pc0)] rfl rfl (fun _ => rfl)) w' hw')) hS ?_
    refine x_p 2 (.pointer (some ⟨g3, 1, none⟩)) rfl (by kernel_rfl)  (fun _ => y_faddr rfl Fa35x1) (fun _ => hS) ?_
    refine x_l 3 (.slice pa0 pn0 pc0) rfl (by kernel_rfl)  (fun w' hw' => y_load rfl ((box_load Ag33 Sz33 hb3 [(.int .i64 a_.1)] [(.slice pa0 pn0 pc0)] [] rfl rfl (fun _ => rfl)) w' hw')) hS ?_
    refine x_p 4 (.int .i64 k180) rfl (by kernel_rfl)  (fun _ => y_move rfl) (fun _ => hS) ?_
    obtain ⟨x292, hx292, hs⟩ := bind_some hs
    obtain ⟨b293, o293, hp293, ha293⟩ := rs_idx Sl33 Sz81 h0 hx292
    refine x_p 5 (.pointer (some ⟨b293, o293, none⟩)) rfl (by kernel_rfl)  (fun _ => hp293 _ _ _ _ _ _ _ _ _ rfl rfl) (fun _ => hS) ?_
    obtain ⟨hq294, _⟩ := pr_at ha293
    refine x_p 6 (.pointer (some ⟨b293, o293 + 0, none⟩)) rfl (by kernel_rfl)  (fun _ => y_faddr rfl Fa81x0) (fun _ => hS) ?_
    refine x_l 7 (.int .i64 x292.1) rfl (by kernel_rfl)  (fun w' hw' => y_load rfl ((at_load_int Ag3 Sz3 hq294) w' hw')) hS ?_
    refine x_p 8 (.int .i64 s268.2) rfl (by kernel_rfl)  (fun _ => y_move rfl) (fun _ => hS) ?_
    refine x_one (i := 9) (by kernel_rfl) ?_
    obtain ⟨r296, hr296, hs⟩ := bind_some hs
    refine xk_call (b := false) rfl  Bd114 rfl (c_spec_l2Args (M := M) a_.1 x292.1 s268.2  hO.fut hr296) rfl (by rintro _ _ _ ⟨a295x0, n295x0, c295x0, f295x0, rfl, hC295, hv295x0, hOc295⟩; exact hS.ext hC295) ?_
    rintro _ w295 ⟨a295x0, n295x0, c295x0, f295x0, rfl, hC295, hv295x0, hOc295⟩
    have h0 := h0.ext hC295
    have h1 := h1.ext hC295
    have hb3 := hb3.chg hC295 (fun h => nomatch h)
    have hv274 := hv274.ext hC295
    have hC := hC.ext hC295
    have hO := Own.join0 hO hC295 hOc295
    have hO := hO.perm (R := f295x0 ++ (f274 ++ (([g3]) ++ ([])))) (by simp)
    have hS := hS.ext hC295
    refine x_p 10 (.slice a295x0 n295x0 c295x0) rfl (by kernel_rfl)  (fun _ => y_assign rfl) (fun _ => hS) ?_
    refine x_end (by kernel_rfl) ?_
    clear hS
    refine c_seq (c_region ?_)
    refine pl_val (.int .i64 0) (y_assign rfl) ?_
    refine c_nil ?_
    obtain ⟨o327, hl328, hs⟩ := bind_some hs
    refine wp_block ?_
    refine wp_forC (id := 4) (r296.length : Int) (I := fun k325 s323 a w324 => ∃ (σ : Nat → Value) (a329 : Option Addr) (n329 : Nat) (c329 : Nat) (f329 : List Nat), a = fr 75 (ovl σ [(1, (.slice pa1 pn1 pc1)), (2, (.pointer (some ⟨g3, 0, none⟩))), (5, (.slice a329 n329 c329)), (6, (.int .i64 k180)), (7, (.int .i64 s268.2)), (8, (.slice a295x0 n295x0 c295x0)), (9, (.int .i64 k325))]) ∧ Chg [] w w324 ∧ Own (Nw w []) M w324 (f329 ++ (f295x0 ++ (([g3]) ++ []))) ∧ (RT.rs (RT.pr (RT.int .i64) (RT.rs (RT.int .i64)))).val M w324 (.slice pa0 pn0 pc0) a_.2 ([]) ∧ (RT.rs (RT.int .i64)).val M w324 (.slice pa1 pn1 pc1) p ([]) ∧ BoxV w324 g3 35 [(.int .i64 a_.1), (.slice pa0 pn0 pc0)] ∧ (RT.os 3 (RT.int .i64)).val M w324 (.slice a295x0 n295x0 c295x0) r296 f295x0 ∧ (RT.os 3 (RT.int .i64)).val M w324 (.slice a329 n329 c329) s323 f329) (J := fun s323 a w324 => ∃ (σ : Nat → Value) (a331 : Option Addr) (n331 : Nat) (c331 : Nat) (f331 : List Nat), a = fr 75 (ovl σ [(1, (.slice pa1 pn1 pc1)), (2, (.pointer (some ⟨g3, 0, none⟩))), (5, (.slice a331 n331 c331)), (6, (.int .i64 k180)), (7, (.int .i64 s268.2))]) ∧ Chg [] w w324 ∧ Own (Nw w []) M w324 (f331 ++ (f295x0 ++ (([g3]) ++ []))) ∧ (RT.rs (RT.pr (RT.int .i64) (RT.rs (RT.int .i64)))).val M w324 (.slice pa0 pn0 pc0) a_.2 ([]) ∧ (RT.rs (RT.int .i64)).val M w324 (.slice pa1 pn1 pc1) p ([]) ∧ BoxV w324 g3 35 [(.int .i64 a_.1), (.slice pa0 pn0 pc0)] ∧ (RT.os 3 (RT.int .i64)).val M w324 (.slice a295x0 n295x0 c295x0) r296 f295x0 ∧ (RT.os 3 (RT.int .i64)).val M w324 (.slice a331 n331 c331) s323 f331) (K := (k_spec_l6Push M w)) ?_ ?_ 0 s268.1 o327 _ _ ?_ hl328 ?_
    ·rintro k325 s323 a w324 ⟨σ, a329, n329, c329, f329, rfl, hC, hO, h0, h1, hb3, hv295x0, hv329⟩ hlt
     refine c_seq ?_
     refine c_seq (c_region ?_)
     refine pl_val (.int .i64 k325) (y_move rfl) ?_
     refine pl_val (.slice a295x0 n295x0 c295x0) (y_move rfl) ?_
     refine pl_val (.int .i64 (r296.length : Int)) (y_len' Sl22 (os_len hv295x0) rfl) ?_
     refine pl_val (.bool (decide (k325 < (r296.length : Int)))) (y_lss rfl rfl) ?_
     refine c_nil ?_
     refine c_condF (congrArg Value.bool (decide_eq_false hlt)) ?_
     refine wp_exit ?_
     have hO := hO.fr2
     have hO := hO.fr2
     have hO := hO.fr2
     exact ⟨rfl, _, a329, n329, c329, f329, fr_ovl 75 ⟨rfl, rfl, rfl, rfl, rfl, trivial⟩, hC, hO, h0, h1, hb3, hv295x0, hv329⟩
    ·rintro k325 s323 o327 a w324 ⟨σ, a329, n329, c329, f329, rfl, hC, hO, h0, h1, hb3, hv295x0, hv329⟩ hlt hw hs
     refine c_seq ?_
     refine c_seq (c_region ?_)
     refine pl_val (.int .i64 k325) (y_move rfl) ?_
     refine pl_val (.slice a295x0 n295x0 c295x0) (y_move rfl) ?_
     refine pl_val (.int .i64 (r296.length : Int)) (y_len' Sl22 (os_len hv295x0) rfl) ?_
     refine pl_val (.bool (decide (k325 < (r296.length : Int)))) (y_lss rfl rfl) ?_
     refine c_nil ?_
     refine c_condT (congrArg Value.bool (decide_eq_true hlt)) ?_
     refine wp_skip ?_
     refine c_seq ?_
     refine wp_block ?_
     refine c_seq (c_region ?_)
     refine pl_val (.slice a295x0 n295x0 c295x0) (y_move rfl) ?_
     have hO := hO.fr1
     obtain ⟨r334, hr334, hs⟩ := bind_some hs
     refine pl_call Bd100 rfl (c_spec_l1Own (M := (Less M f295x0)) r296 (((Frz.os Frz.int)).val hv295x0 Less.sub Less.not) hO.less.fut hr334) ?_
     rintro _ w333 ⟨a333x0, n333x0, c333x0, f333x0, rfl, hC333, hv333x0, hOc333⟩
     have h0 := h0.ext hC333
     have h1 := h1.ext hC333
     have hb3 := hb3.chg hC333 (fun h => nomatch h)
     have hv295x0 := hv295x0.ext hC333
     have hv329 := hv329.ext hC333
     have hC := hC.ext hC333
     have hO := Own.join0 hO hC333 hOc333
     have hO := hO.perm (R := f333x0 ++ (f295x0 ++ (f329 ++ (([g3]) ++ ([]))))) (by simp)
     have hv333x0 := hv333x0.free (M' := M) (Free.os Free.int)
     refine pl_val (.slice a333x0 n333x0 c333x0) (y_assign rfl) ?_
     refine c_nil ?_
     refine c_seq (c_region ?_)
     refine pl_val (.slice a333x0 n333x0 c333x0) (y_move rfl) ?_
     refine pl_val (.int .i64 k325) (y_move rfl) ?_
     refine pl_val (.slice pa1 pn1 pc1) (y_move rfl) ?_
     refine pl_val (.slice a295x0 n295x0 c295x0) (y_move rfl) ?_
     refine pl_val (.int .i64 k325) (y_move rfl) ?_
     obtain ⟨x336, hx336, hs⟩ := bind_some hs
     obtain ⟨g337, f337, hg337, hk337, hp337, ha337, hf337⟩ := os_idx Sl22 Sz3 hv295x0 hx336
     refine pl_val (.pointer (some ⟨g337, 0 + Int.toNat k325 * 1, none⟩)) (hp337 _ _ _ _ _ _ _ _ _ rfl rfl) ?_
     refine pl_val (.int .i64 x336) (y_load rfl ((at_load_int Ag3 Sz3 ha337) _ (Chg.refl _ _))) ?_
     obtain ⟨x338, hx338, hs⟩ := bind_some hs
     obtain ⟨b339, o339, hp339, ha339⟩ := rs_idx Sl22 Sz3 h1 hx338
     refine pl_val (.pointer (some ⟨b339, o339, none⟩)) (hp339 _ _ _ _ _ _ _ _ _ rfl rfl) ?_
     refine pl_val (.int .i64 x338) (y_load rfl ((at_load_int Ag3 Sz3 ha339) _ (Chg.refl _ _))) ?_
     obtain ⟨x340, hx340, hs⟩ := bind_some hs
     obtain ⟨g341, f341, hg341, hk341, hp341, ha341, hf341⟩ := os_idx Sl22 Sz3 hv333x0 hx340
     refine pl_val (.pointer (some ⟨g341, 0 + Int.toNat k325 * 1, none⟩)) (hp341 _ _ _ _ _ _ _ _ _ rfl rfl) ?_
     obtain ⟨w342, f342, hst342, hC342, hf342, hv342⟩ := os_store (P := Try.prog) (c' := [(.int .i64 x338)]) hg341 hv333x0 hk341 (fun g hg => hO.inM g (os_block hv333x0 g (by simpa using hg))) ⟨rfl, rfl⟩ List.nodup_nil (fun _ h => nomatch h) (fun _ h => .inl h)
     have hG342 : ∀ q ∈ [g341], q ∈ f333x0 := fun q hq => os_block hv333x0 q (by rw [hg341]; exact hq)
     refine pl_skip (w' := w342) (ys_store rfl rfl (hst342 _ _ rfl Sz3)) ?_
     have h0 := h0.mut hC342 (fun g hg => hO.inM g (hG342 g hg)) (fun _ _ h => nomatch h)
     have h1 := h1.mut hC342 (fun g hg => hO.inM g (hG342 g hg)) (fun _ _ h => nomatch h)
     have hb3 := hb3.chg hC342 (fun hg => hO.apart _ (hG342 _ hg) (mem_r (mem_r (mem_l (List.mem_singleton.2 rfl)))))
     have hv295x0 := hv295x0.mut hC342 (fun g hg => hO.inM g (hG342 g hg)) (fun g hg e => hO.apart g (hG342 g hg) (mem_l (e)))
     have hv329 := hv329.mut hC342 (fun g hg => hO.inM g (hG342 g hg)) (fun g hg e => hO.apart g (hG342 g hg) (mem_r (mem_l (e))))
     have hC := hC.step hC342 (fun g hg => hO.inN g (hG342 g hg))
     have hO := hO.grow hC342 (fun q hq => .inl ((hf342 q hq).resolve_right (fun h => nomatch h))) (os_nodup hv342) hv342.fpl
     refine c_nil ?_
     refine x_start [] Mx rfl ?_
     have hCw343 := Chg.drew w342
     generalize World.drew w342 = w343 at hCw343 ⊢
     have h0 := h0.ext hCw343
     have h1 := h1.ext hCw343
     have hb3 := hb3.chg hCw343 (fun h => nomatch h)
     have hv295x0 := hv295x0.ext hCw343
     have hv329 := hv329.ext hCw343
     have hv342 := hv342.ext hCw343
     have hC := hC.ext hCw343
     have hO := hO.ext hCw343
     have hS := Chg.refl [] w343
     refine x_p 0 (.slice a329 n329 c329) rfl (by kernel_rfl)  (fun _ => y_move rfl) (fun _ => hS) ?_
     refine x_p 1 (.pointer (some ⟨g3, 1, none⟩)) rfl (by kernel_rfl)  (fun _ => y_faddr rfl Fa35x1) (fun _ => hS) ?_
     refine x_l 2 (.slice pa0 pn0 pc0) rfl (by kernel_rfl)  (fun w' hw' => y_load rfl ((box_load Ag33 Sz33 hb3 [(.int .i64 a_.1)] [(.slice pa0 pn0 pc0)] [] rfl rfl (fun _ => rfl)) w' hw')) hS ?_
     refine x_p 3 (.int .i64 k180) rfl (by kernel_rfl)  (fun _ => y_move rfl) (fun _ => hS) ?_
     obtain ⟨x344, hx344, hs⟩ := bind_some hs
     obtain ⟨b345, o345, hp345, ha345⟩ := rs_idx Sl33 Sz81 h0 hx344
     refine x_p 4 (.pointer (some ⟨b345, o345, none⟩)) rfl (by kernel_rfl)  (fun _ => hp345 _ _ _ _ _ _ _ _ _ rfl rfl) (fun _ => hS) ?_
     obtain ⟨_, hq346x0⟩ := pr_at ha345
     refine x_p 5 (.pointer (some ⟨b345, o345 + 1, none⟩)) rfl (by kernel_rfl)  (fun _ => y_faddr rfl Fa81x1) (fun _ => hS) ?_
     obtain ⟨v347, hl347, hv347⟩ := at_load Ag22 Sz22 (fun _ => rfl) hq346x0
     obtain ⟨a347, n347, c347, rfl⟩ := rs_sl hv347
     refine x_l 6 (.slice a347 n347 c347) rfl (by kernel_rfl)  (fun w' hw' => y_load rfl (hl347 w' hw')) hS ?_
     refine x_p 7 (.int .i64 s268.2) rfl (by kernel_rfl)  (fun _ => y_move rfl) (fun _ => hS) ?_
     obtain ⟨x349, hx349, hs⟩ := bind_some hs
     obtain ⟨b350, o350, hp350, ha350⟩ := rs_idx Sl22 Sz3 hv347 hx349
     refine x_p 8 (.pointer (some ⟨b350, o350, none⟩)) rfl (by kernel_rfl)  (fun _ => hp350 _ _ _ _ _ _ _ _ _ rfl rfl) (fun _ => hS) ?_
     refine x_l 9 (.int .i64 x349) rfl (by kernel_rfl)  (fun w' hw' => y_load rfl ((at_load_int Ag3 Sz3 ha350) w' hw')) hS ?_
     refine x_l 10 (.agg #[(.int .i64 a_.1), (.slice pa0 pn0 pc0)]) rfl (by kernel_rfl)  (fun w' hw' => y_load rfl ((box_load Ag35 Sz35 hb3 [] [(.int .i64 a_.1), (.slice pa0 pn0 pc0)] [] rfl rfl (fun h => nomatch h)) w' hw')) hS ?_
     refine x_p 11 (.int .i64 k180) rfl (by kernel_rfl)  (fun _ => y_move rfl) (fun _ => hS) ?_
     refine x_p 12 (.slice a333x0 n333x0 c333x0) rfl (by kernel_rfl)  (fun _ => y_move rfl) (fun _ => hS) ?_
     refine x_one (i := 13) (by kernel_rfl) ?_
     obtain ⟨r352, hr352, hs⟩ := bind_some hs
     refine xk_call (b := false) rfl  Bd115 rfl (c_spec_l2Value (M := (Less M f342)) (a_.1, a_.2) k180 (List.set r334 (Int.toNat k325) x338) (h0.sub Less.sub) (((Frz.os Frz.int)).val hv342 Less.sub Less.not) hO.less.fut hr352) rfl (by rintro _ _ _ ⟨rfl, hC351⟩; exact hS.ext hC351) ?_
     rintro _ w351 ⟨rfl, hC351⟩
     have h0 := h0.ext hC351
     have h1 := h1.ext hC351
     have hb3 := hb3.chg hC351 (fun h => nomatch h)
     have hv295x0 := hv295x0.ext hC351
     have hv329 := hv329.ext hC351
     have hv342 := hv342.ext hC351
     have hv347 := hv347.ext hC351
     have hC := hC.ext hC351
     have hO := hO.ext hC351
     have hS := hS.ext hC351
     refine x_one (i := 14) (by kernel_rfl) ?_
     have hO := hO.fr2
     obtain ⟨r354, hr354, hs⟩ := bind_some hs
     refine xk_call (b := false) rfl  Bd101 rfl (c_spec_l6Unite (M := (Less M f329)) s323 x349 r352 (((Frz.os Frz.int)).val hv329 Less.sub Less.not) hO.less.fut hr354) rfl (by rintro _ _ _ ⟨a353x0, n353x0, c353x0, f353x0, rfl, hC353, hv353x0, hOc353⟩; exact hS.ext hC353) ?_
     rintro _ w353 ⟨a353x0, n353x0, c353x0, f353x0, rfl, hC353, hv353x0, hOc353⟩
     have h0 := h0.ext hC353
     have h1 := h1.ext hC353
     have hb3 := hb3.chg hC353 (fun h => nomatch h)
     have hv295x0 := hv295x0.ext hC353
     have hv329 := hv329.ext hC353
     have hv342 := hv342.ext hC353
     have hv347 := hv347.ext hC353
     have hC := hC.ext hC353
     have hO := Own.join0 hO hC353 hOc353
     have hO := hO.perm (R := f353x0 ++ (f329 ++ (f342 ++ (f295x0 ++ (([g3]) ++ ([])))))) (by simp)
     have hv353x0 := hv353x0.free (M' := M) (Free.os Free.int)
     have hS := hS.ext hC353
     refine x_p 15 (.slice a353x0 n353x0 c353x0) rfl (by kernel_rfl)  (fun _ => y_assign rfl) (fun _ => hS) ?_
     refine x_end (by kernel_rfl) ?_
     clear hS
     refine c_region ?_
     refine pl_val (.int .i64 k325) (y_move rfl) ?_
     refine pl_val (.int .i64 (w64 (k325 + 1))) (y_add rfl rfl) ?_
     refine pl_val (.int .i64 (w64 (k325 + 1))) (y_assign rfl) ?_
     refine c_nil ?_
     cases hs
     have hO := hO.fr1
     have hO := hO.drop
     have hO := hO.fr1
     have hO := hO.drop
     have hO := hO.fr2
     have hO := hO.fr2
     have hO := hO.fr2
     exact ⟨_, a353x0, n353x0, c353x0, f353x0, fr_ovl 75 ⟨rfl, rfl, rfl, rfl, rfl, rfl, congrArg (Value.int .i64) hw, trivial⟩, hC, hO, h0, h1, hb3, hv295x0, hv353x0⟩
    ·skip
     have hO := hO.fr2
     have hO := hO.fr1
     have hO := hO.fr2
     exact ⟨_, a274, n274, c274, f274, fr_ovl 75 ⟨rfl, rfl, rfl, rfl, rfl, rfl, rfl, trivial⟩, hC, hO, h0, h1, hb3, hv295x0, hv274⟩
    ·cases o327 with
     | nx _ => exact True.intro
     | rt r_ =>
      have hs := after_rt hs
      intro a1 w1 hK
      cases hs
      exact hK
     | br s323 =>
      have hs := after_br hs
      rintro a1 w324 ⟨σ, a331, n331, c331, f331, rfl, hC, hO, h0, h1, hb3, hv295x0, hv331⟩
      refine c_region ?_
      refine pl_val (.int .i64 s268.2) (y_move rfl) ?_
      refine pl_val (.int .i64 (w64 (s268.2 + 1))) (y_add rfl rfl) ?_
      refine pl_val (.int .i64 (w64 (s268.2 + 1))) (y_assign rfl) ?_
      refine c_nil ?_
      cases hs
      have hO := hO.fr1
      have hO := hO.drop
      have hO := hO.fr1
      have hO := hO.fr1
      exact ⟨_, a331, n331, c331, f331, fr_ovl 75 ⟨rfl, rfl, rfl, rfl, rfl, trivial⟩, hC, hO, h0, h1, hb3, hv331⟩
   ·skip
    refine c_condF (congrArg Value.bool hc283) ?_
    refine wp_exit ?_
    cases hs
    have hO := hO.fr1
    have hO := hO.fr1
    exact ⟨rfl, _, a274, n274, c274, f274, fr_ovl 75 ⟨rfl, rfl, rfl, rfl, trivial⟩, hC, hO, h0, h1, hb3, hv274⟩
  ·skip
   have hO := hO.fr1
   have hO := hO.fr1
   exact ⟨_, a184, n184, c184, f184, fr_ovl 75 ⟨rfl, rfl, rfl, rfl, rfl, trivial⟩, hC, hO, h0, h1, hb3, hv184⟩
  ·cases o272 with
   | nx _ => exact True.intro
   | rt r_ =>
    have hs := after_rt hs
    intro a1 w1 hK
    cases hs
    exact hK
   | br s268 =>
    have hs := after_br hs
    rintro a1 w269 ⟨σ, a276, n276, c276, f276, rfl, hC, hO, h0, h1, hb3, hv276⟩
    refine c_region ?_
    refine pl_val (.int .i64 k180) (y_move rfl) ?_
    refine pl_val (.int .i64 (w64 (k180 + 1))) (y_add rfl rfl) ?_
    refine pl_val (.int .i64 (w64 (k180 + 1))) (y_assign rfl) ?_
    refine c_nil ?_
    cases hs
    have hO := hO.fr1
    have hO := hO.fr1
    exact ⟨_, a276, n276, c276, f276, fr_ovl 75 ⟨rfl, rfl, rfl, congrArg (Value.int .i64) hw, trivial⟩, hC, hO, h0, h1, hb3, hv276⟩
 ·skip
  have hO := hO.fr1
  have hO := hO.fr1
  exact ⟨_, a4x0, n4x0, c4x0, f4x0, fr_ovl 75 ⟨rfl, rfl, rfl, rfl, trivial⟩, hC, hO, h0, h1, hb3, hv4x0⟩
 ·cases o182 with
  | nx _ => exact True.intro
  | rt r_ =>
   have hs := after_rt hs
   intro a1 w1 hK
   cases hs
   exact hK
  | br s178 =>
   have hs := after_br hs
   rintro a1 w179 ⟨σ, a186, n186, c186, f186, rfl, hC, hO, h0, h1, hb3, hv186⟩
   refine c_seq (c_region ?_)
   refine pl_val (.slice a186 n186 c186) (y_move rfl) ?_
   refine pl_val (.slice a186 n186 c186) (y_assign rfl) ?_
   refine c_nil ?_
   refine wp_ret ?_
   cases hs
   have hO := hO.fr1
   have hO := hO.drop
   exact ⟨_, a186, n186, c186, f186, fr_ovl 75 ⟨rfl, trivial⟩, hC, hv186, hO.top⟩

theorem Bd94 : Bodied Try.prog 94 := bodied Try.func94 (by kernel_rfl) rfl

def k_spec_l6Close (M : Nat → Prop) (w0 : World) (r : (List Int)) (a : Act) (w : World) : Prop :=
  ∃ (σ : Nat → Value) (ra0 : Option Addr) (rn0 rc0 : Nat), a = fr 16 (ovl σ [(4, (.slice ra0 rn0 rc0))]) ∧ Chg [] w0 w ∧ (RT.rs (RT.int .i64)).val (Past M w0 w) w (.slice ra0 rn0 rc0) r []
def s_spec_l6Close (a_ : Int × (List (Int × (List Int)))) (p : List Int) : Option ((List Int)) :=
  (forC (S := (List Int)) (R := (List Int)) (fun k17 s15 =>
  (s_spec_l6Push (a_.1, a_.2) s15).bind fun r28 =>
  some (.nx r28)) 0 a_.1 p).bind fun o19 => after o19 (fun r_ => some r_) (fun s15 =>
  some s15)
set_option maxHeartbeats 4000000 in
theorem c_spec_l6Close {M : Nat → Prop} {w : World} {pa0 : Option Addr} {pn0 pc0 : Nat} {pa1 : Option Addr} {pn1 pc1 : Nat} (a_ : Int × (List (Int × (List Int)))) (p : List Int) (h0 : (RT.rs (RT.pr (RT.int .i64) (RT.rs (RT.int .i64)))).val M w (.slice pa0 pn0 pc0) a_.2 ([])) (h1 : (RT.rs (RT.int .i64)).val M w (.slice pa1 pn1 pc1) p ([])) (hM : ∀ g, w.heap.size ≤ g → M g) {r : (List Int)} (hs : s_spec_l6Close a_ p = some r) :
    Gives Try.prog 123 [(.agg #[(.int .i64 a_.1), (.slice pa0 pn0 pc0)]), (.slice pa1 pn1 pc1)] w (fun v w' => ∃ (ra0 : Option Addr) (rn0 rc0 : Nat), v = (.slice ra0 rn0 rc0) ∧ Chg [] w w' ∧ (RT.rs (RT.int .i64)).val (Past M w w') w' (.slice ra0 rn0 rc0) r []) := by
 refine calls_fr Try.func123 rfl Try.ntmps123 (Nat.le_of_ble_eq_true rfl) ?_
 have hO := Own.start (N := Nw w []) hM Nw.fut
 have hC := Chg.refl [] w
 unfold s_spec_l6Close at hs
 refine wp_mono (Q := KPost (k_spec_l6Close M w r)) ?_ (fun e a w1 h => ?_)
 rotate_left
 ·cases e
  case ret =>
   obtain ⟨σ, ra0, rn0, rc0, rfl, hrest⟩ := h
   exact ret1x Try.results123 (res_tmp rfl) ⟨ra0, rn0, rc0, rfl, hrest⟩
  all_goals exact (h : False).elim
 refine c_seq (c_region ?_)
 obtain ⟨w3, g3, ew3, eg3, hC3, hb3⟩ := new_block w [(.int .i64 a_.1), (.slice pa0 pn0 pc0)] 35
 refine pl_val (w' := w3) (.pointer (some ⟨g3, 0, none⟩)) (y_box rfl (by rw [ew3, eg3]; kernel_rfl)) ?_
 have h0 := h0.ext hC3
 have h1 := h1.ext hC3
 have hC := hC.ext hC3
 have hO := hO.new1 hC3 eg3 hb3.lt
 refine pl_val (.slice none 0 0) (y_assign rfl) ?_
 refine c_nil ?_
 refine c_seq ?_
 refine c_seq (c_region ?_)
 refine pl_val (.int .i64 0) (y_assign rfl) ?_
 refine c_nil ?_
 obtain ⟨o19, hl20, hs⟩ := bind_some hs
 refine wp_block ?_
 refine wp_forC (id := 0) a_.1 (I := fun k17 s15 a w16 => ∃ (σ : Nat → Value) (M21 : Nat → Prop) (a22 : Option Addr) (n22 : Nat) (c22 : Nat), a = fr 16 (ovl σ [(1, (.slice a22 n22 c22)), (2, (.pointer (some ⟨g3, 0, none⟩))), (5, (.int .i64 k17))]) ∧ Chg [] w w16 ∧ Own (Nw w []) M21 w16 (([g3]) ++ []) ∧ Keeps w M M21 ∧ (RT.rs (RT.pr (RT.int .i64) (RT.rs (RT.int .i64)))).val M21 w16 (.slice pa0 pn0 pc0) a_.2 ([]) ∧ BoxV w16 g3 35 [(.int .i64 a_.1), (.slice pa0 pn0 pc0)] ∧ (RT.rs (RT.int .i64)).val M21 w16 (.slice a22 n22 c22) s15 ([])) (J := fun s15 a w16 => ∃ (σ : Nat → Value) (M24 : Nat → Prop) (a25 : Option Addr) (n25 : Nat) (c25 : Nat), a = fr 16 (ovl σ [(1, (.slice a25 n25 c25))]) ∧ Chg [] w w16 ∧ Own (Nw w []) M24 w16 (([g3]) ++ []) ∧ Keeps w M M24 ∧ (RT.rs (RT.pr (RT.int .i64) (RT.rs (RT.int .i64)))).val M24 w16 (.slice pa0 pn0 pc0) a_.2 ([]) ∧ BoxV w16 g3 35 [(.int .i64 a_.1), (.slice pa0 pn0 pc0)] ∧ (RT.rs (RT.int .i64)).val M24 w16 (.slice a25 n25 c25) s15 ([])) (K := (k_spec_l6Close M w)) ?_ ?_ 0 p o19 _ _ ?_ hl20 ?_
 ·rintro k17 s15 a w16 ⟨σ, M21, a22, n22, c22, rfl, hC, hO, hK, h0, hb3, hv22⟩ hlt
  refine c_seq ?_
  refine c_seq (c_region ?_)
  refine pl_val (.int .i64 k17) (y_move rfl) ?_
  refine pl_val (.pointer (some ⟨g3, 0, none⟩)) (y_faddr rfl Fa35x0) ?_
  refine pl_val (.int .i64 a_.1) (y_load rfl ((box_load Ag3 Sz3 hb3 [] [(.int .i64 a_.1)] [(.slice pa0 pn0 pc0)] rfl rfl (fun _ => rfl)) _ (Chg.refl _ _))) ?_
  refine pl_val (.bool (decide (k17 < a_.1))) (y_lss rfl rfl) ?_
  refine c_nil ?_
  refine c_condF (congrArg Value.bool (decide_eq_false hlt)) ?_
  refine wp_exit ?_
  exact ⟨rfl, _, M21, a22, n22, c22, fr_ovl 16 ⟨rfl, trivial⟩, hC, hO, hK, h0, hb3, hv22⟩
 ·rintro k17 s15 o19 a w16 ⟨σ, M21, a22, n22, c22, rfl, hC, hO, hK, h0, hb3, hv22⟩ hlt hw hs
  refine c_seq ?_
  refine c_seq (c_region ?_)
  refine pl_val (.int .i64 k17) (y_move rfl) ?_
  refine pl_val (.pointer (some ⟨g3, 0, none⟩)) (y_faddr rfl Fa35x0) ?_
  refine pl_val (.int .i64 a_.1) (y_load rfl ((box_load Ag3 Sz3 hb3 [] [(.int .i64 a_.1)] [(.slice pa0 pn0 pc0)] rfl rfl (fun _ => rfl)) _ (Chg.refl _ _))) ?_
  refine pl_val (.bool (decide (k17 < a_.1))) (y_lss rfl rfl) ?_
  refine c_nil ?_
  refine c_condT (congrArg Value.bool (decide_eq_true hlt)) ?_
  refine wp_skip ?_
  refine c_seq ?_
  refine wp_block ?_
  refine c_region ?_
  refine pl_val (.agg #[(.int .i64 a_.1), (.slice pa0 pn0 pc0)]) (y_load rfl ((box_load Ag35 Sz35 hb3 [] [(.int .i64 a_.1), (.slice pa0 pn0 pc0)] [] rfl rfl (fun h => nomatch h)) _ (Chg.refl _ _))) ?_
  refine pl_val (.slice a22 n22 c22) (y_move rfl) ?_
  obtain ⟨r28, hr28, hs⟩ := bind_some hs
  refine pl_call Bd94 rfl (c_spec_l6Push (M := M21) (a_.1, a_.2) s15 h0 hv22 hO.fut hr28) ?_
  rintro _ w27 ⟨a27x0, n27x0, c27x0, f27x0, rfl, hC27, hv27x0, hOc27⟩
  have h0 := h0.ext hC27
  have hb3 := hb3.chg hC27 (fun h => nomatch h)
  have hv22 := hv22.ext hC27
  have hC := hC.ext hC27
  have hO := Own.join0 hO hC27 hOc27
  have hO := hO.perm (R := f27x0 ++ (([g3]) ++ ([]))) (by simp)
  refine pl_val (.slice a27x0 n27x0 c27x0) (y_assign rfl) ?_
  refine c_nil ?_
  refine c_region ?_
  refine pl_val (.int .i64 k17) (y_move rfl) ?_
  refine pl_val (.int .i64 (w64 (k17 + 1))) (y_add rfl rfl) ?_
  refine pl_val (.int .i64 (w64 (k17 + 1))) (y_assign rfl) ?_
  refine c_nil ?_
  cases hs
  obtain ⟨M30, eM30, hs30, hk30, hO, hv30⟩ := frz_own (Frz.os Frz.int) hv27x0 hO
  have h0 := h0.sub (M' := M30) hs30
  have hK := hK.trans hk30
  exact ⟨_, M30, a27x0, n27x0, c27x0, fr_ovl 16 ⟨rfl, rfl, congrArg (Value.int .i64) hw, trivial⟩, hC, hO, hK, h0, hb3, hv30⟩
 ·skip
  exact ⟨_, M, pa1, pn1, pc1, fr_ovl 16 ⟨rfl, rfl, rfl, trivial⟩, hC, hO, Keeps.refl, h0, hb3, h1⟩
 ·cases o19 with
  | nx _ => exact True.intro
  | rt r_ =>
   have hs := after_rt hs
   intro a1 w1 hK
   cases hs
   exact hK
  | br s15 =>
   have hs := after_br hs
   rintro a1 w16 ⟨σ, M24, a25, n25, c25, rfl, hC, hO, hK, h0, hb3, hv25⟩
   refine c_seq (c_region ?_)
   refine pl_val (.slice a25 n25 c25) (y_move rfl) ?_
   refine pl_val (.slice a25 n25 c25) (y_assign rfl) ?_
   refine c_nil ?_
   refine wp_ret ?_
   cases hs
   exact ⟨_, a25, n25, c25, fr_ovl 16 ⟨rfl, trivial⟩, hC, (Keeps.out hK hv25)⟩

theorem Bd95 : Bodied Try.prog 95 := bodied Try.func95 (by kernel_rfl) rfl

def k_spec_l6Close__take1 (M : Nat → Prop) (w0 : World) (qa0 : Option Addr) (qn0 qc0 : Nat) (qf0 : List Nat) (r : (List Int)) (a : Act) (w : World) : Prop :=
  ∃ (σ : Nat → Value) (ra0 : Option Addr) (rn0 rc0 : Nat) (rf0 : List Nat), a = fr 16 (ovl σ [(4, (.slice ra0 rn0 rc0))]) ∧ Chg (qf0 ++ ([])) w0 w ∧ (RT.os 3 (RT.int .i64)).val M w (.slice ra0 rn0 rc0) r rf0 ∧ Own (Nw w0 (qf0 ++ ([]))) (fun _ => True) w (rf0 ++ ([]))
def s_spec_l6Close__take1 (a_ : Int × (List (Int × (List Int)))) (p : List Int) : Option ((List Int)) :=
  (forC (S := (List Int)) (R := (List Int)) (fun k11 s9 =>
  (s_spec_l6Push (a_.1, a_.2) s9).bind fun r20 =>
  some (.nx r20)) 0 a_.1 p).bind fun o13 => after o13 (fun r_ => some r_) (fun s9 =>
  some s9)
set_option maxHeartbeats 4000000 in
theorem c_spec_l6Close__take1 {M : Nat → Prop} {w : World} {pa0 : Option Addr} {pn0 pc0 : Nat} {pa1 : Option Addr} {pn1 pc1 : Nat} {pf1 : List Nat} (a_ : Int × (List (Int × (List Int)))) (p : List Int) (h0 : (RT.rs (RT.pr (RT.int .i64) (RT.rs (RT.int .i64)))).val M w (.slice pa0 pn0 pc0) a_.2 ([])) (h1 : (RT.os 3 (RT.int .i64)).val M w (.slice pa1 pn1 pc1) p pf1) (hI : Own (Nw w (pf1 ++ ([]))) M w (pf1 ++ ([]))) (hM : ∀ g, w.heap.size ≤ g → M g) {r : (List Int)} (hs : s_spec_l6Close__take1 a_ p = some r) :
    Gives Try.prog 123 [(.agg #[(.int .i64 a_.1), (.slice pa0 pn0 pc0)]), (.slice pa1 pn1 pc1)] w (fun v w' => ∃ (ra0 : Option Addr) (rn0 rc0 : Nat) (rf0 : List Nat), v = (.slice ra0 rn0 rc0) ∧ Chg (pf1 ++ ([])) w w' ∧ (RT.os 3 (RT.int .i64)).val M w' (.slice ra0 rn0 rc0) r rf0 ∧ Own (Nw w (pf1 ++ ([]))) (fun _ => True) w' (rf0 ++ ([]))) := by
 refine calls_fr Try.func123 rfl Try.ntmps123 (Nat.le_of_ble_eq_true rfl) ?_
 have hO := hI
 have hC := Chg.refl (pf1 ++ ([])) w
 unfold s_spec_l6Close__take1 at hs
 refine wp_mono (Q := KPost (k_spec_l6Close__take1 M w pa1 pn1 pc1 pf1 r)) ?_ (fun e a w1 h => ?_)
 rotate_left
 ·cases e
  case ret =>
   obtain ⟨σ, ra0, rn0, rc0, rf0, rfl, hrest⟩ := h
   exact ret1x Try.results123 (res_tmp rfl) ⟨ra0, rn0, rc0, rf0, rfl, hrest⟩
  all_goals exact (h : False).elim
 refine c_seq (c_region ?_)
 obtain ⟨w3, g3, ew3, eg3, hC3, hb3⟩ := new_block w [(.int .i64 a_.1), (.slice pa0 pn0 pc0)] 35
 refine pl_val (w' := w3) (.pointer (some ⟨g3, 0, none⟩)) (y_box rfl (by rw [ew3, eg3]; kernel_rfl)) ?_
 have h0 := h0.ext hC3
 have h1 := h1.ext hC3
 have hC := hC.ext hC3
 have hO := hO.new1 hC3 eg3 hb3.lt
 refine pl_val (.slice none 0 0) (y_assign rfl) ?_
 refine c_nil ?_
 refine c_seq ?_
 refine c_seq (c_region ?_)
 refine pl_val (.int .i64 0) (y_assign rfl) ?_
 refine c_nil ?_
 obtain ⟨o13, hl14, hs⟩ := bind_some hs
 refine wp_block ?_
 refine wp_forC (id := 0) a_.1 (I := fun k11 s9 a w10 => ∃ (σ : Nat → Value) (a15 : Option Addr) (n15 : Nat) (c15 : Nat) (f15 : List Nat), a = fr 16 (ovl σ [(1, (.slice a15 n15 c15)), (2, (.pointer (some ⟨g3, 0, none⟩))), (5, (.int .i64 k11))]) ∧ Chg (pf1 ++ ([])) w w10 ∧ Own (Nw w (pf1 ++ ([]))) M w10 (f15 ++ (([g3]) ++ [])) ∧ (RT.rs (RT.pr (RT.int .i64) (RT.rs (RT.int .i64)))).val M w10 (.slice pa0 pn0 pc0) a_.2 ([]) ∧ BoxV w10 g3 35 [(.int .i64 a_.1), (.slice pa0 pn0 pc0)] ∧ (RT.os 3 (RT.int .i64)).val M w10 (.slice a15 n15 c15) s9 f15) (J := fun s9 a w10 => ∃ (σ : Nat → Value) (a17 : Option Addr) (n17 : Nat) (c17 : Nat) (f17 : List Nat), a = fr 16 (ovl σ [(1, (.slice a17 n17 c17))]) ∧ Chg (pf1 ++ ([])) w w10 ∧ Own (Nw w (pf1 ++ ([]))) M w10 (f17 ++ (([g3]) ++ [])) ∧ (RT.rs (RT.pr (RT.int .i64) (RT.rs (RT.int .i64)))).val M w10 (.slice pa0 pn0 pc0) a_.2 ([]) ∧ BoxV w10 g3 35 [(.int .i64 a_.1), (.slice pa0 pn0 pc0)] ∧ (RT.os 3 (RT.int .i64)).val M w10 (.slice a17 n17 c17) s9 f17) (K := (k_spec_l6Close__take1 M w pa1 pn1 pc1 pf1)) ?_ ?_ 0 p o13 _ _ ?_ hl14 ?_
 ·rintro k11 s9 a w10 ⟨σ, a15, n15, c15, f15, rfl, hC, hO, h0, hb3, hv15⟩ hlt
  refine c_seq ?_
  refine c_seq (c_region ?_)
  refine pl_val (.int .i64 k11) (y_move rfl) ?_
  refine pl_val (.pointer (some ⟨g3, 0, none⟩)) (y_faddr rfl Fa35x0) ?_
  refine pl_val (.int .i64 a_.1) (y_load rfl ((box_load Ag3 Sz3 hb3 [] [(.int .i64 a_.1)] [(.slice pa0 pn0 pc0)] rfl rfl (fun _ => rfl)) _ (Chg.refl _ _))) ?_
  refine pl_val (.bool (decide (k11 < a_.1))) (y_lss rfl rfl) ?_
  refine c_nil ?_
  refine c_condF (congrArg Value.bool (decide_eq_false hlt)) ?_
  refine wp_exit ?_
  have hO := hO.fr1
  have hO := hO.fr1
  exact ⟨rfl, _, a15, n15, c15, f15, fr_ovl 16 ⟨rfl, trivial⟩, hC, hO, h0, hb3, hv15⟩
 ·rintro k11 s9 o13 a w10 ⟨σ, a15, n15, c15, f15, rfl, hC, hO, h0, hb3, hv15⟩ hlt hw hs
  refine c_seq ?_
  refine c_seq (c_region ?_)
  refine pl_val (.int .i64 k11) (y_move rfl) ?_
  refine pl_val (.pointer (some ⟨g3, 0, none⟩)) (y_faddr rfl Fa35x0) ?_
  refine pl_val (.int .i64 a_.1) (y_load rfl ((box_load Ag3 Sz3 hb3 [] [(.int .i64 a_.1)] [(.slice pa0 pn0 pc0)] rfl rfl (fun _ => rfl)) _ (Chg.refl _ _))) ?_
  refine pl_val (.bool (decide (k11 < a_.1))) (y_lss rfl rfl) ?_
  refine c_nil ?_
  refine c_condT (congrArg Value.bool (decide_eq_true hlt)) ?_
  refine wp_skip ?_
  refine c_seq ?_
  refine wp_block ?_
  refine c_region ?_
  refine pl_val (.agg #[(.int .i64 a_.1), (.slice pa0 pn0 pc0)]) (y_load rfl ((box_load Ag35 Sz35 hb3 [] [(.int .i64 a_.1), (.slice pa0 pn0 pc0)] [] rfl rfl (fun h => nomatch h)) _ (Chg.refl _ _))) ?_
  refine pl_val (.slice a15 n15 c15) (y_move rfl) ?_
  obtain ⟨r20, hr20, hs⟩ := bind_some hs
  refine pl_call Bd94 rfl (c_spec_l6Push (M := (Less M f15)) (a_.1, a_.2) s9 (h0.sub Less.sub) (((Frz.os Frz.int)).val hv15 Less.sub Less.not) hO.less.fut hr20) ?_
  rintro _ w19 ⟨a19x0, n19x0, c19x0, f19x0, rfl, hC19, hv19x0, hOc19⟩
  have h0 := h0.ext hC19
  have hb3 := hb3.chg hC19 (fun h => nomatch h)
  have hv15 := hv15.ext hC19
  have hC := hC.ext hC19
  have hO := Own.join0 hO hC19 hOc19
  have hO := hO.perm (R := f19x0 ++ (f15 ++ (([g3]) ++ ([])))) (by simp)
  have hv19x0 := hv19x0.free (M' := M) (Free.os Free.int)
  refine pl_val (.slice a19x0 n19x0 c19x0) (y_assign rfl) ?_
  refine c_nil ?_
  refine c_region ?_
  refine pl_val (.int .i64 k11) (y_move rfl) ?_
  refine pl_val (.int .i64 (w64 (k11 + 1))) (y_add rfl rfl) ?_
  refine pl_val (.int .i64 (w64 (k11 + 1))) (y_assign rfl) ?_
  refine c_nil ?_
  cases hs
  have hO := hO.fr1
  have hO := hO.drop
  have hO := hO.fr1
  have hO := hO.fr1
  exact ⟨_, a19x0, n19x0, c19x0, f19x0, fr_ovl 16 ⟨rfl, rfl, congrArg (Value.int .i64) hw, trivial⟩, hC, hO, h0, hb3, hv19x0⟩
 ·skip
  have hO := hO.fr1
  exact ⟨_, pa1, pn1, pc1, pf1, fr_ovl 16 ⟨rfl, rfl, rfl, trivial⟩, hC, hO, h0, hb3, h1⟩
 ·cases o13 with
  | nx _ => exact True.intro
  | rt r_ =>
   have hs := after_rt hs
   intro a1 w1 hK
   cases hs
   exact hK
  | br s9 =>
   have hs := after_br hs
   rintro a1 w10 ⟨σ, a17, n17, c17, f17, rfl, hC, hO, h0, hb3, hv17⟩
   refine c_seq (c_region ?_)
   refine pl_val (.slice a17 n17 c17) (y_move rfl) ?_
   refine pl_val (.slice a17 n17 c17) (y_assign rfl) ?_
   refine c_nil ?_
   refine wp_ret ?_
   cases hs
   have hO := hO.fr1
   have hO := hO.drop
   exact ⟨_, a17, n17, c17, f17, fr_ovl 16 ⟨rfl, trivial⟩, hC, hv17, hO.top⟩

theorem Bd123 : Bodied Try.prog 123 := bodied Try.func123 (by kernel_rfl) rfl

def k_spec_l6Principal (M : Nat → Prop) (w0 : World) (r : (List Int)) (a : Act) (w : World) : Prop :=
  ∃ (σ : Nat → Value) (ra0 : Option Addr) (rn0 rc0 : Nat) (rf0 : List Nat), a = fr 15 (ovl σ [(6, (.slice ra0 rn0 rc0))]) ∧ Chg [] w0 w ∧ (RT.os 3 (RT.int .i64)).val M w (.slice ra0 rn0 rc0) r rf0 ∧ Own (Nw w0 []) (fun _ => True) w (rf0 ++ ([]))
def s_spec_l6Principal (a_ : Int × (List (Int × (List Int)))) (x_ : Int) (y : Int) : Option ((List Int)) :=
  (s_spec_l6Identity a_.1).bind fun r5 =>
  (s_spec_l6Unite r5 x_ y).bind fun r8 =>
  (s_spec_l6Close__take1 (a_.1, a_.2) r8).bind fun r11 =>
  some r11
set_option maxHeartbeats 4000000 in
theorem c_spec_l6Principal {M : Nat → Prop} {w : World} {pa0 : Option Addr} {pn0 pc0 : Nat} (a_ : Int × (List (Int × (List Int)))) (x_ : Int) (y : Int) (h0 : (RT.rs (RT.pr (RT.int .i64) (RT.rs (RT.int .i64)))).val M w (.slice pa0 pn0 pc0) a_.2 ([])) (hM : ∀ g, w.heap.size ≤ g → M g) {r : (List Int)} (hs : s_spec_l6Principal a_ x_ y = some r) :
    Gives Try.prog 108 [(.agg #[(.int .i64 a_.1), (.slice pa0 pn0 pc0)]), (.int .i64 x_), (.int .i64 y)] w (fun v w' => ∃ (ra0 : Option Addr) (rn0 rc0 : Nat) (rf0 : List Nat), v = (.slice ra0 rn0 rc0) ∧ Chg [] w w' ∧ (RT.os 3 (RT.int .i64)).val M w' (.slice ra0 rn0 rc0) r rf0 ∧ Own (Nw w []) (fun _ => True) w' (rf0 ++ ([]))) := by
 refine calls_fr Try.func108 rfl Try.ntmps108 (Nat.le_of_ble_eq_true rfl) ?_
 have hO := Own.start (N := Nw w []) hM Nw.fut
 have hC := Chg.refl [] w
 unfold s_spec_l6Principal at hs
 refine wp_mono (Q := KPost (k_spec_l6Principal M w r)) ?_ (fun e a w1 h => ?_)
 rotate_left
 ·cases e
  case ret =>
   obtain ⟨σ, ra0, rn0, rc0, rf0, rfl, hrest⟩ := h
   exact ret1x Try.results108 (res_tmp rfl) ⟨ra0, rn0, rc0, rf0, rfl, hrest⟩
  all_goals exact (h : False).elim
 refine c_seq (c_region ?_)
 obtain ⟨w2, g2, ew2, eg2, hC2, hb2⟩ := new_block w [(.int .i64 a_.1), (.slice pa0 pn0 pc0)] 35
 refine pl_val (w' := w2) (.pointer (some ⟨g2, 0, none⟩)) (y_box rfl (by rw [ew2, eg2]; kernel_rfl)) ?_
 have h0 := h0.ext hC2
 have hC := hC.ext hC2
 have hO := hO.new1 hC2 eg2 hb2.lt
 refine pl_val (.slice none 0 0) (y_assign rfl) ?_
 refine c_nil ?_
 refine c_seq ?_
 refine x_start [7] Mx rfl ?_
 have hCw3 := Chg.drew w2
 generalize World.drew w2 = w3 at hCw3 ⊢
 have h0 := h0.ext hCw3
 have hb2 := hb2.chg hCw3 (fun h => nomatch h)
 have hC := hC.ext hCw3
 have hO := hO.ext hCw3
 have hS := Chg.refl [] w3
 refine x_l 0 (.agg #[(.int .i64 a_.1), (.slice pa0 pn0 pc0)]) rfl (by kernel_rfl)  (fun w' hw' => y_load rfl ((box_load Ag35 Sz35 hb2 [] [(.int .i64 a_.1), (.slice pa0 pn0 pc0)] [] rfl rfl (fun h => nomatch h)) w' hw')) hS ?_
 refine x_p 1 (.pointer (some ⟨g2, 0, none⟩)) rfl (by kernel_rfl)  (fun _ => y_faddr rfl Fa35x0) (fun _ => hS) ?_
 refine x_l 2 (.int .i64 a_.1) rfl (by kernel_rfl)  (fun w' hw' => y_load rfl ((box_load Ag3 Sz3 hb2 [] [(.int .i64 a_.1)] [(.slice pa0 pn0 pc0)] rfl rfl (fun _ => rfl)) w' hw')) hS ?_
 refine x_p 4 (.int .i64 x_) rfl (by kernel_rfl)  (fun _ => y_move rfl) (fun _ => hS) ?_
 refine x_p 5 (.int .i64 y) rfl (by kernel_rfl)  (fun _ => y_move rfl) (fun _ => hS) ?_
 refine x_one (i := 3) (by kernel_rfl) ?_
 obtain ⟨r5, hr5, hs⟩ := bind_some hs
 refine xk_call (b := false) rfl  Bd95 rfl (c_spec_l6Identity (M := M) a_.1  hO.fut hr5) rfl (by rintro _ _ _ ⟨a4x0, n4x0, c4x0, f4x0, rfl, hC4, hv4x0, hOc4⟩; exact hS.ext hC4) ?_
 rintro _ w4 ⟨a4x0, n4x0, c4x0, f4x0, rfl, hC4, hv4x0, hOc4⟩
 have h0 := h0.ext hC4
 have hb2 := hb2.chg hC4 (fun h => nomatch h)
 have hC := hC.ext hC4
 have hO := Own.join0 hO hC4 hOc4
 have hO := hO.perm (R := f4x0 ++ (([g2]) ++ ([]))) (by simp)
 have hS := hS.ext hC4
 refine x_one (i := 6) (by kernel_rfl) ?_
 obtain ⟨r8, hr8, hs⟩ := bind_some hs
 refine xk_call (b := false) rfl  Bd101 rfl (c_spec_l6Unite (M := (Less M f4x0)) r5 x_ y (((Frz.os Frz.int)).val hv4x0 Less.sub Less.not) hO.less.fut hr8) rfl (by rintro _ _ _ ⟨a7x0, n7x0, c7x0, f7x0, rfl, hC7, hv7x0, hOc7⟩; exact hS.ext hC7) ?_
 rintro _ w7 ⟨a7x0, n7x0, c7x0, f7x0, rfl, hC7, hv7x0, hOc7⟩
 have h0 := h0.ext hC7
 have hb2 := hb2.chg hC7 (fun h => nomatch h)
 have hv4x0 := hv4x0.ext hC7
 have hC := hC.ext hC7
 have hO := Own.join0 hO hC7 hOc7
 have hO := hO.perm (R := f7x0 ++ (f4x0 ++ (([g2]) ++ ([])))) (by simp)
 have hv7x0 := hv7x0.free (M' := M) (Free.os Free.int)
 have hS := hS.ext hC7
 refine x_one (i := 7) (by kernel_rfl) ?_
 have hL10 := hO
 have hI10 := Own.lend (F := (f7x0 ++ ([]))) (R := f4x0 ++ (([g2]) ++ ([]))) (Own.perm (hL10) (by simp))
 obtain ⟨r11, hr11, hs⟩ := bind_some hs
 refine xk_call (b := true) rfl  Bd123 rfl (c_spec_l6Close__take1 (M := M) (a_.1, a_.2) r8 h0 hv7x0 hI10 hI10.fut hr11) rfl (fun h => nomatch h) ?_
 rintro _ w10 ⟨a10x0, n10x0, c10x0, f10x0, rfl, hC10, hv10x0, hOc10⟩
 have hO := hO.perm (R := (f7x0 ++ ([])) ++ (f4x0 ++ (([g2]) ++ ([])))) (by simp)
 have h0 := h0.mut hC10 (fun g hg => hO.inM g ((fun _ h => h) g hg)) (fun _ _ h => nomatch h)
 have hb2 := hb2.chg hC10 (fun hg => hO.apart _ ((fun _ h => h) _ hg) (mem_r (mem_l (List.mem_singleton.2 rfl))))
 have hv4x0 := hv4x0.mut hC10 (fun g hg => hO.inM g ((fun _ h => h) g hg)) (fun g hg e => hO.apart g ((fun _ h => h) g hg) (mem_l (e)))
 have hC := hC.step hC10 (fun g hg => hO.inN g ((fun _ h => h) g hg))
 have hO := Own.join hO hC10 hOc10
 have hO := hO.perm (R := f10x0 ++ (f4x0 ++ (([g2]) ++ ([])))) (by simp)
 refine x_p 8 (.slice a10x0 n10x0 c10x0) rfl (by kernel_rfl)  (fun _ => y_assign rfl) (fun h => nomatch h) ?_
 refine x_end (by kernel_rfl) ?_
 clear hS
 refine wp_ret ?_
 cases hs
 have hO := hO.fr1
 have hO := hO.drop
 have hO := hO.fr1
 have hO := hO.drop
 exact ⟨_, a10x0, n10x0, c10x0, f10x0, fr_ovl 15 ⟨rfl, trivial⟩, hC, hv10x0, hO.top⟩

def k_spec_l6Count (M : Nat → Prop) (w0 : World) (r : Int) (a : Act) (w : World) : Prop :=
  ∃ (σ : Nat → Value) , a = fr 20 (ovl σ [(2, (.int .i64 r))]) ∧ Chg [] w0 w
def s_spec_l6Count (p : List Int) : Option (Int) :=
  (forC (S := Int) (R := Int) (fun k7 s5 =>
  (idx p k7).bind fun x11 =>
  (bif (x11 == k7) then some (.nx (w64 (s5 + 1))) else some (.nx s5))) 0 (p.length : Int) 0).bind fun o9 => after o9 (fun r_ => some r_) (fun s5 =>
  some s5)
set_option maxHeartbeats 4000000 in
theorem c_spec_l6Count {M : Nat → Prop} {w : World} {pa0 : Option Addr} {pn0 pc0 : Nat} (p : List Int) (h0 : (RT.rs (RT.int .i64)).val M w (.slice pa0 pn0 pc0) p ([])) (hM : ∀ g, w.heap.size ≤ g → M g) {r : Int} (hs : s_spec_l6Count p = some r) :
    Gives Try.prog 121 [(.slice pa0 pn0 pc0)] w (fun v w' => v = (.int .i64 r) ∧ Chg [] w w') := by
 refine calls_fr Try.func121 rfl Try.ntmps121 (Nat.le_of_ble_eq_true rfl) ?_
 have hO := Own.start (N := Nw w []) hM Nw.fut
 have hC := Chg.refl [] w
 unfold s_spec_l6Count at hs
 refine wp_mono (Q := KPost (k_spec_l6Count M w r)) ?_ (fun e a w1 h => ?_)
 rotate_left
 ·cases e
  case ret =>
   obtain ⟨σ, rfl, hrest⟩ := h
   exact ret1x Try.results121 (res_tmp rfl) ⟨rfl, hrest⟩
  all_goals exact (h : False).elim
 refine c_seq (c_region ?_)
 refine pl_val (.int .i64 0) (y_assign rfl) ?_
 refine c_nil ?_
 refine c_seq (c_region ?_)
 refine pl_val (.int .i64 0) (y_assign rfl) ?_
 refine c_nil ?_
 refine c_seq ?_
 refine c_seq (c_region ?_)
 refine pl_val (.int .i64 0) (y_assign rfl) ?_
 refine c_nil ?_
 obtain ⟨o9, hl10, hs⟩ := bind_some hs
 refine wp_block ?_
 refine wp_forC (id := 0) (p.length : Int) (I := fun k7 s5 a w6 => ∃ (σ : Nat → Value), a = fr 20 (ovl σ [(0, (.slice pa0 pn0 pc0)), (3, (.int .i64 s5)), (4, (.int .i64 k7))]) ∧ Chg [] w w6 ∧ Own (Nw w []) M w6 ([]) ∧ (RT.rs (RT.int .i64)).val M w6 (.slice pa0 pn0 pc0) p ([])) (J := fun s5 a w6 => ∃ (σ : Nat → Value), a = fr 20 (ovl σ [(3, (.int .i64 s5))]) ∧ Chg [] w w6 ∧ Own (Nw w []) M w6 ([]) ∧ (RT.rs (RT.int .i64)).val M w6 (.slice pa0 pn0 pc0) p ([])) (K := (k_spec_l6Count M w)) ?_ ?_ 0 0 o9 _ _ ?_ hl10 ?_
 ·rintro k7 s5 a w6 ⟨σ, rfl, hC, hO, h0⟩ hlt
  refine c_seq ?_
  refine c_seq (c_region ?_)
  refine pl_val (.int .i64 k7) (y_move rfl) ?_
  refine pl_val (.slice pa0 pn0 pc0) (y_move rfl) ?_
  refine pl_val (.int .i64 (p.length : Int)) (y_len' Sl22 (rs_len h0) rfl) ?_
  refine pl_val (.bool (decide (k7 < (p.length : Int)))) (y_lss rfl rfl) ?_
  refine c_nil ?_
  refine c_condF (congrArg Value.bool (decide_eq_false hlt)) ?_
  refine wp_exit ?_
  exact ⟨rfl, _, fr_ovl 20 ⟨rfl, trivial⟩, hC, hO, h0⟩
 ·rintro k7 s5 o9 a w6 ⟨σ, rfl, hC, hO, h0⟩ hlt hw hs
  refine c_seq ?_
  refine c_seq (c_region ?_)
  refine pl_val (.int .i64 k7) (y_move rfl) ?_
  refine pl_val (.slice pa0 pn0 pc0) (y_move rfl) ?_
  refine pl_val (.int .i64 (p.length : Int)) (y_len' Sl22 (rs_len h0) rfl) ?_
  refine pl_val (.bool (decide (k7 < (p.length : Int)))) (y_lss rfl rfl) ?_
  refine c_nil ?_
  refine c_condT (congrArg Value.bool (decide_eq_true hlt)) ?_
  refine wp_skip ?_
  refine c_seq ?_
  refine wp_block ?_
  refine c_seq (c_region ?_)
  refine pl_val (.slice pa0 pn0 pc0) (y_move rfl) ?_
  refine pl_val (.int .i64 k7) (y_move rfl) ?_
  obtain ⟨x11, hx11, hs⟩ := bind_some hs
  obtain ⟨b12, o12, hp12, ha12⟩ := rs_idx Sl22 Sz3 h0 hx11
  refine pl_val (.pointer (some ⟨b12, o12, none⟩)) (hp12 _ _ _ _ _ _ _ _ _ rfl rfl) ?_
  refine pl_val (.int .i64 x11) (y_load rfl ((at_load_int Ag3 Sz3 ha12) _ (Chg.refl _ _))) ?_
  refine pl_val (.int .i64 k7) (y_move rfl) ?_
  refine pl_val (.bool (x11 == k7)) (y_eql rfl rfl) ?_
  refine c_nil ?_
  rcases bif_some hs with ⟨hc13, hs⟩ | ⟨hc13, hs⟩
  ·skip
   refine c_condT (congrArg Value.bool hc13) ?_
   refine c_region ?_
   refine pl_val (.int .i64 s5) (y_move rfl) ?_
   refine pl_val (.int .i64 (w64 (s5 + 1))) (y_add rfl rfl) ?_
   refine pl_val (.int .i64 (w64 (s5 + 1))) (y_assign rfl) ?_
   refine c_nil ?_
   refine c_region ?_
   refine pl_val (.int .i64 k7) (y_move rfl) ?_
   refine pl_val (.int .i64 (w64 (k7 + 1))) (y_add rfl rfl) ?_
   refine pl_val (.int .i64 (w64 (k7 + 1))) (y_assign rfl) ?_
   refine c_nil ?_
   cases hs
   exact ⟨_, fr_ovl 20 ⟨rfl, rfl, congrArg (Value.int .i64) hw, trivial⟩, hC, hO, h0⟩
  ·skip
   refine c_condF (congrArg Value.bool hc13) ?_
   refine wp_skip ?_
   refine c_region ?_
   refine pl_val (.int .i64 k7) (y_move rfl) ?_
   refine pl_val (.int .i64 (w64 (k7 + 1))) (y_add rfl rfl) ?_
   refine pl_val (.int .i64 (w64 (k7 + 1))) (y_assign rfl) ?_
   refine c_nil ?_
   cases hs
   exact ⟨_, fr_ovl 20 ⟨rfl, rfl, congrArg (Value.int .i64) hw, trivial⟩, hC, hO, h0⟩
 ·skip
  exact ⟨_, fr_ovl 20 ⟨rfl, rfl, rfl, trivial⟩, hC, hO, h0⟩
 ·cases o9 with
  | nx _ => exact True.intro
  | rt r_ =>
   have hs := after_rt hs
   intro a1 w1 hK
   cases hs
   exact hK
  | br s5 =>
   have hs := after_br hs
   rintro a1 w6 ⟨σ, rfl, hC, hO, h0⟩
   refine c_seq (c_region ?_)
   refine pl_val (.int .i64 s5) (y_move rfl) ?_
   refine pl_val (.int .i64 s5) (y_assign rfl) ?_
   refine c_nil ?_
   refine wp_ret ?_
   cases hs
   exact ⟨_, fr_ovl 20 ⟨rfl, trivial⟩, hC⟩

def k_spec_l5Less (M : Nat → Prop) (w0 : World) (r : Bool) (a : Act) (w : World) : Prop :=
  ∃ (σ : Nat → Value) , a = fr 30 (ovl σ [(4, (.bool r))]) ∧ Chg [] w0 w
def s_spec_l5Less (a_ : List Int) (b : List Int) : Option (Bool) :=
  (forC (S := Unit) (R := Bool) (fun k21 s19 =>
  (idx a_ k21).bind fun x31 =>
  (idx b k21).bind fun x33 =>
  (bif (x31 != x33) then (idx a_ k21).bind fun x37 =>
  (idx b k21).bind fun x39 =>
  some (.rt (decide (x37 < x39))) else some (.nx ()))) 0 (a_.length : Int) ()).bind fun o23 => after o23 (fun r_ => some r_) (fun s19 =>
  some false)
set_option maxHeartbeats 4000000 in
theorem c_spec_l5Less {M : Nat → Prop} {w : World} {pa0 : Option Addr} {pn0 pc0 : Nat} {pa1 : Option Addr} {pn1 pc1 : Nat} (a_ : List Int) (b : List Int) (h0 : (RT.rs (RT.int .i64)).val M w (.slice pa0 pn0 pc0) a_ ([])) (h1 : (RT.rs (RT.int .i64)).val M w (.slice pa1 pn1 pc1) b ([])) (hM : ∀ g, w.heap.size ≤ g → M g) {r : Bool} (hs : s_spec_l5Less a_ b = some r) :
    Gives Try.prog 122 [(.slice pa0 pn0 pc0), (.slice pa1 pn1 pc1)] w (fun v w' => v = (.bool r) ∧ Chg [] w w') := by
 refine calls_fr Try.func122 rfl Try.ntmps122 (Nat.le_of_ble_eq_true rfl) ?_
 have hO := Own.start (N := Nw w []) hM Nw.fut
 have hC := Chg.refl [] w
 unfold s_spec_l5Less at hs
 refine wp_mono (Q := KPost (k_spec_l5Less M w r)) ?_ (fun e a w1 h => ?_)
 rotate_left
 ·cases e
  case ret =>
   obtain ⟨σ, rfl, hrest⟩ := h
   exact ret1x Try.results122 (res_tmp rfl) ⟨rfl, hrest⟩
  all_goals exact (h : False).elim
 refine c_seq (c_region ?_)
 refine pl_val (.bool false) (y_assign rfl) ?_
 refine c_nil ?_
 refine c_seq ?_
 refine c_seq (c_region ?_)
 refine pl_val (.int .i64 0) (y_assign rfl) ?_
 refine c_nil ?_
 obtain ⟨o23, hl24, hs⟩ := bind_some hs
 refine wp_block ?_
 refine wp_forC (id := 0) (a_.length : Int) (I := fun k21 s19 a w20 => ∃ (σ : Nat → Value), a = fr 30 (ovl σ [(0, (.slice pa0 pn0 pc0)), (1, (.slice pa1 pn1 pc1)), (5, (.int .i64 k21))]) ∧ Chg [] w w20 ∧ Own (Nw w []) M w20 ([]) ∧ (RT.rs (RT.int .i64)).val M w20 (.slice pa0 pn0 pc0) a_ ([]) ∧ (RT.rs (RT.int .i64)).val M w20 (.slice pa1 pn1 pc1) b ([])) (J := fun s19 a w20 => ∃ (σ : Nat → Value), a = fr 30 (ovl σ []) ∧ Chg [] w w20 ∧ Own (Nw w []) M w20 ([]) ∧ (RT.rs (RT.int .i64)).val M w20 (.slice pa0 pn0 pc0) a_ ([]) ∧ (RT.rs (RT.int .i64)).val M w20 (.slice pa1 pn1 pc1) b ([])) (K := (k_spec_l5Less M w)) ?_ ?_ 0 () o23 _ _ ?_ hl24 ?_
 ·rintro k21 s19 a w20 ⟨σ, rfl, hC, hO, h0, h1⟩ hlt
  refine c_seq ?_
  refine c_seq (c_region ?_)
  refine pl_val (.int .i64 k21) (y_move rfl) ?_
  refine pl_val (.slice pa0 pn0 pc0) (y_move rfl) ?_
  refine pl_val (.int .i64 (a_.length : Int)) (y_len' Sl22 (rs_len h0) rfl) ?_
  refine pl_val (.bool (decide (k21 < (a_.length : Int)))) (y_lss rfl rfl) ?_
  refine c_nil ?_
  refine c_condF (congrArg Value.bool (decide_eq_false hlt)) ?_
  refine wp_exit ?_
  exact ⟨rfl, _, fr_ovl 30 trivial, hC, hO, h0, h1⟩
 ·rintro k21 s19 o23 a w20 ⟨σ, rfl, hC, hO, h0, h1⟩ hlt hw hs
  refine c_seq ?_
  refine c_seq (c_region ?_)
  refine pl_val (.int .i64 k21) (y_move rfl) ?_
  refine pl_val (.slice pa0 pn0 pc0) (y_move rfl) ?_
  refine pl_val (.int .i64 (a_.length : Int)) (y_len' Sl22 (rs_len h0) rfl) ?_
  refine pl_val (.bool (decide (k21 < (a_.length : Int)))) (y_lss rfl rfl) ?_
  refine c_nil ?_
  refine c_condT (congrArg Value.bool (decide_eq_true hlt)) ?_
  refine wp_skip ?_
  refine c_seq ?_
  refine wp_block ?_
  refine c_seq ?_
  refine x_start [] Mx rfl ?_
  have hCw30 := Chg.drew w20
  generalize World.drew w20 = w30 at hCw30 ⊢
  have h0 := h0.ext hCw30
  have h1 := h1.ext hCw30
  have hC := hC.ext hCw30
  have hO := hO.ext hCw30
  have hS := Chg.refl [] w30
  refine x_p 0 (.slice pa0 pn0 pc0) rfl (by kernel_rfl)  (fun _ => y_move rfl) (fun _ => hS) ?_
  refine x_p 1 (.int .i64 k21) rfl (by kernel_rfl)  (fun _ => y_move rfl) (fun _ => hS) ?_
  obtain ⟨x31, hx31, hs⟩ := bind_some hs
  obtain ⟨b32, o32, hp32, ha32⟩ := rs_idx Sl22 Sz3 h0 hx31
  refine x_p 2 (.pointer (some ⟨b32, o32, none⟩)) rfl (by kernel_rfl)  (fun _ => hp32 _ _ _ _ _ _ _ _ _ rfl rfl) (fun _ => hS) ?_
  refine x_l 3 (.int .i64 x31) rfl (by kernel_rfl)  (fun w' hw' => y_load rfl ((at_load_int Ag3 Sz3 ha32) w' hw')) hS ?_
  refine x_p 4 (.slice pa1 pn1 pc1) rfl (by kernel_rfl)  (fun _ => y_move rfl) (fun _ => hS) ?_
  refine x_p 5 (.int .i64 k21) rfl (by kernel_rfl)  (fun _ => y_move rfl) (fun _ => hS) ?_
  obtain ⟨x33, hx33, hs⟩ := bind_some hs
  obtain ⟨b34, o34, hp34, ha34⟩ := rs_idx Sl22 Sz3 h1 hx33
  refine x_p 6 (.pointer (some ⟨b34, o34, none⟩)) rfl (by kernel_rfl)  (fun _ => hp34 _ _ _ _ _ _ _ _ _ rfl rfl) (fun _ => hS) ?_
  refine x_l 7 (.int .i64 x33) rfl (by kernel_rfl)  (fun w' hw' => y_load rfl ((at_load_int Ag3 Sz3 ha34) w' hw')) hS ?_
  refine x_p 8 (.bool (x31 != x33)) rfl (by kernel_rfl)  (fun _ => y_neq rfl rfl) (fun _ => hS) ?_
  refine x_end (by kernel_rfl) ?_
  clear hS
  rcases bif_some hs with ⟨hc35, hs⟩ | ⟨hc35, hs⟩
  ·skip
   refine c_condT (congrArg Value.bool hc35) ?_
   refine c_seq ?_
   refine x_start [] Mx rfl ?_
   have hCw36 := Chg.drew w30
   generalize World.drew w30 = w36 at hCw36 ⊢
   have h0 := h0.ext hCw36
   have h1 := h1.ext hCw36
   have hC := hC.ext hCw36
   have hO := hO.ext hCw36
   have hS := Chg.refl [] w36
   refine x_p 0 (.slice pa0 pn0 pc0) rfl (by kernel_rfl)  (fun _ => y_move rfl) (fun _ => hS) ?_
   refine x_p 1 (.int .i64 k21) rfl (by kernel_rfl)  (fun _ => y_move rfl) (fun _ => hS) ?_
   obtain ⟨x37, hx37, hs⟩ := bind_some hs
   obtain ⟨b38, o38, hp38, ha38⟩ := rs_idx Sl22 Sz3 h0 hx37
   refine x_p 2 (.pointer (some ⟨b38, o38, none⟩)) rfl (by kernel_rfl)  (fun _ => hp38 _ _ _ _ _ _ _ _ _ rfl rfl) (fun _ => hS) ?_
   refine x_l 3 (.int .i64 x37) rfl (by kernel_rfl)  (fun w' hw' => y_load rfl ((at_load_int Ag3 Sz3 ha38) w' hw')) hS ?_
   refine x_p 4 (.slice pa1 pn1 pc1) rfl (by kernel_rfl)  (fun _ => y_move rfl) (fun _ => hS) ?_
   refine x_p 5 (.int .i64 k21) rfl (by kernel_rfl)  (fun _ => y_move rfl) (fun _ => hS) ?_
   obtain ⟨x39, hx39, hs⟩ := bind_some hs
   obtain ⟨b40, o40, hp40, ha40⟩ := rs_idx Sl22 Sz3 h1 hx39
   refine x_p 6 (.pointer (some ⟨b40, o40, none⟩)) rfl (by kernel_rfl)  (fun _ => hp40 _ _ _ _ _ _ _ _ _ rfl rfl) (fun _ => hS) ?_
   refine x_l 7 (.int .i64 x39) rfl (by kernel_rfl)  (fun w' hw' => y_load rfl ((at_load_int Ag3 Sz3 ha40) w' hw')) hS ?_
   refine x_p 8 (.bool (decide (x37 < x39))) rfl (by kernel_rfl)  (fun _ => y_lss rfl rfl) (fun _ => hS) ?_
   refine x_p 9 (.bool (decide (x37 < x39))) rfl (by kernel_rfl)  (fun _ => y_assign rfl) (fun _ => hS) ?_
   refine x_end (by kernel_rfl) ?_
   clear hS
   refine wp_ret ?_
   cases hs
   exact ⟨_, fr_ovl 30 ⟨rfl, trivial⟩, hC⟩
  ·skip
   refine c_condF (congrArg Value.bool hc35) ?_
   refine wp_skip ?_
   refine c_region ?_
   refine pl_val (.int .i64 k21) (y_move rfl) ?_
   refine pl_val (.int .i64 (w64 (k21 + 1))) (y_add rfl rfl) ?_
   refine pl_val (.int .i64 (w64 (k21 + 1))) (y_assign rfl) ?_
   refine c_nil ?_
   cases hs
   exact ⟨_, fr_ovl 30 ⟨rfl, rfl, congrArg (Value.int .i64) hw, trivial⟩, hC, hO, h0, h1⟩
 ·skip
  exact ⟨_, fr_ovl 30 ⟨rfl, rfl, rfl, trivial⟩, hC, hO, h0, h1⟩
 ·cases o23 with
  | nx _ => exact True.intro
  | rt r_ =>
   have hs := after_rt hs
   intro a1 w1 hK
   cases hs
   exact hK
  | br s19 =>
   have hs := after_br hs
   rintro a1 w20 ⟨σ, rfl, hC, hO, h0, h1⟩
   refine c_seq (c_region ?_)
   refine pl_val (.bool false) (y_assign rfl) ?_
   refine c_nil ?_
   refine wp_ret ?_
   cases hs
   exact ⟨_, fr_ovl 30 ⟨rfl, trivial⟩, hC⟩

def k_spec_l1Same (M : Nat → Prop) (w0 : World) (r : Bool) (a : Act) (w : World) : Prop :=
  ∃ (σ : Nat → Value) , a = fr 26 (ovl σ [(4, (.bool r))]) ∧ Chg [] w0 w
def s_spec_l1Same (a_ : List Int) (b : List Int) : Option (Bool) :=
  (bif ((a_.length : Int) != (b.length : Int)) then some false else (forC (S := Unit) (R := Bool) (fun k12 s10 =>
  (idx a_ k12).bind fun x17 =>
  (idx b k12).bind fun x19 =>
  (bif (x17 != x19) then some (.rt false) else some (.nx ()))) 0 (a_.length : Int) ()).bind fun o14 => after o14 (fun r_ => some r_) (fun s10 =>
  some true))
set_option maxHeartbeats 4000000 in
theorem c_spec_l1Same {M : Nat → Prop} {w : World} {pa0 : Option Addr} {pn0 pc0 : Nat} {pa1 : Option Addr} {pn1 pc1 : Nat} (a_ : List Int) (b : List Int) (h0 : (RT.rs (RT.int .i64)).val M w (.slice pa0 pn0 pc0) a_ ([])) (h1 : (RT.rs (RT.int .i64)).val M w (.slice pa1 pn1 pc1) b ([])) (hM : ∀ g, w.heap.size ≤ g → M g) {r : Bool} (hs : s_spec_l1Same a_ b = some r) :
    Gives Try.prog 86 [(.slice pa0 pn0 pc0), (.slice pa1 pn1 pc1)] w (fun v w' => v = (.bool r) ∧ Chg [] w w') := by
 refine calls_fr Try.func86 rfl Try.ntmps86 (Nat.le_of_ble_eq_true rfl) ?_
 have hO := Own.start (N := Nw w []) hM Nw.fut
 have hC := Chg.refl [] w
 unfold s_spec_l1Same at hs
 refine wp_mono (Q := KPost (k_spec_l1Same M w r)) ?_ (fun e a w1 h => ?_)
 rotate_left
 ·cases e
  case ret =>
   obtain ⟨σ, rfl, hrest⟩ := h
   exact ret1x Try.results86 (res_tmp rfl) ⟨rfl, hrest⟩
  all_goals exact (h : False).elim
 refine c_seq (c_region ?_)
 refine pl_val (.bool false) (y_assign rfl) ?_
 refine c_nil ?_
 refine c_seq ?_
 refine c_seq (c_region ?_)
 refine pl_val (.slice pa0 pn0 pc0) (y_move rfl) ?_
 refine pl_val (.int .i64 (a_.length : Int)) (y_len' Sl22 (rs_len h0) rfl) ?_
 refine pl_val (.slice pa1 pn1 pc1) (y_move rfl) ?_
 refine pl_val (.int .i64 (b.length : Int)) (y_len' Sl22 (rs_len h1) rfl) ?_
 refine pl_val (.bool ((a_.length : Int) != (b.length : Int))) (y_neq rfl rfl) ?_
 refine c_nil ?_
 rcases bif_some hs with ⟨hc3, hs⟩ | ⟨hc3, hs⟩
 ·skip
  refine c_condT (congrArg Value.bool hc3) ?_
  refine c_seq (c_region ?_)
  refine pl_val (.bool false) (y_assign rfl) ?_
  refine c_nil ?_
  refine wp_ret ?_
  cases hs
  exact ⟨_, fr_ovl 26 ⟨rfl, trivial⟩, hC⟩
 ·skip
  refine c_condF (congrArg Value.bool hc3) ?_
  refine wp_skip ?_
  refine c_seq ?_
  refine c_seq (c_region ?_)
  refine pl_val (.int .i64 0) (y_assign rfl) ?_
  refine c_nil ?_
  obtain ⟨o14, hl15, hs⟩ := bind_some hs
  refine wp_block ?_
  refine wp_forC (id := 0) (a_.length : Int) (I := fun k12 s10 a w11 => ∃ (σ : Nat → Value), a = fr 26 (ovl σ [(0, (.slice pa0 pn0 pc0)), (1, (.slice pa1 pn1 pc1)), (5, (.int .i64 k12))]) ∧ Chg [] w w11 ∧ Own (Nw w []) M w11 ([]) ∧ (RT.rs (RT.int .i64)).val M w11 (.slice pa0 pn0 pc0) a_ ([]) ∧ (RT.rs (RT.int .i64)).val M w11 (.slice pa1 pn1 pc1) b ([])) (J := fun s10 a w11 => ∃ (σ : Nat → Value), a = fr 26 (ovl σ []) ∧ Chg [] w w11 ∧ Own (Nw w []) M w11 ([]) ∧ (RT.rs (RT.int .i64)).val M w11 (.slice pa0 pn0 pc0) a_ ([]) ∧ (RT.rs (RT.int .i64)).val M w11 (.slice pa1 pn1 pc1) b ([])) (K := (k_spec_l1Same M w)) ?_ ?_ 0 () o14 _ _ ?_ hl15 ?_
  ·rintro k12 s10 a w11 ⟨σ, rfl, hC, hO, h0, h1⟩ hlt
   refine c_seq ?_
   refine c_seq (c_region ?_)
   refine pl_val (.int .i64 k12) (y_move rfl) ?_
   refine pl_val (.slice pa0 pn0 pc0) (y_move rfl) ?_
   refine pl_val (.int .i64 (a_.length : Int)) (y_len' Sl22 (rs_len h0) rfl) ?_
   refine pl_val (.bool (decide (k12 < (a_.length : Int)))) (y_lss rfl rfl) ?_
   refine c_nil ?_
   refine c_condF (congrArg Value.bool (decide_eq_false hlt)) ?_
   refine wp_exit ?_
   exact ⟨rfl, _, fr_ovl 26 trivial, hC, hO, h0, h1⟩
  ·rintro k12 s10 o14 a w11 ⟨σ, rfl, hC, hO, h0, h1⟩ hlt hw hs
   refine c_seq ?_
   refine c_seq (c_region ?_)
   refine pl_val (.int .i64 k12) (y_move rfl) ?_
   refine pl_val (.slice pa0 pn0 pc0) (y_move rfl) ?_
   refine pl_val (.int .i64 (a_.length : Int)) (y_len' Sl22 (rs_len h0) rfl) ?_
   refine pl_val (.bool (decide (k12 < (a_.length : Int)))) (y_lss rfl rfl) ?_
   refine c_nil ?_
   refine c_condT (congrArg Value.bool (decide_eq_true hlt)) ?_
   refine wp_skip ?_
   refine c_seq ?_
   refine wp_block ?_
   refine c_seq ?_
   refine x_start [] Mx rfl ?_
   have hCw16 := Chg.drew w11
   generalize World.drew w11 = w16 at hCw16 ⊢
   have h0 := h0.ext hCw16
   have h1 := h1.ext hCw16
   have hC := hC.ext hCw16
   have hO := hO.ext hCw16
   have hS := Chg.refl [] w16
   refine x_p 0 (.slice pa0 pn0 pc0) rfl (by kernel_rfl)  (fun _ => y_move rfl) (fun _ => hS) ?_
   refine x_p 1 (.int .i64 k12) rfl (by kernel_rfl)  (fun _ => y_move rfl) (fun _ => hS) ?_
   obtain ⟨x17, hx17, hs⟩ := bind_some hs
   obtain ⟨b18, o18, hp18, ha18⟩ := rs_idx Sl22 Sz3 h0 hx17
   refine x_p 2 (.pointer (some ⟨b18, o18, none⟩)) rfl (by kernel_rfl)  (fun _ => hp18 _ _ _ _ _ _ _ _ _ rfl rfl) (fun _ => hS) ?_
   refine x_l 3 (.int .i64 x17) rfl (by kernel_rfl)  (fun w' hw' => y_load rfl ((at_load_int Ag3 Sz3 ha18) w' hw')) hS ?_
   refine x_p 4 (.slice pa1 pn1 pc1) rfl (by kernel_rfl)  (fun _ => y_move rfl) (fun _ => hS) ?_
   refine x_p 5 (.int .i64 k12) rfl (by kernel_rfl)  (fun _ => y_move rfl) (fun _ => hS) ?_
   obtain ⟨x19, hx19, hs⟩ := bind_some hs
   obtain ⟨b20, o20, hp20, ha20⟩ := rs_idx Sl22 Sz3 h1 hx19
   refine x_p 6 (.pointer (some ⟨b20, o20, none⟩)) rfl (by kernel_rfl)  (fun _ => hp20 _ _ _ _ _ _ _ _ _ rfl rfl) (fun _ => hS) ?_
   refine x_l 7 (.int .i64 x19) rfl (by kernel_rfl)  (fun w' hw' => y_load rfl ((at_load_int Ag3 Sz3 ha20) w' hw')) hS ?_
   refine x_p 8 (.bool (x17 != x19)) rfl (by kernel_rfl)  (fun _ => y_neq rfl rfl) (fun _ => hS) ?_
   refine x_end (by kernel_rfl) ?_
   clear hS
   rcases bif_some hs with ⟨hc21, hs⟩ | ⟨hc21, hs⟩
   ·skip
    refine c_condT (congrArg Value.bool hc21) ?_
    refine c_seq (c_region ?_)
    refine pl_val (.bool false) (y_assign rfl) ?_
    refine c_nil ?_
    refine wp_ret ?_
    cases hs
    exact ⟨_, fr_ovl 26 ⟨rfl, trivial⟩, hC⟩
   ·skip
    refine c_condF (congrArg Value.bool hc21) ?_
    refine wp_skip ?_
    refine c_region ?_
    refine pl_val (.int .i64 k12) (y_move rfl) ?_
    refine pl_val (.int .i64 (w64 (k12 + 1))) (y_add rfl rfl) ?_
    refine pl_val (.int .i64 (w64 (k12 + 1))) (y_assign rfl) ?_
    refine c_nil ?_
    cases hs
    exact ⟨_, fr_ovl 26 ⟨rfl, rfl, congrArg (Value.int .i64) hw, trivial⟩, hC, hO, h0, h1⟩
  ·skip
   exact ⟨_, fr_ovl 26 ⟨rfl, rfl, rfl, trivial⟩, hC, hO, h0, h1⟩
  ·cases o14 with
   | nx _ => exact True.intro
   | rt r_ =>
    have hs := after_rt hs
    intro a1 w1 hK
    cases hs
    exact hK
   | br s10 =>
    have hs := after_br hs
    rintro a1 w11 ⟨σ, rfl, hC, hO, h0, h1⟩
    refine c_seq (c_region ?_)
    refine pl_val (.bool true) (y_assign rfl) ?_
    refine c_nil ?_
    refine wp_ret ?_
    cases hs
    exact ⟨_, fr_ovl 26 ⟨rfl, trivial⟩, hC⟩

theorem Sl41 : SlT Try.prog 41 22 := Try.underlying41

theorem Bd121 : Bodied Try.prog 121 := bodied Try.func121 (by kernel_rfl) rfl

theorem Bd122 : Bodied Try.prog 122 := bodied Try.func122 (by kernel_rfl) rfl

theorem Bd86 : Bodied Try.prog 86 := bodied Try.func86 (by kernel_rfl) rfl

theorem Rw41 : RowT Try.prog 41 22 1 [(.slice none 0 0)] := ⟨Try.underlying41, ⟨_, _, rfl, rfl, rfl, rfl, by decide⟩, rfl, by decide⟩

end Go.Proofs
