/- What functions of the program compute, as plain functions, and that a call gives just that. Conditions: those named in each theorem. -/
import Derived.Test.YtlfpejnpjpmejaaGHole
import Derived.Test.YtlfpejnpjpmejaaRows
set_option linter.unusedVariables false
namespace Go.Proofs
open Go.G Go.RowKit
set_option maxRecDepth 100000

theorem Sl25 : SlT Try.prog 25 3 := Try.underlying25

def k_laws_szIntS (M : Nat → Prop) (w0 : World) (r : Int) (a : Act) (w : World) : Prop :=
  ∃ (σ : Nat → Value) , a = fr 12 (ovl σ [(4, (.int .i64 r))]) ∧ Chg [] w0 w
def s_laws_szIntS (a_ : List Int) (left : Int) : Option (Int) :=
  (bif (decide ((w64 (left - (a_.length : Int))) < 0)) then some (-1) else some (w64 (left - (a_.length : Int))))
set_option maxHeartbeats 4000000 in
theorem c_laws_szIntS {M : Nat → Prop} {w : World} {pa0 : Option Addr} {pn0 pc0 : Nat} (a_ : List Int) (left : Int) (h0 : (RT.rs (RT.int .i64)).val M w (.slice pa0 pn0 pc0) a_ ([])) (hM : ∀ g, w.heap.size ≤ g → M g) {r : Int} (hs : s_laws_szIntS a_ left = some r) :
    Gives Try.prog 33 [(.slice pa0 pn0 pc0), (.int .i64 left)] w (fun v w' => v = (.int .i64 r) ∧ Chg [] w w') := by
 refine calls_fr Try.func33 rfl Try.ntmps33 (Nat.le_of_ble_eq_true rfl) ?_
 have hO := Own.start (N := Nw w []) hM Nw.fut
 have hC := Chg.refl [] w
 unfold s_laws_szIntS at hs
 refine wp_mono (Q := KPost (k_laws_szIntS M w r)) ?_ (fun e a w1 h => ?_)
 rotate_left
 ·cases e
  case ret =>
   obtain ⟨σ, rfl, hrest⟩ := h
   exact ret1x Try.results33 (res_tmp rfl) ⟨rfl, hrest⟩
  all_goals exact (h : False).elim
 refine c_seq (c_region ?_)
 refine pl_val (.int .i64 0) (y_assign rfl) ?_
 refine c_nil ?_
 refine c_seq (c_region ?_)
 refine pl_val (.int .i64 left) (y_move rfl) ?_
 refine pl_val (.slice pa0 pn0 pc0) (y_move rfl) ?_
 refine pl_val (.int .i64 (a_.length : Int)) (y_len' Sl25 (rs_len h0) rfl) ?_
 refine pl_val (.int .i64 (w64 (left - (a_.length : Int)))) (y_sub rfl rfl) ?_
 refine pl_val (.int .i64 (w64 (left - (a_.length : Int)))) (y_assign rfl) ?_
 refine c_nil ?_
 refine c_seq ?_
 refine c_seq (c_region ?_)
 refine pl_val (.int .i64 (w64 (left - (a_.length : Int)))) (y_move rfl) ?_
 refine pl_val (.bool (decide ((w64 (left - (a_.length : Int))) < 0))) (y_lss rfl rfl) ?_
 refine c_nil ?_
 rcases bif_some hs with ⟨hc2, hs⟩ | ⟨hc2, hs⟩
 ·skip
  refine c_condT (congrArg Value.bool hc2) ?_
  refine c_seq (c_region ?_)
  refine pl_val (.int .i64 (-1)) (y_assign rfl) ?_
  refine c_nil ?_
  refine wp_ret ?_
  cases hs
  exact ⟨_, fr_ovl 12 ⟨rfl, trivial⟩, hC⟩
 ·skip
  refine c_condF (congrArg Value.bool hc2) ?_
  refine wp_skip ?_
  refine c_seq (c_region ?_)
  refine pl_val (.int .i64 (w64 (left - (a_.length : Int)))) (y_move rfl) ?_
  refine pl_val (.int .i64 (w64 (left - (a_.length : Int)))) (y_assign rfl) ?_
  refine c_nil ?_
  refine wp_ret ?_
  cases hs
  exact ⟨_, fr_ovl 12 ⟨rfl, trivial⟩, hC⟩

theorem Fa27x1 : ∀ (a : Addr) (w : World), (Instr.fieldAt 27 (.pointer (some a)) 1).run Try.prog w = .ok (.pointer (some (a.add 1))) w := fun _ _ => by kernel_rfl

theorem Ag25 : AggT Try.prog 25 false := fun _ => by kernel_rfl

theorem Sz25 : SzT Try.prog 25 1 := ⟨_, rfl, rfl⟩

theorem Bd33 : Bodied Try.prog 33 := bodied Try.func33 (by kernel_rfl) rfl

def k_laws_szOp (M : Nat → Prop) (w0 : World) (r : Int) (a : Act) (w : World) : Prop :=
  ∃ (σ : Nat → Value) , a = fr 12 (ovl σ [(4, (.int .i64 r))]) ∧ Chg [] w0 w
def s_laws_szOp (a_ : Int × (List Int)) (left : Int) : Option (Int) :=
  (s_laws_szIntS a_.2 left).bind fun r4 =>
  (bif (decide (r4 < 0)) then some (-1) else some r4)
set_option maxHeartbeats 4000000 in
theorem c_laws_szOp {M : Nat → Prop} {w : World} {pa0 : Option Addr} {pn0 pc0 : Nat} (a_ : Int × (List Int)) (left : Int) (h0 : (RT.rs (RT.int .i64)).val M w (.slice pa0 pn0 pc0) a_.2 ([])) (hM : ∀ g, w.heap.size ≤ g → M g) {r : Int} (hs : s_laws_szOp a_ left = some r) :
    Gives Try.prog 9 [(.agg #[(.int .i64 a_.1), (.slice pa0 pn0 pc0)]), (.int .i64 left)] w (fun v w' => v = (.int .i64 r) ∧ Chg [] w w') := by
 refine calls_fr Try.func9 rfl Try.ntmps9 (Nat.le_of_ble_eq_true rfl) ?_
 have hO := Own.start (N := Nw w []) hM Nw.fut
 have hC := Chg.refl [] w
 unfold s_laws_szOp at hs
 refine wp_mono (Q := KPost (k_laws_szOp M w r)) ?_ (fun e a w1 h => ?_)
 rotate_left
 ·cases e
  case ret =>
   obtain ⟨σ, rfl, hrest⟩ := h
   exact ret1x Try.results9 (res_tmp rfl) ⟨rfl, hrest⟩
  all_goals exact (h : False).elim
 refine c_seq (c_region ?_)
 obtain ⟨w2, g2, ew2, eg2, hC2, hb2⟩ := new_block w [(.int .i64 a_.1), (.slice pa0 pn0 pc0)] 27
 refine pl_val (w' := w2) (.pointer (some ⟨g2, 0, none⟩)) (y_box rfl (by rw [ew2, eg2]; kernel_rfl)) ?_
 have h0 := h0.ext hC2
 have hC := hC.ext hC2
 have hO := hO.new1 hC2 eg2 hb2.lt
 refine pl_val (.int .i64 0) (y_assign rfl) ?_
 refine c_nil ?_
 refine c_seq (c_region ?_)
 refine pl_val (.pointer (some ⟨g2, 1, none⟩)) (y_faddr rfl Fa27x1) ?_
 refine pl_val (.slice pa0 pn0 pc0) (y_load rfl ((box_load Ag25 Sz25 hb2 [(.int .i64 a_.1)] [(.slice pa0 pn0 pc0)] [] rfl rfl (fun _ => rfl)) _ (Chg.refl _ _))) ?_
 refine pl_val (.int .i64 left) (y_move rfl) ?_
 obtain ⟨r4, hr4, hs⟩ := bind_some hs
 refine pl_call Bd33 rfl (c_laws_szIntS (M := M) a_.2 left h0 hO.fut hr4) ?_
 rintro _ w3 ⟨rfl, hC3⟩
 have h0 := h0.ext hC3
 have hb2 := hb2.chg hC3 (fun h => nomatch h)
 have hC := hC.ext hC3
 have hO := hO.ext hC3
 refine pl_val (.int .i64 r4) (y_assign rfl) ?_
 refine c_nil ?_
 refine c_seq ?_
 refine c_seq (c_region ?_)
 refine pl_val (.int .i64 r4) (y_move rfl) ?_
 refine pl_val (.bool (decide (r4 < 0))) (y_lss rfl rfl) ?_
 refine c_nil ?_
 rcases bif_some hs with ⟨hc5, hs⟩ | ⟨hc5, hs⟩
 ·skip
  refine c_condT (congrArg Value.bool hc5) ?_
  refine c_seq (c_region ?_)
  refine pl_val (.int .i64 (-1)) (y_assign rfl) ?_
  refine c_nil ?_
  refine wp_ret ?_
  cases hs
  exact ⟨_, fr_ovl 12 ⟨rfl, trivial⟩, hC⟩
 ·skip
  refine c_condF (congrArg Value.bool hc5) ?_
  refine wp_skip ?_
  refine c_seq (c_region ?_)
  refine pl_val (.int .i64 r4) (y_move rfl) ?_
  refine pl_val (.int .i64 r4) (y_assign rfl) ?_
  refine c_nil ?_
  refine wp_ret ?_
  cases hs
  exact ⟨_, fr_ovl 12 ⟨rfl, trivial⟩, hC⟩

theorem Sl22 : SlT Try.prog 22 27 := Try.underlying22

theorem Sz27 : SzT Try.prog 27 2 := ⟨_, rfl, rfl⟩

theorem Ag27 : AggT Try.prog 27 true := fun _ => by kernel_rfl

theorem Bd9 : Bodied Try.prog 9 := bodied Try.func9 (by kernel_rfl) rfl

def k_laws_szOpS (M : Nat → Prop) (w0 : World) (r : Int) (a : Act) (w : World) : Prop :=
  ∃ (σ : Nat → Value) , a = fr 27 (ovl σ [(4, (.int .i64 r))]) ∧ Chg [] w0 w
def s_laws_szOpS (a_ : List (Int × (List Int))) (left : Int) : Option (Int) :=
  (bif (decide ((w64 (left - (a_.length : Int))) < 0)) then some (-1) else (forC (S := Int) (R := Int) (fun k12 s10 =>
  (idx a_ k12).bind fun x16 =>
  (s_laws_szOp (x16.1, x16.2) s10).bind fun r21 =>
  (bif (decide (r21 < 0)) then some (.rt (-1)) else some (.nx r21))) 0 (a_.length : Int) (w64 (left - (a_.length : Int)))).bind fun o14 => after o14 (fun r_ => some r_) (fun s10 =>
  some s10))
set_option maxHeartbeats 4000000 in
theorem c_laws_szOpS {M : Nat → Prop} {w : World} {pa0 : Option Addr} {pn0 pc0 : Nat} (a_ : List (Int × (List Int))) (left : Int) (h0 : (RT.rs (RT.pr (RT.int .i64) (RT.rs (RT.int .i64)))).val M w (.slice pa0 pn0 pc0) a_ ([])) (hM : ∀ g, w.heap.size ≤ g → M g) {r : Int} (hs : s_laws_szOpS a_ left = some r) :
    Gives Try.prog 32 [(.slice pa0 pn0 pc0), (.int .i64 left)] w (fun v w' => v = (.int .i64 r) ∧ Chg [] w w') := by
 refine calls_fr Try.func32 rfl Try.ntmps32 (Nat.le_of_ble_eq_true rfl) ?_
 have hO := Own.start (N := Nw w []) hM Nw.fut
 have hC := Chg.refl [] w
 unfold s_laws_szOpS at hs
 refine wp_mono (Q := KPost (k_laws_szOpS M w r)) ?_ (fun e a w1 h => ?_)
 rotate_left
 ·cases e
  case ret =>
   obtain ⟨σ, rfl, hrest⟩ := h
   exact ret1x Try.results32 (res_tmp rfl) ⟨rfl, hrest⟩
  all_goals exact (h : False).elim
 refine c_seq (c_region ?_)
 refine pl_val (.int .i64 0) (y_assign rfl) ?_
 refine c_nil ?_
 refine c_seq (c_region ?_)
 refine pl_val (.int .i64 left) (y_move rfl) ?_
 refine pl_val (.slice pa0 pn0 pc0) (y_move rfl) ?_
 refine pl_val (.int .i64 (a_.length : Int)) (y_len' Sl22 (rs_len h0) rfl) ?_
 refine pl_val (.int .i64 (w64 (left - (a_.length : Int)))) (y_sub rfl rfl) ?_
 refine pl_val (.int .i64 (w64 (left - (a_.length : Int)))) (y_assign rfl) ?_
 refine c_nil ?_
 refine c_seq ?_
 refine c_seq (c_region ?_)
 refine pl_val (.int .i64 (w64 (left - (a_.length : Int)))) (y_move rfl) ?_
 refine pl_val (.bool (decide ((w64 (left - (a_.length : Int))) < 0))) (y_lss rfl rfl) ?_
 refine c_nil ?_
 rcases bif_some hs with ⟨hc2, hs⟩ | ⟨hc2, hs⟩
 ·skip
  refine c_condT (congrArg Value.bool hc2) ?_
  refine c_seq (c_region ?_)
  refine pl_val (.int .i64 (-1)) (y_assign rfl) ?_
  refine c_nil ?_
  refine wp_ret ?_
  cases hs
  exact ⟨_, fr_ovl 27 ⟨rfl, trivial⟩, hC⟩
 ·skip
  refine c_condF (congrArg Value.bool hc2) ?_
  refine wp_skip ?_
  refine c_seq ?_
  refine c_seq (c_region ?_)
  refine pl_val (.int .i64 0) (y_assign rfl) ?_
  refine c_nil ?_
  obtain ⟨o14, hl15, hs⟩ := bind_some hs
  refine wp_block ?_
  refine wp_forC (id := 0) (a_.length : Int) (I := fun k12 s10 a w11 => ∃ (σ : Nat → Value), a = fr 27 (ovl σ [(0, (.slice pa0 pn0 pc0)), (1, (.int .i64 s10)), (5, (.int .i64 k12))]) ∧ Chg [] w w11 ∧ Own (Nw w []) M w11 ([]) ∧ (RT.rs (RT.pr (RT.int .i64) (RT.rs (RT.int .i64)))).val M w11 (.slice pa0 pn0 pc0) a_ ([])) (J := fun s10 a w11 => ∃ (σ : Nat → Value), a = fr 27 (ovl σ [(1, (.int .i64 s10))]) ∧ Chg [] w w11 ∧ Own (Nw w []) M w11 ([]) ∧ (RT.rs (RT.pr (RT.int .i64) (RT.rs (RT.int .i64)))).val M w11 (.slice pa0 pn0 pc0) a_ ([])) (K := (k_laws_szOpS M w)) ?_ ?_ 0 (w64 (left - (a_.length : Int))) o14 _ _ ?_ hl15 ?_
  ·rintro k12 s10 a w11 ⟨σ, rfl, hC, hO, h0⟩ hlt
   refine c_seq ?_
   refine c_seq (c_region ?_)
   refine pl_val (.int .i64 k12) (y_move rfl) ?_
   refine pl_val (.slice pa0 pn0 pc0) (y_move rfl) ?_
   refine pl_val (.int .i64 (a_.length : Int)) (y_len' Sl22 (rs_len h0) rfl) ?_
   refine pl_val (.bool (decide (k12 < (a_.length : Int)))) (y_lss rfl rfl) ?_
   refine c_nil ?_
   refine c_condF (congrArg Value.bool (decide_eq_false hlt)) ?_
   refine wp_exit ?_
   exact ⟨rfl, _, fr_ovl 27 ⟨rfl, trivial⟩, hC, hO, h0⟩
  ·rintro k12 s10 o14 a w11 ⟨σ, rfl, hC, hO, h0⟩ hlt hw hs
   refine c_seq ?_
   refine c_seq (c_region ?_)
   refine pl_val (.int .i64 k12) (y_move rfl) ?_
   refine pl_val (.slice pa0 pn0 pc0) (y_move rfl) ?_
   refine pl_val (.int .i64 (a_.length : Int)) (y_len' Sl22 (rs_len h0) rfl) ?_
   refine pl_val (.bool (decide (k12 < (a_.length : Int)))) (y_lss rfl rfl) ?_
   refine c_nil ?_
   refine c_condT (congrArg Value.bool (decide_eq_true hlt)) ?_
   refine wp_skip ?_
   refine c_seq ?_
   refine wp_block ?_
   refine c_seq (c_region ?_)
   refine pl_val (.slice pa0 pn0 pc0) (y_move rfl) ?_
   refine pl_val (.int .i64 k12) (y_move rfl) ?_
   obtain ⟨x16, hx16, hs⟩ := bind_some hs
   obtain ⟨b17, o17, hp17, ha17⟩ := rs_idx Sl22 Sz27 h0 hx16
   refine pl_val (.pointer (some ⟨b17, o17, none⟩)) (hp17 _ _ _ _ _ _ _ _ _ rfl rfl) ?_
   obtain ⟨v18, hl18, hv18⟩ := at_load Ag27 Sz27 (by intro h; cases h) ha17
   obtain ⟨cs18, rfl, hr18⟩ := hv18
   obtain ⟨cc18x1, cd18x1, rfl, hh18x1, ht18x1⟩ := pr_open hr18
   obtain rfl := int_rel hh18x1
   obtain ⟨a18x2, n18x2, c18x2, rfl, hv18x2⟩ := rs_rel ht18x1
   refine pl_val (.agg #[(.int .i64 x16.1), (.slice a18x2 n18x2 c18x2)]) (y_load rfl (hl18 _ (Chg.refl _ _))) ?_
   refine pl_val (.int .i64 s10) (y_move rfl) ?_
   obtain ⟨r21, hr21, hs⟩ := bind_some hs
   refine pl_call Bd9 rfl (c_laws_szOp (M := M) (x16.1, x16.2) s10 hv18x2 hO.fut hr21) ?_
   rintro _ w20 ⟨rfl, hC20⟩
   have h0 := h0.ext hC20
   have hv18x2 := hv18x2.ext hC20
   have hC := hC.ext hC20
   have hO := hO.ext hC20
   refine pl_val (.int .i64 r21) (y_assign rfl) ?_
   refine c_nil ?_
   refine c_seq (c_region ?_)
   refine pl_val (.int .i64 r21) (y_move rfl) ?_
   refine pl_val (.bool (decide (r21 < 0))) (y_lss rfl rfl) ?_
   refine c_nil ?_
   rcases bif_some hs with ⟨hc22, hs⟩ | ⟨hc22, hs⟩
   ·skip
    refine c_condT (congrArg Value.bool hc22) ?_
    refine c_seq (c_region ?_)
    refine pl_val (.int .i64 (-1)) (y_assign rfl) ?_
    refine c_nil ?_
    refine wp_ret ?_
    cases hs
    exact ⟨_, fr_ovl 27 ⟨rfl, trivial⟩, hC⟩
   ·skip
    refine c_condF (congrArg Value.bool hc22) ?_
    refine wp_skip ?_
    refine c_region ?_
    refine pl_val (.int .i64 k12) (y_move rfl) ?_
    refine pl_val (.int .i64 (w64 (k12 + 1))) (y_add rfl rfl) ?_
    refine pl_val (.int .i64 (w64 (k12 + 1))) (y_assign rfl) ?_
    refine c_nil ?_
    cases hs
    exact ⟨_, fr_ovl 27 ⟨rfl, rfl, congrArg (Value.int .i64) hw, trivial⟩, hC, hO, h0⟩
  ·skip
   exact ⟨_, fr_ovl 27 ⟨rfl, rfl, rfl, trivial⟩, hC, hO, h0⟩
  ·cases o14 with
   | nx _ => exact True.intro
   | rt r_ =>
    have hs := after_rt hs
    intro a1 w1 hK
    cases hs
    exact hK
   | br s10 =>
    have hs := after_br hs
    rintro a1 w11 ⟨σ, rfl, hC, hO, h0⟩
    refine c_seq (c_region ?_)
    refine pl_val (.int .i64 s10) (y_move rfl) ?_
    refine pl_val (.int .i64 s10) (y_assign rfl) ?_
    refine c_nil ?_
    refine wp_ret ?_
    cases hs
    exact ⟨_, fr_ovl 27 ⟨rfl, trivial⟩, hC⟩

theorem Fa24x1 : ∀ (a : Addr) (w : World), (Instr.fieldAt 24 (.pointer (some a)) 1).run Try.prog w = .ok (.pointer (some (a.add 1))) w := fun _ _ => by kernel_rfl

theorem Ag22 : AggT Try.prog 22 false := fun _ => by kernel_rfl

theorem Sz22 : SzT Try.prog 22 1 := ⟨_, rfl, rfl⟩

theorem Bd32 : Bodied Try.prog 32 := bodied Try.func32 (by kernel_rfl) rfl

def k_laws_szAlgebra (M : Nat → Prop) (w0 : World) (r : Int) (a : Act) (w : World) : Prop :=
  ∃ (σ : Nat → Value) , a = fr 12 (ovl σ [(4, (.int .i64 r))]) ∧ Chg [] w0 w
def s_laws_szAlgebra (a_ : Int × (List (Int × (List Int)))) (left : Int) : Option (Int) :=
  (s_laws_szOpS a_.2 left).bind fun r4 =>
  (bif (decide (r4 < 0)) then some (-1) else some r4)
set_option maxHeartbeats 4000000 in
theorem c_laws_szAlgebra {M : Nat → Prop} {w : World} {pa0 : Option Addr} {pn0 pc0 : Nat} (a_ : Int × (List (Int × (List Int)))) (left : Int) (h0 : (RT.rs (RT.pr (RT.int .i64) (RT.rs (RT.int .i64)))).val M w (.slice pa0 pn0 pc0) a_.2 ([])) (hM : ∀ g, w.heap.size ≤ g → M g) {r : Int} (hs : s_laws_szAlgebra a_ left = some r) :
    Gives Try.prog 8 [(.agg #[(.int .i64 a_.1), (.slice pa0 pn0 pc0)]), (.int .i64 left)] w (fun v w' => v = (.int .i64 r) ∧ Chg [] w w') := by
 refine calls_fr Try.func8 rfl Try.ntmps8 (Nat.le_of_ble_eq_true rfl) ?_
 have hO := Own.start (N := Nw w []) hM Nw.fut
 have hC := Chg.refl [] w
 unfold s_laws_szAlgebra at hs
 refine wp_mono (Q := KPost (k_laws_szAlgebra M w r)) ?_ (fun e a w1 h => ?_)
 rotate_left
 ·cases e
  case ret =>
   obtain ⟨σ, rfl, hrest⟩ := h
   exact ret1x Try.results8 (res_tmp rfl) ⟨rfl, hrest⟩
  all_goals exact (h : False).elim
 refine c_seq (c_region ?_)
 obtain ⟨w2, g2, ew2, eg2, hC2, hb2⟩ := new_block w [(.int .i64 a_.1), (.slice pa0 pn0 pc0)] 24
 refine pl_val (w' := w2) (.pointer (some ⟨g2, 0, none⟩)) (y_box rfl (by rw [ew2, eg2]; kernel_rfl)) ?_
 have h0 := h0.ext hC2
 have hC := hC.ext hC2
 have hO := hO.new1 hC2 eg2 hb2.lt
 refine pl_val (.int .i64 0) (y_assign rfl) ?_
 refine c_nil ?_
 refine c_seq (c_region ?_)
 refine pl_val (.pointer (some ⟨g2, 1, none⟩)) (y_faddr rfl Fa24x1) ?_
 refine pl_val (.slice pa0 pn0 pc0) (y_load rfl ((box_load Ag22 Sz22 hb2 [(.int .i64 a_.1)] [(.slice pa0 pn0 pc0)] [] rfl rfl (fun _ => rfl)) _ (Chg.refl _ _))) ?_
 refine pl_val (.int .i64 left) (y_move rfl) ?_
 obtain ⟨r4, hr4, hs⟩ := bind_some hs
 refine pl_call Bd32 rfl (c_laws_szOpS (M := M) a_.2 left h0 hO.fut hr4) ?_
 rintro _ w3 ⟨rfl, hC3⟩
 have h0 := h0.ext hC3
 have hb2 := hb2.chg hC3 (fun h => nomatch h)
 have hC := hC.ext hC3
 have hO := hO.ext hC3
 refine pl_val (.int .i64 r4) (y_assign rfl) ?_
 refine c_nil ?_
 refine c_seq ?_
 refine c_seq (c_region ?_)
 refine pl_val (.int .i64 r4) (y_move rfl) ?_
 refine pl_val (.bool (decide (r4 < 0))) (y_lss rfl rfl) ?_
 refine c_nil ?_
 rcases bif_some hs with ⟨hc5, hs⟩ | ⟨hc5, hs⟩
 ·skip
  refine c_condT (congrArg Value.bool hc5) ?_
  refine c_seq (c_region ?_)
  refine pl_val (.int .i64 (-1)) (y_assign rfl) ?_
  refine c_nil ?_
  refine wp_ret ?_
  cases hs
  exact ⟨_, fr_ovl 12 ⟨rfl, trivial⟩, hC⟩
 ·skip
  refine c_condF (congrArg Value.bool hc5) ?_
  refine wp_skip ?_
  refine c_seq (c_region ?_)
  refine pl_val (.int .i64 r4) (y_move rfl) ?_
  refine pl_val (.int .i64 r4) (y_assign rfl) ?_
  refine c_nil ?_
  refine wp_ret ?_
  cases hs
  exact ⟨_, fr_ovl 12 ⟨rfl, trivial⟩, hC⟩

theorem Rw25 : RowT Try.prog 25 3 1 [(.int .i64 0)] := ⟨Try.underlying25, ⟨_, _, rfl, rfl, rfl, rfl, by decide⟩, rfl, by decide⟩

theorem Sz3 : SzT Try.prog 3 1 := ⟨_, rfl, rfl⟩

theorem Ag3 : AggT Try.prog 3 false := fun _ => by kernel_rfl

def k_laws_toIntS (M : Nat → Prop) (w0 : World) (r : (List Int)) (a : Act) (w : World) : Prop :=
  ∃ (σ : Nat → Value) (ra0 : Option Addr) (rn0 rc0 : Nat) (rf0 : List Nat), a = fr 22 (ovl σ [(2, (.slice ra0 rn0 rc0))]) ∧ Chg [] w0 w ∧ (RT.os 3 (RT.int .i64)).val M w (.slice ra0 rn0 rc0) r rf0 ∧ Own (Nw w0 []) (fun _ => True) w (rf0 ++ ([]))
def s_laws_toIntS (a_ : List Int) : Option ((List Int)) :=
  (mks (a_.length : Int) (0 : Int)).bind fun y3 =>
  (forC (S := (List Int)) (R := (List Int)) (fun k18 s16 =>
  (idx a_ k18).bind fun x24 =>
  (idx s16 k18).bind fun x26 =>
  some (.nx (List.set s16 (Int.toNat k18) x24))) 0 (a_.length : Int) y3).bind fun o20 => after o20 (fun r_ => some r_) (fun s16 =>
  some s16)
set_option maxHeartbeats 4000000 in
theorem c_laws_toIntS {M : Nat → Prop} {w : World} {pa0 : Option Addr} {pn0 pc0 : Nat} (a_ : List Int) (h0 : (RT.rs (RT.int .i64)).val M w (.slice pa0 pn0 pc0) a_ ([])) (hM : ∀ g, w.heap.size ≤ g → M g) {r : (List Int)} (hs : s_laws_toIntS a_ = some r) :
    Gives Try.prog 38 [(.slice pa0 pn0 pc0)] w (fun v w' => ∃ (ra0 : Option Addr) (rn0 rc0 : Nat) (rf0 : List Nat), v = (.slice ra0 rn0 rc0) ∧ Chg [] w w' ∧ (RT.os 3 (RT.int .i64)).val M w' (.slice ra0 rn0 rc0) r rf0 ∧ Own (Nw w []) (fun _ => True) w' (rf0 ++ ([]))) := by
 refine calls_fr Try.func38 rfl Try.ntmps38 (Nat.le_of_ble_eq_true rfl) ?_
 have hO := Own.start (N := Nw w []) hM Nw.fut
 have hC := Chg.refl [] w
 unfold s_laws_toIntS at hs
 refine wp_mono (Q := KPost (k_laws_toIntS M w r)) ?_ (fun e a w1 h => ?_)
 rotate_left
 ·cases e
  case ret =>
   obtain ⟨σ, ra0, rn0, rc0, rf0, rfl, hrest⟩ := h
   exact ret1x Try.results38 (res_tmp rfl) ⟨ra0, rn0, rc0, rf0, rfl, hrest⟩
  all_goals exact (h : False).elim
 refine c_seq (c_region ?_)
 refine pl_val (.slice none 0 0) (y_assign rfl) ?_
 refine c_nil ?_
 refine c_seq (c_region ?_)
 refine pl_val (.slice pa0 pn0 pc0) (y_move rfl) ?_
 refine pl_val (.int .i64 (a_.length : Int)) (y_len' Sl25 (rs_len h0) rfl) ?_
 obtain ⟨y3, hy3, hs⟩ := bind_some hs
 obtain ⟨a2, n2, c2, w2, f2, hm2, hC2, hfr2, hv2⟩ := mk_os (M := M) (w := w) (r := (RT.int .i64)) Rw25 hy3 (fun _ _ => ⟨rfl, rfl⟩)
 refine pl_val (w' := w2) (.slice a2 n2 c2) (y_make rfl rfl hm2) ?_
 have h0 := h0.ext hC2
 have hC := hC.ext hC2
 have hO := hO.new hC2 hfr2 (os_nodup hv2) hv2.fpl
 refine pl_val (.slice a2 n2 c2) (y_assign rfl) ?_
 refine c_nil ?_
 refine c_seq ?_
 refine c_seq (c_region ?_)
 refine pl_val (.int .i64 0) (y_assign rfl) ?_
 refine c_nil ?_
 obtain ⟨o20, hl21, hs⟩ := bind_some hs
 refine wp_block ?_
 refine wp_forC (id := 0) (a_.length : Int) (I := fun k18 s16 a w17 => ∃ (σ : Nat → Value) (f22 : List Nat), a = fr 22 (ovl σ [(0, (.slice pa0 pn0 pc0)), (3, (.slice a2 n2 c2)), (4, (.int .i64 k18))]) ∧ Chg [] w w17 ∧ Own (Nw w []) M w17 (f22 ++ []) ∧ (RT.rs (RT.int .i64)).val M w17 (.slice pa0 pn0 pc0) a_ ([]) ∧ (RT.os 3 (RT.int .i64)).val M w17 (.slice a2 n2 c2) s16 f22) (J := fun s16 a w17 => ∃ (σ : Nat → Value) (f23 : List Nat), a = fr 22 (ovl σ [(3, (.slice a2 n2 c2))]) ∧ Chg [] w w17 ∧ Own (Nw w []) M w17 (f23 ++ []) ∧ (RT.rs (RT.int .i64)).val M w17 (.slice pa0 pn0 pc0) a_ ([]) ∧ (RT.os 3 (RT.int .i64)).val M w17 (.slice a2 n2 c2) s16 f23) (K := (k_laws_toIntS M w)) ?_ ?_ 0 y3 o20 _ _ ?_ hl21 ?_
 ·rintro k18 s16 a w17 ⟨σ, f22, rfl, hC, hO, h0, hv22⟩ hlt
  refine c_seq ?_
  refine c_seq (c_region ?_)
  refine pl_val (.int .i64 k18) (y_move rfl) ?_
  refine pl_val (.slice pa0 pn0 pc0) (y_move rfl) ?_
  refine pl_val (.int .i64 (a_.length : Int)) (y_len' Sl25 (rs_len h0) rfl) ?_
  refine pl_val (.bool (decide (k18 < (a_.length : Int)))) (y_lss rfl rfl) ?_
  refine c_nil ?_
  refine c_condF (congrArg Value.bool (decide_eq_false hlt)) ?_
  refine wp_exit ?_
  exact ⟨rfl, _, f22, fr_ovl 22 ⟨rfl, trivial⟩, hC, hO, h0, hv22⟩
 ·rintro k18 s16 o20 a w17 ⟨σ, f22, rfl, hC, hO, h0, hv22⟩ hlt hw hs
  refine c_seq ?_
  refine c_seq (c_region ?_)
  refine pl_val (.int .i64 k18) (y_move rfl) ?_
  refine pl_val (.slice pa0 pn0 pc0) (y_move rfl) ?_
  refine pl_val (.int .i64 (a_.length : Int)) (y_len' Sl25 (rs_len h0) rfl) ?_
  refine pl_val (.bool (decide (k18 < (a_.length : Int)))) (y_lss rfl rfl) ?_
  refine c_nil ?_
  refine c_condT (congrArg Value.bool (decide_eq_true hlt)) ?_
  refine wp_skip ?_
  refine c_seq ?_
  refine wp_block ?_
  refine c_region ?_
  refine pl_val (.slice a2 n2 c2) (y_move rfl) ?_
  refine pl_val (.int .i64 k18) (y_move rfl) ?_
  refine pl_val (.slice pa0 pn0 pc0) (y_move rfl) ?_
  refine pl_val (.int .i64 k18) (y_move rfl) ?_
  obtain ⟨x24, hx24, hs⟩ := bind_some hs
  obtain ⟨b25, o25, hp25, ha25⟩ := rs_idx Sl25 Sz3 h0 hx24
  refine pl_val (.pointer (some ⟨b25, o25, none⟩)) (hp25 _ _ _ _ _ _ _ _ _ rfl rfl) ?_
  refine pl_val (.int .i64 x24) (y_load rfl ((at_load_int Ag3 Sz3 ha25) _ (Chg.refl _ _))) ?_
  obtain ⟨x26, hx26, hs⟩ := bind_some hs
  obtain ⟨g27, f27, hg27, hk27, hp27, ha27, hf27⟩ := os_idx Sl25 Sz3 hv22 hx26
  refine pl_val (.pointer (some ⟨g27, 0 + Int.toNat k18 * 1, none⟩)) (hp27 _ _ _ _ _ _ _ _ _ rfl rfl) ?_
  obtain ⟨w28, f28, hst28, hC28, hf28, hv28⟩ := os_store (P := Try.prog) (c' := [(.int .i64 x24)]) hg27 hv22 hk27 (fun g hg => hO.inM g (os_block hv22 g (by simpa using hg))) ⟨rfl, rfl⟩ List.nodup_nil (fun _ h => nomatch h) (fun _ h => .inl h)
  have hG28 : ∀ q ∈ [g27], q ∈ f22 := fun q hq => os_block hv22 q (by rw [hg27]; exact hq)
  refine pl_skip (w' := w28) (ys_store rfl rfl (hst28 _ _ rfl Sz3)) ?_
  have h0 := h0.mut hC28 (fun g hg => hO.inM g (hG28 g hg)) (fun _ _ h => nomatch h)
  have hC := hC.step hC28 (fun g hg => hO.inN g (hG28 g hg))
  have hO := hO.grow hC28 (fun q hq => .inl ((hf28 q hq).resolve_right (fun h => nomatch h))) (os_nodup hv28) hv28.fpl
  refine c_nil ?_
  refine c_region ?_
  refine pl_val (.int .i64 k18) (y_move rfl) ?_
  refine pl_val (.int .i64 (w64 (k18 + 1))) (y_add rfl rfl) ?_
  refine pl_val (.int .i64 (w64 (k18 + 1))) (y_assign rfl) ?_
  refine c_nil ?_
  cases hs
  exact ⟨_, f28, fr_ovl 22 ⟨rfl, rfl, congrArg (Value.int .i64) hw, trivial⟩, hC, hO, h0, hv28⟩
 ·skip
  exact ⟨_, f2, fr_ovl 22 ⟨rfl, rfl, rfl, trivial⟩, hC, hO, h0, hv2⟩
 ·cases o20 with
  | nx _ => exact True.intro
  | rt r_ =>
   have hs := after_rt hs
   intro a1 w1 hK
   cases hs
   exact hK
  | br s16 =>
   have hs := after_br hs
   rintro a1 w17 ⟨σ, f23, rfl, hC, hO, h0, hv23⟩
   refine c_seq (c_region ?_)
   refine pl_val (.slice a2 n2 c2) (y_move rfl) ?_
   refine pl_val (.slice a2 n2 c2) (y_assign rfl) ?_
   refine c_nil ?_
   refine wp_ret ?_
   cases hs
   exact ⟨_, a2, n2, c2, f23, fr_ovl 22 ⟨rfl, trivial⟩, hC, hv23, hO.top⟩

theorem Ag36 : AggT Try.prog 36 true := fun _ => by kernel_rfl

theorem Sz36 : SzT Try.prog 36 2 := ⟨_, rfl, rfl⟩

theorem Fa27x0 : ∀ (a : Addr) (w : World), (Instr.fieldAt 27 (.pointer (some a)) 0).run Try.prog w = .ok (.pointer (some (a.add 0))) w := fun _ _ => by kernel_rfl

theorem Fa36x0 : ∀ (a : Addr) (w : World), (Instr.fieldAt 36 (.pointer (some a)) 0).run Try.prog w = .ok (.pointer (some (a.add 0))) w := fun _ _ => by kernel_rfl

theorem Bd38 : Bodied Try.prog 38 := bodied Try.func38 (by kernel_rfl) rfl

theorem Fa36x1 : ∀ (a : Addr) (w : World), (Instr.fieldAt 36 (.pointer (some a)) 1).run Try.prog w = .ok (.pointer (some (a.add 1))) w := fun _ _ => by kernel_rfl

def k_laws_toOp (M : Nat → Prop) (w0 : World) (r : (Int × (List Int))) (a : Act) (w : World) : Prop :=
  ∃ (σ : Nat → Value) (rg2 : Nat) (ra0 : Option Addr) (rn0 rc0 : Nat) (rf0 : List Nat), a = fr 12 (ovl σ [(2, (.pointer (some ⟨rg2, 0, none⟩)))]) ∧ BoxV w rg2 36 [(.int .i64 r.1), (.slice ra0 rn0 rc0)] ∧ Chg [] w0 w ∧ (RT.os 3 (RT.int .i64)).val M w (.slice ra0 rn0 rc0) r.2 rf0 ∧ Own (Nw w0 []) (fun _ => True) w (rf0 ++ ([]))
def s_laws_toOp (a_ : Int × (List Int)) : Option ((Int × (List Int))) :=
  (s_laws_toIntS a_.2).bind fun r7 =>
  some (a_.1, r7)
set_option maxHeartbeats 4000000 in
theorem c_laws_toOp {M : Nat → Prop} {w : World} {pa0 : Option Addr} {pn0 pc0 : Nat} (a_ : Int × (List Int)) (h0 : (RT.rs (RT.int .i64)).val M w (.slice pa0 pn0 pc0) a_.2 ([])) (hM : ∀ g, w.heap.size ≤ g → M g) {r : (Int × (List Int))} (hs : s_laws_toOp a_ = some r) :
    Gives Try.prog 12 [(.agg #[(.int .i64 a_.1), (.slice pa0 pn0 pc0)])] w (fun v w' => ∃ (ra0 : Option Addr) (rn0 rc0 : Nat) (rf0 : List Nat), v = (.agg #[(.int .i64 r.1), (.slice ra0 rn0 rc0)]) ∧ Chg [] w w' ∧ (RT.os 3 (RT.int .i64)).val M w' (.slice ra0 rn0 rc0) r.2 rf0 ∧ Own (Nw w []) (fun _ => True) w' (rf0 ++ ([]))) := by
 refine calls_fr Try.func12 rfl Try.ntmps12 (Nat.le_of_ble_eq_true rfl) ?_
 have hO := Own.start (N := Nw w []) hM Nw.fut
 have hC := Chg.refl [] w
 unfold s_laws_toOp at hs
 refine wp_mono (Q := KPost (k_laws_toOp M w r)) ?_ (fun e a w1 h => ?_)
 rotate_left
 ·cases e
  case ret =>
   obtain ⟨σ, rg2, ra0, rn0, rc0, rf0, rfl, hbrg2, hrest⟩ := h
   exact ret1x Try.results12 (res_cell rfl (box_load Ag36 Sz36 hbrg2 [] _ [] rfl rfl (fun h => nomatch h))) ⟨ra0, rn0, rc0, rf0, rfl, hrest⟩
  all_goals exact (h : False).elim
 refine c_seq (c_region ?_)
 obtain ⟨w2, g2, ew2, eg2, hC2, hb2⟩ := new_block w [(.int .i64 a_.1), (.slice pa0 pn0 pc0)] 27
 refine pl_val (w' := w2) (.pointer (some ⟨g2, 0, none⟩)) (y_box rfl (by rw [ew2, eg2]; kernel_rfl)) ?_
 have h0 := h0.ext hC2
 have hC := hC.ext hC2
 have hO := hO.new1 hC2 eg2 hb2.lt
 obtain ⟨w3, g3, ew3, eg3, hC3, hb3⟩ := new_block w2 [(.int .i64 0), (.slice none 0 0)] 36
 refine pl_val (w' := w3) (.pointer (some ⟨g3, 0, none⟩)) (y_alloc (by rw [ew3, eg3]; kernel_rfl)) ?_
 have h0 := h0.ext hC3
 have hb2 := hb2.chg hC3 (fun h => nomatch h)
 have hC := hC.ext hC3
 have hO := hO.new1 hC3 eg3 hb3.lt
 refine c_nil ?_
 refine c_seq (c_region ?_)
 obtain ⟨w4, g4, ew4, eg4, hC4, hb4⟩ := new_block w3 [(.int .i64 0), (.slice none 0 0)] 36
 refine pl_val (w' := w4) (.pointer (some ⟨g4, 0, none⟩)) (y_alloc (by rw [ew4, eg4]; kernel_rfl)) ?_
 have h0 := h0.ext hC4
 have hb2 := hb2.chg hC4 (fun h => nomatch h)
 have hb3 := hb3.chg hC4 (fun h => nomatch h)
 have hC := hC.ext hC4
 have hO := hO.new1 hC4 eg4 hb4.lt
 refine c_nil ?_
 refine c_seq (c_region ?_)
 refine pl_val (.pointer (some ⟨g2, 0, none⟩)) (y_faddr rfl Fa27x0) ?_
 refine pl_val (.int .i64 a_.1) (y_load rfl ((box_load Ag3 Sz3 hb2 [] [(.int .i64 a_.1)] [(.slice pa0 pn0 pc0)] rfl rfl (fun _ => rfl)) _ (Chg.refl _ _))) ?_
 refine pl_val (.pointer (some ⟨g4, 0, none⟩)) (y_faddr rfl Fa36x0) ?_
 obtain ⟨w5, hst5, hC5, hb5⟩ := box_store (P := Try.prog) hb4 [] [(.int .i64 0)] [(.slice none 0 0)] [(.int .i64 a_.1)] rfl rfl (by intro u hu; simp only [List.mem_cons, List.not_mem_nil, or_false] at hu; rcases hu with rfl <;> rfl)
 refine pl_skip (w' := w5) (ys_store rfl rfl (hst5 _ _ rfl Sz3)) ?_
 have h0 := h0.mut hC5 (fun g hg => hO.inM g ((fun _ h => h) g hg)) (fun _ _ h => nomatch h)
 have hb2 := hb2.chg hC5 (fun hg => hO.apart _ ((fun _ h => h) _ hg) (mem_r (mem_l (List.mem_singleton.2 rfl))))
 have hb3 := hb3.chg hC5 (fun hg => hO.apart _ ((fun _ h => h) _ hg) (mem_l (List.mem_singleton.2 rfl)))
 have hC := hC.step hC5 (fun g hg => hO.inN g ((fun _ h => h) g hg))
 have hO := hO.ext hC5
 have hb5 : BoxV w5 g4 36 [(.int .i64 a_.1), (.slice none 0 0)] := hb5
 refine c_nil ?_
 refine c_seq (c_region ?_)
 refine pl_val (.pointer (some ⟨g2, 1, none⟩)) (y_faddr rfl Fa27x1) ?_
 refine pl_val (.slice pa0 pn0 pc0) (y_load rfl ((box_load Ag25 Sz25 hb2 [(.int .i64 a_.1)] [(.slice pa0 pn0 pc0)] [] rfl rfl (fun _ => rfl)) _ (Chg.refl _ _))) ?_
 obtain ⟨r7, hr7, hs⟩ := bind_some hs
 refine pl_call Bd38 rfl (c_laws_toIntS (M := M) a_.2 h0 hO.fut hr7) ?_
 rintro _ w6 ⟨a6x0, n6x0, c6x0, f6x0, rfl, hC6, hv6x0, hOc6⟩
 have h0 := h0.ext hC6
 have hb2 := hb2.chg hC6 (fun h => nomatch h)
 have hb3 := hb3.chg hC6 (fun h => nomatch h)
 have hb5 := hb5.chg hC6 (fun h => nomatch h)
 have hC := hC.ext hC6
 have hO := Own.join0 hO hC6 hOc6
 have hO := hO.perm (R := f6x0 ++ (([g4]) ++ (([g3]) ++ (([g2]) ++ ([]))))) (by simp)
 refine pl_val (.pointer (some ⟨g4, 1, none⟩)) (y_faddr rfl Fa36x1) ?_
 obtain ⟨w9, hst9, hC9, hb9⟩ := box_store (P := Try.prog) hb5 [(.int .i64 a_.1)] [(.slice none 0 0)] [] [(.slice a6x0 n6x0 c6x0)] rfl rfl (by intro u hu; simp only [List.mem_cons, List.not_mem_nil, or_false] at hu; rcases hu with rfl <;> rfl)
 refine pl_skip (w' := w9) (ys_store rfl rfl (hst9 _ _ rfl Sz25)) ?_
 have hO := hO.fr1
 have h0 := h0.mut hC9 (fun g hg => hO.inM g ((fun _ h => h) g hg)) (fun _ _ h => nomatch h)
 have hb2 := hb2.chg hC9 (fun hg => hO.apart _ ((fun _ h => h) _ hg) (mem_r (mem_r (mem_l (List.mem_singleton.2 rfl)))))
 have hb3 := hb3.chg hC9 (fun hg => hO.apart _ ((fun _ h => h) _ hg) (mem_r (mem_l (List.mem_singleton.2 rfl))))
 have hv6x0 := hv6x0.mut hC9 (fun g hg => hO.inM g ((fun _ h => h) g hg)) (fun g hg e => hO.apart g ((fun _ h => h) g hg) (mem_l (e)))
 have hC := hC.step hC9 (fun g hg => hO.inN g ((fun _ h => h) g hg))
 have hO := hO.ext hC9
 have hb9 : BoxV w9 g4 36 [(.int .i64 a_.1), (.slice a6x0 n6x0 c6x0)] := hb9
 refine c_nil ?_
 refine c_seq (c_region ?_)
 refine pl_val (.agg #[(.int .i64 a_.1), (.slice a6x0 n6x0 c6x0)]) (y_load rfl ((box_load Ag36 Sz36 hb9 [] [(.int .i64 a_.1), (.slice a6x0 n6x0 c6x0)] [] rfl rfl (fun h => nomatch h)) _ (Chg.refl _ _))) ?_
 obtain ⟨w10, hst10, hC10, hb10⟩ := box_store (P := Try.prog) hb3 [] [(.int .i64 0), (.slice none 0 0)] [] [(.int .i64 a_.1), (.slice a6x0 n6x0 c6x0)] rfl rfl (by intro u hu; simp only [List.mem_cons, List.not_mem_nil, or_false] at hu; rcases hu with rfl | rfl <;> rfl)
 refine pl_skip (w' := w10) (ys_store rfl rfl (hst10 _ _ rfl Sz36)) ?_
 have hO := hO.fr2
 have hb2 := hb2.chg hC10 (fun hg => hO.apart _ ((fun _ h => h) _ hg) (mem_r (mem_r (mem_l (List.mem_singleton.2 rfl)))))
 have hb9 := hb9.chg hC10 (fun hg => hO.apart _ ((fun _ h => h) _ hg) (mem_l (List.mem_singleton.2 rfl)))
 have hv6x0 := hv6x0.mut hC10 (fun g hg => hO.inM g ((fun _ h => h) g hg)) (fun g hg e => hO.apart g ((fun _ h => h) g hg) (mem_r (mem_l (e))))
 have hC := hC.step hC10 (fun g hg => hO.inN g ((fun _ h => h) g hg))
 have hO := hO.ext hC10
 have hb10 : BoxV w10 g3 36 [(.int .i64 a_.1), (.slice a6x0 n6x0 c6x0)] := hb10
 refine c_nil ?_
 refine wp_ret ?_
 cases hs
 have hO := hO.drop
 have hO := hO.drop
 have hO := hO.fr1
 have hO := hO.drop
 exact ⟨_, g3, a6x0, n6x0, c6x0, f6x0, fr_ovl 12 ⟨rfl, trivial⟩, hb10, hC, hv6x0, hO.top⟩

theorem Rw32 : RowT Try.prog 32 36 2 [(.int .i64 0), (.slice none 0 0)] := ⟨Try.underlying32, ⟨_, _, rfl, rfl, rfl, rfl, by decide⟩, rfl, by decide⟩

theorem Bd12 : Bodied Try.prog 12 := bodied Try.func12 (by kernel_rfl) rfl

theorem Sl32 : SlT Try.prog 32 36 := Try.underlying32

def k_laws_toOpS (M : Nat → Prop) (w0 : World) (r : (List (Int × (List Int)))) (a : Act) (w : World) : Prop :=
  ∃ (σ : Nat → Value) (ra0 : Option Addr) (rn0 rc0 : Nat) (rf0 : List Nat), a = fr 23 (ovl σ [(2, (.slice ra0 rn0 rc0))]) ∧ Chg [] w0 w ∧ (RT.os 36 (RT.pr (RT.int .i64) (RT.os 3 (RT.int .i64)))).val M w (.slice ra0 rn0 rc0) r rf0 ∧ Own (Nw w0 []) (fun _ => True) w (rf0 ++ ([]))
def s_laws_toOpS (a_ : List (Int × (List Int))) : Option ((List (Int × (List Int)))) :=
  (mks (a_.length : Int) ((0, []) : Int × (List Int))).bind fun y3 =>
  (forC (S := (List (Int × (List Int)))) (R := (List (Int × (List Int)))) (fun k28 s26 =>
  (idx a_ k28).bind fun x34 =>
  (s_laws_toOp (x34.1, x34.2)).bind fun r39 =>
  (idx s26 k28).bind fun x41 =>
  some (.nx (List.set s26 (Int.toNat k28) (r39.1, r39.2)))) 0 (a_.length : Int) y3).bind fun o30 => after o30 (fun r_ => some r_) (fun s26 =>
  some s26)
set_option maxHeartbeats 4000000 in
theorem c_laws_toOpS {M : Nat → Prop} {w : World} {pa0 : Option Addr} {pn0 pc0 : Nat} (a_ : List (Int × (List Int))) (h0 : (RT.rs (RT.pr (RT.int .i64) (RT.rs (RT.int .i64)))).val M w (.slice pa0 pn0 pc0) a_ ([])) (hM : ∀ g, w.heap.size ≤ g → M g) {r : (List (Int × (List Int)))} (hs : s_laws_toOpS a_ = some r) :
    Gives Try.prog 37 [(.slice pa0 pn0 pc0)] w (fun v w' => ∃ (ra0 : Option Addr) (rn0 rc0 : Nat) (rf0 : List Nat), v = (.slice ra0 rn0 rc0) ∧ Chg [] w w' ∧ (RT.os 36 (RT.pr (RT.int .i64) (RT.os 3 (RT.int .i64)))).val M w' (.slice ra0 rn0 rc0) r rf0 ∧ Own (Nw w []) (fun _ => True) w' (rf0 ++ ([]))) := by
 refine calls_fr Try.func37 rfl Try.ntmps37 (Nat.le_of_ble_eq_true rfl) ?_
 have hO := Own.start (N := Nw w []) hM Nw.fut
 have hC := Chg.refl [] w
 unfold s_laws_toOpS at hs
 refine wp_mono (Q := KPost (k_laws_toOpS M w r)) ?_ (fun e a w1 h => ?_)
 rotate_left
 ·cases e
  case ret =>
   obtain ⟨σ, ra0, rn0, rc0, rf0, rfl, hrest⟩ := h
   exact ret1x Try.results37 (res_tmp rfl) ⟨ra0, rn0, rc0, rf0, rfl, hrest⟩
  all_goals exact (h : False).elim
 refine c_seq (c_region ?_)
 refine pl_val (.slice none 0 0) (y_assign rfl) ?_
 refine c_nil ?_
 refine c_seq (c_region ?_)
 refine pl_val (.slice pa0 pn0 pc0) (y_move rfl) ?_
 refine pl_val (.int .i64 (a_.length : Int)) (y_len' Sl22 (rs_len h0) rfl) ?_
 obtain ⟨y3, hy3, hs⟩ := bind_some hs
 obtain ⟨a2, n2, c2, w2, f2, hm2, hC2, hfr2, hv2⟩ := mk_os (M := M) (w := w) (r := (RT.pr (RT.int .i64) (RT.os 3 (RT.int .i64)))) Rw32 hy3 (fun _ _ => ⟨_, _, [], [], rfl, rfl, ⟨rfl, rfl⟩, (os_unval os_nil)⟩)
 refine pl_val (w' := w2) (.slice a2 n2 c2) (y_make rfl rfl hm2) ?_
 have h0 := h0.ext hC2
 have hC := hC.ext hC2
 have hO := hO.new hC2 hfr2 (os_nodup hv2) hv2.fpl
 refine pl_val (.slice a2 n2 c2) (y_assign rfl) ?_
 refine c_nil ?_
 refine c_seq ?_
 refine c_seq (c_region ?_)
 refine pl_val (.int .i64 0) (y_assign rfl) ?_
 refine c_nil ?_
 obtain ⟨o30, hl31, hs⟩ := bind_some hs
 refine wp_block ?_
 refine wp_forC (id := 0) (a_.length : Int) (I := fun k28 s26 a w27 => ∃ (σ : Nat → Value) (f32 : List Nat), a = fr 23 (ovl σ [(0, (.slice pa0 pn0 pc0)), (3, (.slice a2 n2 c2)), (4, (.int .i64 k28))]) ∧ Chg [] w w27 ∧ Own (Nw w []) M w27 (f32 ++ []) ∧ (RT.rs (RT.pr (RT.int .i64) (RT.rs (RT.int .i64)))).val M w27 (.slice pa0 pn0 pc0) a_ ([]) ∧ (RT.os 36 (RT.pr (RT.int .i64) (RT.os 3 (RT.int .i64)))).val M w27 (.slice a2 n2 c2) s26 f32) (J := fun s26 a w27 => ∃ (σ : Nat → Value) (f33 : List Nat), a = fr 23 (ovl σ [(3, (.slice a2 n2 c2))]) ∧ Chg [] w w27 ∧ Own (Nw w []) M w27 (f33 ++ []) ∧ (RT.rs (RT.pr (RT.int .i64) (RT.rs (RT.int .i64)))).val M w27 (.slice pa0 pn0 pc0) a_ ([]) ∧ (RT.os 36 (RT.pr (RT.int .i64) (RT.os 3 (RT.int .i64)))).val M w27 (.slice a2 n2 c2) s26 f33) (K := (k_laws_toOpS M w)) ?_ ?_ 0 y3 o30 _ _ ?_ hl31 ?_
 ·rintro k28 s26 a w27 ⟨σ, f32, rfl, hC, hO, h0, hv32⟩ hlt
  refine c_seq ?_
  refine c_seq (c_region ?_)
  refine pl_val (.int .i64 k28) (y_move rfl) ?_
  refine pl_val (.slice pa0 pn0 pc0) (y_move rfl) ?_
  refine pl_val (.int .i64 (a_.length : Int)) (y_len' Sl22 (rs_len h0) rfl) ?_
  refine pl_val (.bool (decide (k28 < (a_.length : Int)))) (y_lss rfl rfl) ?_
  refine c_nil ?_
  refine c_condF (congrArg Value.bool (decide_eq_false hlt)) ?_
  refine wp_exit ?_
  exact ⟨rfl, _, f32, fr_ovl 23 ⟨rfl, trivial⟩, hC, hO, h0, hv32⟩
 ·rintro k28 s26 o30 a w27 ⟨σ, f32, rfl, hC, hO, h0, hv32⟩ hlt hw hs
  refine c_seq ?_
  refine c_seq (c_region ?_)
  refine pl_val (.int .i64 k28) (y_move rfl) ?_
  refine pl_val (.slice pa0 pn0 pc0) (y_move rfl) ?_
  refine pl_val (.int .i64 (a_.length : Int)) (y_len' Sl22 (rs_len h0) rfl) ?_
  refine pl_val (.bool (decide (k28 < (a_.length : Int)))) (y_lss rfl rfl) ?_
  refine c_nil ?_
  refine c_condT (congrArg Value.bool (decide_eq_true hlt)) ?_
  refine wp_skip ?_
  refine c_seq ?_
  refine wp_block ?_
  refine c_region ?_
  refine pl_val (.slice a2 n2 c2) (y_move rfl) ?_
  refine pl_val (.int .i64 k28) (y_move rfl) ?_
  refine pl_val (.slice pa0 pn0 pc0) (y_move rfl) ?_
  refine pl_val (.int .i64 k28) (y_move rfl) ?_
  obtain ⟨x34, hx34, hs⟩ := bind_some hs
  obtain ⟨b35, o35, hp35, ha35⟩ := rs_idx Sl22 Sz27 h0 hx34
  refine pl_val (.pointer (some ⟨b35, o35, none⟩)) (hp35 _ _ _ _ _ _ _ _ _ rfl rfl) ?_
  obtain ⟨v36, hl36, hv36⟩ := at_load Ag27 Sz27 (by intro h; cases h) ha35
  obtain ⟨cs36, rfl, hr36⟩ := hv36
  obtain ⟨cc36x1, cd36x1, rfl, hh36x1, ht36x1⟩ := pr_open hr36
  obtain rfl := int_rel hh36x1
  obtain ⟨a36x2, n36x2, c36x2, rfl, hv36x2⟩ := rs_rel ht36x1
  refine pl_val (.agg #[(.int .i64 x34.1), (.slice a36x2 n36x2 c36x2)]) (y_load rfl (hl36 _ (Chg.refl _ _))) ?_
  obtain ⟨r39, hr39, hs⟩ := bind_some hs
  refine pl_call Bd12 rfl (c_laws_toOp (M := M) (x34.1, x34.2) hv36x2 hO.fut hr39) ?_
  rintro _ w38 ⟨a38x0, n38x0, c38x0, f38x0, rfl, hC38, hv38x0, hOc38⟩
  have h0 := h0.ext hC38
  have hv32 := hv32.ext hC38
  have hv36x2 := hv36x2.ext hC38
  have hC := hC.ext hC38
  have hO := Own.join0 hO hC38 hOc38
  have hO := hO.perm (R := f38x0 ++ (f32 ++ ([]))) (by simp)
  obtain ⟨x41, hx41, hs⟩ := bind_some hs
  obtain ⟨g42, f42, hg42, hk42, hp42, ha42, hf42⟩ := os_idx Sl32 Sz36 hv32 hx41
  have hb42 := own_row (Frz.pr Frz.int (Frz.os Frz.int)) ha42 hf42
  refine pl_val (.pointer (some ⟨g42, 0 + Int.toNat k28 * 2, none⟩)) (hp42 _ _ _ _ _ _ _ _ _ rfl rfl) ?_
  have hO := hO.fr1
  obtain ⟨w43, f43, hst43, hC43, hf43, hv43⟩ := os_store (P := Try.prog) (c' := [(.int .i64 r39.1), (.slice a38x0 n38x0 c38x0)]) hg42 hv32 hk42 (fun g hg => hO.inM g (os_block hv32 g (by simpa using hg))) ⟨_, _, _, _, rfl, rfl, ⟨rfl, rfl⟩, (os_unval hv38x0)⟩ (hO.drop.perm (R := (([] : List Nat) ++ f38x0) ++ ([])) (by simp)).nd (fun g hg hq => hO.apart g hq (by simp only [List.mem_append, List.not_mem_nil, false_or, or_false] at hg ⊢; simp [hg])) (fun _ h => .inl h)
  have hG43 : ∀ q ∈ [g42], q ∈ f32 := fun q hq => os_block hv32 q (by rw [hg42]; exact hq)
  refine pl_skip (w' := w43) (ys_store rfl rfl (hst43 _ _ rfl Sz36)) ?_
  have hO := hO.fr1
  have hO := hO.fr1
  have h0 := h0.mut hC43 (fun g hg => hO.inM g (hG43 g hg)) (fun _ _ h => nomatch h)
  have hv36x2 := hv36x2.mut hC43 (fun g hg => hO.inM g (hG43 g hg)) (fun _ _ h => nomatch h)
  have hC := hC.step hC43 (fun g hg => hO.inN g (hG43 g hg))
  have hO := hO.perm (R := f32 ++ ((([] : List Nat) ++ f38x0) ++ ([]))) (by simp)
  have hO := hO.eat hC43 (fun q hq => (hf43 q hq).elim .inl (fun h => .inr (.inl h))) (os_nodup hv43) hv43.fpl
  refine c_nil ?_
  refine c_region ?_
  refine pl_val (.int .i64 k28) (y_move rfl) ?_
  refine pl_val (.int .i64 (w64 (k28 + 1))) (y_add rfl rfl) ?_
  refine pl_val (.int .i64 (w64 (k28 + 1))) (y_assign rfl) ?_
  refine c_nil ?_
  cases hs
  exact ⟨_, f43, fr_ovl 23 ⟨rfl, rfl, congrArg (Value.int .i64) hw, trivial⟩, hC, hO, h0, hv43⟩
 ·skip
  exact ⟨_, f2, fr_ovl 23 ⟨rfl, rfl, rfl, trivial⟩, hC, hO, h0, hv2⟩
 ·cases o30 with
  | nx _ => exact True.intro
  | rt r_ =>
   have hs := after_rt hs
   intro a1 w1 hK
   cases hs
   exact hK
  | br s26 =>
   have hs := after_br hs
   rintro a1 w27 ⟨σ, f33, rfl, hC, hO, h0, hv33⟩
   refine c_seq (c_region ?_)
   refine pl_val (.slice a2 n2 c2) (y_move rfl) ?_
   refine pl_val (.slice a2 n2 c2) (y_assign rfl) ?_
   refine c_nil ?_
   refine wp_ret ?_
   cases hs
   exact ⟨_, a2, n2, c2, f33, fr_ovl 23 ⟨rfl, trivial⟩, hC, hv33, hO.top⟩

theorem Ag34 : AggT Try.prog 34 true := fun _ => by kernel_rfl

theorem Sz34 : SzT Try.prog 34 2 := ⟨_, rfl, rfl⟩

theorem Fa24x0 : ∀ (a : Addr) (w : World), (Instr.fieldAt 24 (.pointer (some a)) 0).run Try.prog w = .ok (.pointer (some (a.add 0))) w := fun _ _ => by kernel_rfl

theorem Fa34x0 : ∀ (a : Addr) (w : World), (Instr.fieldAt 34 (.pointer (some a)) 0).run Try.prog w = .ok (.pointer (some (a.add 0))) w := fun _ _ => by kernel_rfl

theorem Bd37 : Bodied Try.prog 37 := bodied Try.func37 (by kernel_rfl) rfl

theorem Fa34x1 : ∀ (a : Addr) (w : World), (Instr.fieldAt 34 (.pointer (some a)) 1).run Try.prog w = .ok (.pointer (some (a.add 1))) w := fun _ _ => by kernel_rfl

theorem Sz32 : SzT Try.prog 32 1 := ⟨_, rfl, rfl⟩

def k_laws_toAlgebra (M : Nat → Prop) (w0 : World) (r : (Int × (List (Int × (List Int))))) (a : Act) (w : World) : Prop :=
  ∃ (σ : Nat → Value) (rg2 : Nat) (ra0 : Option Addr) (rn0 rc0 : Nat) (rf0 : List Nat), a = fr 12 (ovl σ [(2, (.pointer (some ⟨rg2, 0, none⟩)))]) ∧ BoxV w rg2 34 [(.int .i64 r.1), (.slice ra0 rn0 rc0)] ∧ Chg [] w0 w ∧ (RT.os 36 (RT.pr (RT.int .i64) (RT.os 3 (RT.int .i64)))).val M w (.slice ra0 rn0 rc0) r.2 rf0 ∧ Own (Nw w0 []) (fun _ => True) w (rf0 ++ ([]))
def s_laws_toAlgebra (a_ : Int × (List (Int × (List Int)))) : Option ((Int × (List (Int × (List Int))))) :=
  (s_laws_toOpS a_.2).bind fun r7 =>
  some (a_.1, r7)
set_option maxHeartbeats 4000000 in
theorem c_laws_toAlgebra {M : Nat → Prop} {w : World} {pa0 : Option Addr} {pn0 pc0 : Nat} (a_ : Int × (List (Int × (List Int)))) (h0 : (RT.rs (RT.pr (RT.int .i64) (RT.rs (RT.int .i64)))).val M w (.slice pa0 pn0 pc0) a_.2 ([])) (hM : ∀ g, w.heap.size ≤ g → M g) {r : (Int × (List (Int × (List Int))))} (hs : s_laws_toAlgebra a_ = some r) :
    Gives Try.prog 11 [(.agg #[(.int .i64 a_.1), (.slice pa0 pn0 pc0)])] w (fun v w' => ∃ (ra0 : Option Addr) (rn0 rc0 : Nat) (rf0 : List Nat), v = (.agg #[(.int .i64 r.1), (.slice ra0 rn0 rc0)]) ∧ Chg [] w w' ∧ (RT.os 36 (RT.pr (RT.int .i64) (RT.os 3 (RT.int .i64)))).val M w' (.slice ra0 rn0 rc0) r.2 rf0 ∧ Own (Nw w []) (fun _ => True) w' (rf0 ++ ([]))) := by
 refine calls_fr Try.func11 rfl Try.ntmps11 (Nat.le_of_ble_eq_true rfl) ?_
 have hO := Own.start (N := Nw w []) hM Nw.fut
 have hC := Chg.refl [] w
 unfold s_laws_toAlgebra at hs
 refine wp_mono (Q := KPost (k_laws_toAlgebra M w r)) ?_ (fun e a w1 h => ?_)
 rotate_left
 ·cases e
  case ret =>
   obtain ⟨σ, rg2, ra0, rn0, rc0, rf0, rfl, hbrg2, hrest⟩ := h
   exact ret1x Try.results11 (res_cell rfl (box_load Ag34 Sz34 hbrg2 [] _ [] rfl rfl (fun h => nomatch h))) ⟨ra0, rn0, rc0, rf0, rfl, hrest⟩
  all_goals exact (h : False).elim
 refine c_seq (c_region ?_)
 obtain ⟨w2, g2, ew2, eg2, hC2, hb2⟩ := new_block w [(.int .i64 a_.1), (.slice pa0 pn0 pc0)] 24
 refine pl_val (w' := w2) (.pointer (some ⟨g2, 0, none⟩)) (y_box rfl (by rw [ew2, eg2]; kernel_rfl)) ?_
 have h0 := h0.ext hC2
 have hC := hC.ext hC2
 have hO := hO.new1 hC2 eg2 hb2.lt
 obtain ⟨w3, g3, ew3, eg3, hC3, hb3⟩ := new_block w2 [(.int .i64 0), (.slice none 0 0)] 34
 refine pl_val (w' := w3) (.pointer (some ⟨g3, 0, none⟩)) (y_alloc (by rw [ew3, eg3]; kernel_rfl)) ?_
 have h0 := h0.ext hC3
 have hb2 := hb2.chg hC3 (fun h => nomatch h)
 have hC := hC.ext hC3
 have hO := hO.new1 hC3 eg3 hb3.lt
 refine c_nil ?_
 refine c_seq (c_region ?_)
 obtain ⟨w4, g4, ew4, eg4, hC4, hb4⟩ := new_block w3 [(.int .i64 0), (.slice none 0 0)] 34
 refine pl_val (w' := w4) (.pointer (some ⟨g4, 0, none⟩)) (y_alloc (by rw [ew4, eg4]; kernel_rfl)) ?_
 have h0 := h0.ext hC4
 have hb2 := hb2.chg hC4 (fun h => nomatch h)
 have hb3 := hb3.chg hC4 (fun h => nomatch h)
 have hC := hC.ext hC4
 have hO := hO.new1 hC4 eg4 hb4.lt
 refine c_nil ?_
 refine c_seq (c_region ?_)
 refine pl_val (.pointer (some ⟨g2, 0, none⟩)) (y_faddr rfl Fa24x0) ?_
 refine pl_val (.int .i64 a_.1) (y_load rfl ((box_load Ag3 Sz3 hb2 [] [(.int .i64 a_.1)] [(.slice pa0 pn0 pc0)] rfl rfl (fun _ => rfl)) _ (Chg.refl _ _))) ?_
 refine pl_val (.pointer (some ⟨g4, 0, none⟩)) (y_faddr rfl Fa34x0) ?_
 obtain ⟨w5, hst5, hC5, hb5⟩ := box_store (P := Try.prog) hb4 [] [(.int .i64 0)] [(.slice none 0 0)] [(.int .i64 a_.1)] rfl rfl (by intro u hu; simp only [List.mem_cons, List.not_mem_nil, or_false] at hu; rcases hu with rfl <;> rfl)
 refine pl_skip (w' := w5) (ys_store rfl rfl (hst5 _ _ rfl Sz3)) ?_
 have h0 := h0.mut hC5 (fun g hg => hO.inM g ((fun _ h => h) g hg)) (fun _ _ h => nomatch h)
 have hb2 := hb2.chg hC5 (fun hg => hO.apart _ ((fun _ h => h) _ hg) (mem_r (mem_l (List.mem_singleton.2 rfl))))
 have hb3 := hb3.chg hC5 (fun hg => hO.apart _ ((fun _ h => h) _ hg) (mem_l (List.mem_singleton.2 rfl)))
 have hC := hC.step hC5 (fun g hg => hO.inN g ((fun _ h => h) g hg))
 have hO := hO.ext hC5
 have hb5 : BoxV w5 g4 34 [(.int .i64 a_.1), (.slice none 0 0)] := hb5
 refine c_nil ?_
 refine c_seq (c_region ?_)
 refine pl_val (.pointer (some ⟨g2, 1, none⟩)) (y_faddr rfl Fa24x1) ?_
 refine pl_val (.slice pa0 pn0 pc0) (y_load rfl ((box_load Ag22 Sz22 hb2 [(.int .i64 a_.1)] [(.slice pa0 pn0 pc0)] [] rfl rfl (fun _ => rfl)) _ (Chg.refl _ _))) ?_
 obtain ⟨r7, hr7, hs⟩ := bind_some hs
 refine pl_call Bd37 rfl (c_laws_toOpS (M := M) a_.2 h0 hO.fut hr7) ?_
 rintro _ w6 ⟨a6x0, n6x0, c6x0, f6x0, rfl, hC6, hv6x0, hOc6⟩
 have h0 := h0.ext hC6
 have hb2 := hb2.chg hC6 (fun h => nomatch h)
 have hb3 := hb3.chg hC6 (fun h => nomatch h)
 have hb5 := hb5.chg hC6 (fun h => nomatch h)
 have hC := hC.ext hC6
 have hO := Own.join0 hO hC6 hOc6
 have hO := hO.perm (R := f6x0 ++ (([g4]) ++ (([g3]) ++ (([g2]) ++ ([]))))) (by simp)
 refine pl_val (.pointer (some ⟨g4, 1, none⟩)) (y_faddr rfl Fa34x1) ?_
 obtain ⟨w9, hst9, hC9, hb9⟩ := box_store (P := Try.prog) hb5 [(.int .i64 a_.1)] [(.slice none 0 0)] [] [(.slice a6x0 n6x0 c6x0)] rfl rfl (by intro u hu; simp only [List.mem_cons, List.not_mem_nil, or_false] at hu; rcases hu with rfl <;> rfl)
 refine pl_skip (w' := w9) (ys_store rfl rfl (hst9 _ _ rfl Sz32)) ?_
 have hO := hO.fr1
 have h0 := h0.mut hC9 (fun g hg => hO.inM g ((fun _ h => h) g hg)) (fun _ _ h => nomatch h)
 have hb2 := hb2.chg hC9 (fun hg => hO.apart _ ((fun _ h => h) _ hg) (mem_r (mem_r (mem_l (List.mem_singleton.2 rfl)))))
 have hb3 := hb3.chg hC9 (fun hg => hO.apart _ ((fun _ h => h) _ hg) (mem_r (mem_l (List.mem_singleton.2 rfl))))
 have hv6x0 := hv6x0.mut hC9 (fun g hg => hO.inM g ((fun _ h => h) g hg)) (fun g hg e => hO.apart g ((fun _ h => h) g hg) (mem_l (e)))
 have hC := hC.step hC9 (fun g hg => hO.inN g ((fun _ h => h) g hg))
 have hO := hO.ext hC9
 have hb9 : BoxV w9 g4 34 [(.int .i64 a_.1), (.slice a6x0 n6x0 c6x0)] := hb9
 refine c_nil ?_
 refine c_seq (c_region ?_)
 refine pl_val (.agg #[(.int .i64 a_.1), (.slice a6x0 n6x0 c6x0)]) (y_load rfl ((box_load Ag34 Sz34 hb9 [] [(.int .i64 a_.1), (.slice a6x0 n6x0 c6x0)] [] rfl rfl (fun h => nomatch h)) _ (Chg.refl _ _))) ?_
 obtain ⟨w10, hst10, hC10, hb10⟩ := box_store (P := Try.prog) hb3 [] [(.int .i64 0), (.slice none 0 0)] [] [(.int .i64 a_.1), (.slice a6x0 n6x0 c6x0)] rfl rfl (by intro u hu; simp only [List.mem_cons, List.not_mem_nil, or_false] at hu; rcases hu with rfl | rfl <;> rfl)
 refine pl_skip (w' := w10) (ys_store rfl rfl (hst10 _ _ rfl Sz34)) ?_
 have hO := hO.fr2
 have hb2 := hb2.chg hC10 (fun hg => hO.apart _ ((fun _ h => h) _ hg) (mem_r (mem_r (mem_l (List.mem_singleton.2 rfl)))))
 have hb9 := hb9.chg hC10 (fun hg => hO.apart _ ((fun _ h => h) _ hg) (mem_l (List.mem_singleton.2 rfl)))
 have hv6x0 := hv6x0.mut hC10 (fun g hg => hO.inM g ((fun _ h => h) g hg)) (fun g hg e => hO.apart g ((fun _ h => h) g hg) (mem_r (mem_l (e))))
 have hC := hC.step hC10 (fun g hg => hO.inN g ((fun _ h => h) g hg))
 have hO := hO.ext hC10
 have hb10 : BoxV w10 g3 34 [(.int .i64 a_.1), (.slice a6x0 n6x0 c6x0)] := hb10
 refine c_nil ?_
 refine wp_ret ?_
 cases hs
 have hO := hO.drop
 have hO := hO.drop
 have hO := hO.fr1
 have hO := hO.drop
 exact ⟨_, g3, a6x0, n6x0, c6x0, f6x0, fr_ovl 12 ⟨rfl, trivial⟩, hb10, hC, hv6x0, hO.top⟩

def k_spec_l1In (M : Nat → Prop) (w0 : World) (r : Bool) (a : Act) (w : World) : Prop :=
  ∃ (σ : Nat → Value) , a = fr 15 (ovl σ [(6, (.bool r))]) ∧ Chg [] w0 w
def s_spec_l1In (x_ : Int) (a_ : Int) (b : Int) : Option (Bool) :=
  (bif (decide (a_ ≤ x_)) then some (decide (x_ ≤ b)) else some false)
set_option maxHeartbeats 4000000 in
theorem c_spec_l1In {M : Nat → Prop} {w : World}  (x_ : Int) (a_ : Int) (b : Int)  (hM : ∀ g, w.heap.size ≤ g → M g) {r : Bool} (hs : s_spec_l1In x_ a_ b = some r) :
    Gives Try.prog 56 [(.int .i64 x_), (.int .i64 a_), (.int .i64 b)] w (fun v w' => v = (.bool r) ∧ Chg [] w w') := by
 refine calls_fr Try.func56 rfl Try.ntmps56 (Nat.le_of_ble_eq_true rfl) ?_
 have hO := Own.start (N := Nw w []) hM Nw.fut
 have hC := Chg.refl [] w
 unfold s_spec_l1In at hs
 refine wp_mono (Q := KPost (k_spec_l1In M w r)) ?_ (fun e a w1 h => ?_)
 rotate_left
 ·cases e
  case ret =>
   obtain ⟨σ, rfl, hrest⟩ := h
   exact ret1x Try.results56 (res_tmp rfl) ⟨rfl, hrest⟩
  all_goals exact (h : False).elim
 refine c_seq (c_region ?_)
 refine pl_val (.bool false) (y_assign rfl) ?_
 refine c_nil ?_
 refine c_seq (c_region ?_)
 refine pl_val (.int .i64 x_) (y_move rfl) ?_
 refine pl_val (.int .i64 a_) (y_move rfl) ?_
 refine pl_val (.bool (decide (a_ ≤ x_))) (y_geq rfl rfl) ?_
 refine pl_val (.bool (decide (a_ ≤ x_))) (y_move rfl) ?_
 rcases bif_some hs with ⟨hc1, hs⟩ | ⟨hc1, hs⟩
 ·skip
  refine pl_yes (.int .i64 x_) (tg := 10) (by kernel_rfl) (congrArg Value.bool hc1) (y_move rfl) ?_
  refine pl_yes (.int .i64 b) (tg := 10) (by kernel_rfl) (congrArg Value.bool hc1) (y_move rfl) ?_
  refine pl_yes (.bool (decide (x_ ≤ b))) (tg := 10) (by kernel_rfl) (congrArg Value.bool hc1) (y_leq rfl rfl) ?_
  refine pl_val (.bool (decide (x_ ≤ b))) (y_pick_t (congrArg Value.bool hc1) rfl) ?_
  refine pl_val (.bool (decide (x_ ≤ b))) (y_assign rfl) ?_
  refine c_nil ?_
  refine wp_ret ?_
  cases hs
  exact ⟨_, fr_ovl 15 ⟨rfl, trivial⟩, hC⟩
 ·skip
  refine pl_not (tg := 10) (by kernel_rfl) (congrArg Value.bool hc1) ?_
  refine pl_not (tg := 10) (by kernel_rfl) (congrArg Value.bool hc1) ?_
  refine pl_not (tg := 10) (by kernel_rfl) (congrArg Value.bool hc1) ?_
  refine pl_val (.bool false) (y_pick_f (congrArg Value.bool hc1) rfl) ?_
  refine pl_val (.bool false) (y_assign rfl) ?_
  refine c_nil ?_
  refine wp_ret ?_
  cases hs
  exact ⟨_, fr_ovl 15 ⟨rfl, trivial⟩, hC⟩

def k_spec_l2Pow (M : Nat → Prop) (w0 : World) (r : Int) (a : Act) (w : World) : Prop :=
  ∃ (σ : Nat → Value) , a = fr 14 (ovl σ [(4, (.int .i64 r))]) ∧ Chg [] w0 w
def s_spec_l2Pow (n : Int) (k : Int) : Option (Int) :=
  (iter (S := Int × Int) (R := Int) (fun s2 =>
  (bif (decide (0 < s2.1)) then some (.nx (w64 (s2.1 - 1), w64 (s2.2 * n))) else some (.br (s2.1, s2.2)))) FU (k, 1)).bind fun o6 => after o6 (fun r_ => some r_) (fun s2 =>
  some s2.2)
set_option maxHeartbeats 4000000 in
theorem c_spec_l2Pow {M : Nat → Prop} {w : World}  (n : Int) (k : Int)  (hM : ∀ g, w.heap.size ≤ g → M g) {r : Int} (hs : s_spec_l2Pow n k = some r) :
    Gives Try.prog 57 [(.int .i64 n), (.int .i64 k)] w (fun v w' => v = (.int .i64 r) ∧ Chg [] w w') := by
 refine calls_fr Try.func57 rfl Try.ntmps57 (Nat.le_of_ble_eq_true rfl) ?_
 have hO := Own.start (N := Nw w []) hM Nw.fut
 have hC := Chg.refl [] w
 unfold s_spec_l2Pow at hs
 refine wp_mono (Q := KPost (k_spec_l2Pow M w r)) ?_ (fun e a w1 h => ?_)
 rotate_left
 ·cases e
  case ret =>
   obtain ⟨σ, rfl, hrest⟩ := h
   exact ret1x Try.results57 (res_tmp rfl) ⟨rfl, hrest⟩
  all_goals exact (h : False).elim
 refine c_seq (c_region ?_)
 refine pl_val (.int .i64 0) (y_assign rfl) ?_
 refine c_nil ?_
 refine c_seq (c_region ?_)
 refine pl_val (.int .i64 1) (y_assign rfl) ?_
 refine c_nil ?_
 refine c_seq ?_
 obtain ⟨o6, hl7, hs⟩ := bind_some hs
 refine wp_block ?_
 refine wp_iter (id := 0) (I := fun s2 a w3 => ∃ (σ : Nat → Value), a = fr 14 (ovl σ [(0, (.int .i64 n)), (1, (.int .i64 s2.1)), (5, (.int .i64 s2.2))]) ∧ Chg [] w w3 ∧ Own (Nw w []) M w3 ([])) (J := fun s2 a w3 => ∃ (σ : Nat → Value), a = fr 14 (ovl σ [(5, (.int .i64 s2.2))]) ∧ Chg [] w w3 ∧ Own (Nw w []) M w3 ([])) (K := (k_spec_l2Pow M w)) ?_ FU (k, 1) o6 _ _ ?_ hl7 ?_
 ·rintro s2 o6 a w3 ⟨σ, rfl, hC, hO⟩ hs
  refine c_seq ?_
  refine c_seq (c_region ?_)
  refine pl_val (.int .i64 s2.1) (y_move rfl) ?_
  refine pl_val (.bool (decide (0 < s2.1))) (y_gtr rfl rfl) ?_
  refine c_nil ?_
  rcases bif_some hs with ⟨hc8, hs⟩ | ⟨hc8, hs⟩
  ·skip
   refine c_condT (congrArg Value.bool hc8) ?_
   refine wp_skip ?_
   refine c_seq ?_
   refine wp_block ?_
   refine c_region ?_
   refine pl_val (.int .i64 s2.2) (y_move rfl) ?_
   refine pl_val (.int .i64 n) (y_move rfl) ?_
   refine pl_val (.int .i64 (w64 (s2.2 * n))) (y_mul rfl rfl) ?_
   refine pl_val (.int .i64 (w64 (s2.2 * n))) (y_assign rfl) ?_
   refine c_nil ?_
   refine c_region ?_
   refine pl_val (.int .i64 s2.1) (y_move rfl) ?_
   refine pl_val (.int .i64 (w64 (s2.1 - 1))) (y_sub rfl rfl) ?_
   refine pl_val (.int .i64 (w64 (s2.1 - 1))) (y_assign rfl) ?_
   refine c_nil ?_
   cases hs
   exact ⟨_, fr_ovl 14 ⟨rfl, rfl, rfl, trivial⟩, hC, hO⟩
  ·skip
   refine c_condF (congrArg Value.bool hc8) ?_
   refine wp_exit ?_
   cases hs
   exact ⟨rfl, _, fr_ovl 14 ⟨rfl, trivial⟩, hC, hO⟩
 ·skip
  exact ⟨_, fr_ovl 14 ⟨rfl, rfl, rfl, trivial⟩, hC, hO⟩
 ·cases o6 with
  | nx _ => exact True.intro
  | rt r_ =>
   have hs := after_rt hs
   intro a1 w1 hK
   cases hs
   exact hK
  | br s2 =>
   have hs := after_br hs
   rintro a1 w3 ⟨σ, rfl, hC, hO⟩
   refine c_seq (c_region ?_)
   refine pl_val (.int .i64 s2.2) (y_move rfl) ?_
   refine pl_val (.int .i64 s2.2) (y_assign rfl) ?_
   refine c_nil ?_
   refine wp_ret ?_
   cases hs
   exact ⟨_, fr_ovl 14 ⟨rfl, trivial⟩, hC⟩

theorem Mx : Try.prog.follows .mixedOrders = true := by kernel_rfl

theorem Bd56 : Bodied Try.prog 56 := bodied Try.func56 (by kernel_rfl) rfl

theorem Bd57 : Bodied Try.prog 57 := bodied Try.func57 (by kernel_rfl) rfl

def k_spec_l2Op (M : Nat → Prop) (w0 : World) (r : Bool) (a : Act) (w : World) : Prop :=
  ∃ (σ : Nat → Value) , a = fr 36 (ovl σ [(4, (.bool r))]) ∧ Chg [] w0 w
def s_spec_l2Op (n : Int) (op : Int × (List Int)) : Option (Bool) :=
  ((s_spec_l1In op.1 0 3).bind fun r8 =>
  (bif (!r8) then some true else (s_spec_l2Pow n op.1).bind fun r11 =>
  some ((op.2.length : Int) != r11))).bind fun s3 =>
  (bif s3 then some false else (forC (S := Unit) (R := Bool) (fun k24 s22 =>
  (idx op.2 k24).bind fun x28 =>
  (s_spec_l1In x28 0 (w64 (n - 1))).bind fun r31 =>
  (bif (!r31) then some (.rt false) else some (.nx ()))) 0 (op.2.length : Int) ()).bind fun o26 => after o26 (fun r_ => some r_) (fun s22 =>
  some true))
set_option maxHeartbeats 4000000 in
theorem c_spec_l2Op {M : Nat → Prop} {w : World} {pa0 : Option Addr} {pn0 pc0 : Nat} (n : Int) (op : Int × (List Int)) (h0 : (RT.rs (RT.int .i64)).val M w (.slice pa0 pn0 pc0) op.2 ([])) (hM : ∀ g, w.heap.size ≤ g → M g) {r : Bool} (hs : s_spec_l2Op n op = some r) :
    Gives Try.prog 35 [(.int .i64 n), (.agg #[(.int .i64 op.1), (.slice pa0 pn0 pc0)])] w (fun v w' => v = (.bool r) ∧ Chg [] w w') := by
 refine calls_fr Try.func35 rfl Try.ntmps35 (Nat.le_of_ble_eq_true rfl) ?_
 have hO := Own.start (N := Nw w []) hM Nw.fut
 have hC := Chg.refl [] w
 unfold s_spec_l2Op at hs
 refine wp_mono (Q := KPost (k_spec_l2Op M w r)) ?_ (fun e a w1 h => ?_)
 rotate_left
 ·cases e
  case ret =>
   obtain ⟨σ, rfl, hrest⟩ := h
   exact ret1x Try.results35 (res_tmp rfl) ⟨rfl, hrest⟩
  all_goals exact (h : False).elim
 refine c_seq (c_region ?_)
 obtain ⟨w2, g2, ew2, eg2, hC2, hb2⟩ := new_block w [(.int .i64 op.1), (.slice pa0 pn0 pc0)] 36
 refine pl_val (w' := w2) (.pointer (some ⟨g2, 0, none⟩)) (y_box rfl (by rw [ew2, eg2]; kernel_rfl)) ?_
 have h0 := h0.ext hC2
 have hC := hC.ext hC2
 have hO := hO.new1 hC2 eg2 hb2.lt
 refine pl_val (.bool false) (y_assign rfl) ?_
 refine c_nil ?_
 refine c_seq ?_
 refine c_seq ?_
 obtain ⟨s3, hm5, hs⟩ := bind_some hs
 refine c_mid (I := fun a w4 => ∃ (σ : Nat → Value), a = fr 36 (ovl σ [(0, (.int .i64 n)), (3, (.pointer (some ⟨g2, 0, none⟩))), (4, (.bool false)), (19, (.bool s3))]) ∧ Chg [] w2 w4) ?_ ?_
 ·replace hs := hm5
  have hMid := Chg.refl [] w2
  refine x_start [] Mx rfl ?_
  have hCw6 := Chg.drew w2
  generalize World.drew w2 = w6 at hCw6 ⊢
  have h0 := h0.ext hCw6
  have hb2 := hb2.chg hCw6 (fun h => nomatch h)
  have hMid := hMid.ext hCw6
  have hC := hC.ext hCw6
  have hO := hO.ext hCw6
  have hS := Chg.refl [] w6
  refine x_p 0 (.pointer (some ⟨g2, 0, none⟩)) rfl (by kernel_rfl)  (fun _ => y_faddr rfl Fa36x0) (fun _ => hS) ?_
  refine x_l 1 (.int .i64 op.1) rfl (by kernel_rfl)  (fun w' hw' => y_load rfl ((box_load Ag3 Sz3 hb2 [] [(.int .i64 op.1)] [(.slice pa0 pn0 pc0)] rfl rfl (fun _ => rfl)) w' hw')) hS ?_
  refine x_one (i := 2) (by kernel_rfl) ?_
  obtain ⟨r8, hr8, hs⟩ := bind_some hs
  refine xk_call (b := false) rfl  Bd56 rfl (c_spec_l1In (M := M) op.1 0 3  hO.fut hr8) rfl (by rintro _ _ _ ⟨rfl, hC7⟩; exact hS.ext hC7) ?_
  rintro _ w7 ⟨rfl, hC7⟩
  have h0 := h0.ext hC7
  have hb2 := hb2.chg hC7 (fun h => nomatch h)
  have hMid := hMid.ext hC7
  have hC := hC.ext hC7
  have hO := hO.ext hC7
  have hS := hS.ext hC7
  refine x_p 3 (.bool (!r8)) rfl (by kernel_rfl)  (fun _ => y_not rfl) (fun _ => hS) ?_
  refine x_p 4 (.bool (!r8)) rfl (by kernel_rfl)  (fun _ => y_move rfl) (fun _ => hS) ?_
  rcases bif_some hs with ⟨hc9, hs⟩ | ⟨hc9, hs⟩
  ·skip
   refine x_pn 5 rfl (by kernel_rfl) (tg := 10) (by kernel_rfl) (congrArg Value.bool hc9) (fun _ => hS) ?_
   refine x_pn 6 rfl (by kernel_rfl) (tg := 10) (by kernel_rfl) (congrArg Value.bool hc9) (fun _ => hS) ?_
   refine x_pn 7 rfl (by kernel_rfl) (tg := 10) (by kernel_rfl) (congrArg Value.bool hc9) (fun _ => hS) ?_
   refine x_pn 8 rfl (by kernel_rfl) (tg := 10) (by kernel_rfl) (congrArg Value.bool hc9) (fun _ => hS) ?_
   refine x_pn 9 rfl (by kernel_rfl) (tg := 10) (by kernel_rfl) (congrArg Value.bool hc9) (fun _ => hS) ?_
   refine x_pn 10 rfl (by kernel_rfl) (tg := 10) (by kernel_rfl) (congrArg Value.bool hc9) (fun _ => hS) ?_
   refine x_pn 11 rfl (by kernel_rfl) (tg := 10) (by kernel_rfl) (congrArg Value.bool hc9) (fun _ => hS) ?_
   refine x_pn 12 rfl (by kernel_rfl) (tg := 10) (by kernel_rfl) (congrArg Value.bool hc9) (fun _ => hS) ?_
   refine x_p 13 (.bool true) rfl (by kernel_rfl)  (fun _ => y_pick_t (congrArg Value.bool hc9) rfl) (fun _ => hS) ?_
   refine x_end (by kernel_rfl) ?_
   clear hS
   cases hs
   exact ⟨_, fr_ovl 36 ⟨rfl, rfl, rfl, rfl, trivial⟩, hMid⟩
  ·skip
   refine x_py 5 (.pointer (some ⟨g2, 1, none⟩)) rfl (by kernel_rfl) (tg := 10) (by kernel_rfl) (congrArg Value.bool hc9) (fun _ => y_faddr rfl Fa36x1) (fun _ => hS) ?_
   refine x_py 8 (.int .i64 n) rfl (by kernel_rfl) (tg := 10) (by kernel_rfl) (congrArg Value.bool hc9) (fun _ => y_move rfl) (fun _ => hS) ?_
   refine x_py 9 (.pointer (some ⟨g2, 0, none⟩)) rfl (by kernel_rfl) (tg := 10) (by kernel_rfl) (congrArg Value.bool hc9) (fun _ => y_faddr rfl Fa36x0) (fun _ => hS) ?_
   refine x_two (i := 6) (j := 10) (by kernel_rfl) ?_ ?_
   ·skip
    refine xk_valy (b := false) (.slice pa0 pn0 pc0) rfl (tg := 10) (by kernel_rfl) (congrArg Value.bool hc9) (y_load rfl ((box_load Ag25 Sz25 hb2 [(.int .i64 op.1)] [(.slice pa0 pn0 pc0)] [] rfl rfl (fun _ => rfl)) _ (Chg.refl _ _))) rfl (fun _ => hS) ?_
    refine x_py 7 (.int .i64 (op.2.length : Int)) rfl (by kernel_rfl) (tg := 10) (by kernel_rfl) (congrArg Value.bool hc9) (fun _ => y_len' Sl25 (rs_len h0) rfl) (fun _ => hS) ?_
    refine x_one (i := 10) (by kernel_rfl) ?_
    refine xk_valy (b := false) (.int .i64 op.1) rfl (tg := 10) (by kernel_rfl) (congrArg Value.bool hc9) (y_load rfl ((box_load Ag3 Sz3 hb2 [] [(.int .i64 op.1)] [(.slice pa0 pn0 pc0)] rfl rfl (fun _ => rfl)) _ (Chg.refl _ _))) rfl (fun _ => hS) ?_
    refine x_one (i := 11) (by kernel_rfl) ?_
    obtain ⟨r11, hr11, hs⟩ := bind_some hs
    refine xk_cally (b := false) rfl (tg := 10) (by kernel_rfl) (congrArg Value.bool hc9) Bd57 rfl (c_spec_l2Pow (M := M) n op.1  hO.fut hr11) rfl (by rintro _ _ _ ⟨rfl, hC10⟩; exact hS.ext hC10) ?_
    rintro _ w10 ⟨rfl, hC10⟩
    have h0 := h0.ext hC10
    have hb2 := hb2.chg hC10 (fun h => nomatch h)
    have hMid := hMid.ext hC10
    have hC := hC.ext hC10
    have hO := hO.ext hC10
    have hS := hS.ext hC10
    refine x_py 12 (.bool ((op.2.length : Int) != r11)) rfl (by kernel_rfl) (tg := 10) (by kernel_rfl) (congrArg Value.bool hc9) (fun _ => y_neq rfl rfl) (fun _ => hS) ?_
    refine x_p 13 (.bool ((op.2.length : Int) != r11)) rfl (by kernel_rfl)  (fun _ => y_pick_f (congrArg Value.bool hc9) rfl) (fun _ => hS) ?_
    refine x_end (by kernel_rfl) ?_
    clear hS
    cases hs
    exact ⟨_, fr_ovl 36 ⟨rfl, rfl, rfl, rfl, trivial⟩, hMid⟩
   ·skip
    refine xk_valy (b := false) (.int .i64 op.1) rfl (tg := 10) (by kernel_rfl) (congrArg Value.bool hc9) (y_load rfl ((box_load Ag3 Sz3 hb2 [] [(.int .i64 op.1)] [(.slice pa0 pn0 pc0)] rfl rfl (fun _ => rfl)) _ (Chg.refl _ _))) rfl (fun _ => hS) ?_
    refine x_two (i := 6) (j := 11) (by kernel_rfl) ?_ ?_
    ·skip
     refine xk_valy (b := false) (.slice pa0 pn0 pc0) rfl (tg := 10) (by kernel_rfl) (congrArg Value.bool hc9) (y_load rfl ((box_load Ag25 Sz25 hb2 [(.int .i64 op.1)] [(.slice pa0 pn0 pc0)] [] rfl rfl (fun _ => rfl)) _ (Chg.refl _ _))) rfl (fun _ => hS) ?_
     refine x_py 7 (.int .i64 (op.2.length : Int)) rfl (by kernel_rfl) (tg := 10) (by kernel_rfl) (congrArg Value.bool hc9) (fun _ => y_len' Sl25 (rs_len h0) rfl) (fun _ => hS) ?_
     refine x_one (i := 11) (by kernel_rfl) ?_
     obtain ⟨r11, hr11, hs⟩ := bind_some hs
     refine xk_cally (b := false) rfl (tg := 10) (by kernel_rfl) (congrArg Value.bool hc9) Bd57 rfl (c_spec_l2Pow (M := M) n op.1  hO.fut hr11) rfl (by rintro _ _ _ ⟨rfl, hC12⟩; exact hS.ext hC12) ?_
     rintro _ w12 ⟨rfl, hC12⟩
     have h0 := h0.ext hC12
     have hb2 := hb2.chg hC12 (fun h => nomatch h)
     have hMid := hMid.ext hC12
     have hC := hC.ext hC12
     have hO := hO.ext hC12
     have hS := hS.ext hC12
     refine x_py 12 (.bool ((op.2.length : Int) != r11)) rfl (by kernel_rfl) (tg := 10) (by kernel_rfl) (congrArg Value.bool hc9) (fun _ => y_neq rfl rfl) (fun _ => hS) ?_
     refine x_p 13 (.bool ((op.2.length : Int) != r11)) rfl (by kernel_rfl)  (fun _ => y_pick_f (congrArg Value.bool hc9) rfl) (fun _ => hS) ?_
     refine x_end (by kernel_rfl) ?_
     clear hS
     cases hs
     exact ⟨_, fr_ovl 36 ⟨rfl, rfl, rfl, rfl, trivial⟩, hMid⟩
    ·skip
     obtain ⟨r11, hr11, hs⟩ := bind_some hs
     refine xk_cally (b := false) rfl (tg := 10) (by kernel_rfl) (congrArg Value.bool hc9) Bd57 rfl (c_spec_l2Pow (M := M) n op.1  hO.fut hr11) rfl (by rintro _ _ _ ⟨rfl, hC14⟩; exact hS.ext hC14) ?_
     rintro _ w14 ⟨rfl, hC14⟩
     have h0 := h0.ext hC14
     have hb2 := hb2.chg hC14 (fun h => nomatch h)
     have hMid := hMid.ext hC14
     have hC := hC.ext hC14
     have hO := hO.ext hC14
     have hS := hS.ext hC14
     refine x_one (i := 6) (by kernel_rfl) ?_
     refine xk_valy (b := false) (.slice pa0 pn0 pc0) rfl (tg := 10) (by kernel_rfl) (congrArg Value.bool hc9) (y_load rfl ((box_load Ag25 Sz25 hb2 [(.int .i64 op.1)] [(.slice pa0 pn0 pc0)] [] rfl rfl (fun _ => rfl)) _ (Chg.refl _ _))) rfl (fun _ => hS) ?_
     refine x_py 7 (.int .i64 (op.2.length : Int)) rfl (by kernel_rfl) (tg := 10) (by kernel_rfl) (congrArg Value.bool hc9) (fun _ => y_len' Sl25 (rs_len h0) rfl) (fun _ => hS) ?_
     refine x_py 12 (.bool ((op.2.length : Int) != r11)) rfl (by kernel_rfl) (tg := 10) (by kernel_rfl) (congrArg Value.bool hc9) (fun _ => y_neq rfl rfl) (fun _ => hS) ?_
     refine x_p 13 (.bool ((op.2.length : Int) != r11)) rfl (by kernel_rfl)  (fun _ => y_pick_f (congrArg Value.bool hc9) rfl) (fun _ => hS) ?_
     refine x_end (by kernel_rfl) ?_
     clear hS
     cases hs
     exact ⟨_, fr_ovl 36 ⟨rfl, rfl, rfl, rfl, trivial⟩, hMid⟩
 ·rintro a1 w4 ⟨σ, rfl, hCs3⟩
  have h0 := h0.ext hCs3
  have hb2 := hb2.chg hCs3 (fun h => nomatch h)
  have hC := hC.ext hCs3
  have hO := hO.ext hCs3
  rcases bif_some hs with ⟨hc16, hs⟩ | ⟨hc16, hs⟩
  ·skip
   refine c_condT (congrArg Value.bool hc16) ?_
   refine c_seq (c_region ?_)
   refine pl_val (.bool false) (y_assign rfl) ?_
   refine c_nil ?_
   refine wp_ret ?_
   cases hs
   exact ⟨_, fr_ovl 36 ⟨rfl, trivial⟩, hC⟩
  ·skip
   refine c_condF (congrArg Value.bool hc16) ?_
   refine wp_skip ?_
   refine c_seq ?_
   refine c_seq (c_region ?_)
   refine pl_val (.int .i64 0) (y_assign rfl) ?_
   refine c_nil ?_
   obtain ⟨o26, hl27, hs⟩ := bind_some hs
   refine wp_block ?_
   refine wp_forC (id := 0) (op.2.length : Int) (I := fun k24 s22 a w23 => ∃ (σ : Nat → Value), a = fr 36 (ovl σ [(0, (.int .i64 n)), (3, (.pointer (some ⟨g2, 0, none⟩))), (5, (.int .i64 k24))]) ∧ Chg [] w w23 ∧ Own (Nw w []) M w23 (([g2]) ++ []) ∧ (RT.rs (RT.int .i64)).val M w23 (.slice pa0 pn0 pc0) op.2 ([]) ∧ BoxV w23 g2 36 [(.int .i64 op.1), (.slice pa0 pn0 pc0)]) (J := fun s22 a w23 => ∃ (σ : Nat → Value), a = fr 36 (ovl σ []) ∧ Chg [] w w23 ∧ Own (Nw w []) M w23 (([g2]) ++ []) ∧ (RT.rs (RT.int .i64)).val M w23 (.slice pa0 pn0 pc0) op.2 ([]) ∧ BoxV w23 g2 36 [(.int .i64 op.1), (.slice pa0 pn0 pc0)]) (K := (k_spec_l2Op M w)) ?_ ?_ 0 () o26 _ _ ?_ hl27 ?_
   ·rintro k24 s22 a w23 ⟨σ, rfl, hC, hO, h0, hb2⟩ hlt
    refine c_seq ?_
    refine c_seq (c_region ?_)
    refine pl_val (.int .i64 k24) (y_move rfl) ?_
    refine pl_val (.pointer (some ⟨g2, 1, none⟩)) (y_faddr rfl Fa36x1) ?_
    refine pl_val (.slice pa0 pn0 pc0) (y_load rfl ((box_load Ag25 Sz25 hb2 [(.int .i64 op.1)] [(.slice pa0 pn0 pc0)] [] rfl rfl (fun _ => rfl)) _ (Chg.refl _ _))) ?_
    refine pl_val (.int .i64 (op.2.length : Int)) (y_len' Sl25 (rs_len h0) rfl) ?_
    refine pl_val (.bool (decide (k24 < (op.2.length : Int)))) (y_lss rfl rfl) ?_
    refine c_nil ?_
    refine c_condF (congrArg Value.bool (decide_eq_false hlt)) ?_
    refine wp_exit ?_
    exact ⟨rfl, _, fr_ovl 36 trivial, hC, hO, h0, hb2⟩
   ·rintro k24 s22 o26 a w23 ⟨σ, rfl, hC, hO, h0, hb2⟩ hlt hw hs
    refine c_seq ?_
    refine c_seq (c_region ?_)
    refine pl_val (.int .i64 k24) (y_move rfl) ?_
    refine pl_val (.pointer (some ⟨g2, 1, none⟩)) (y_faddr rfl Fa36x1) ?_
    refine pl_val (.slice pa0 pn0 pc0) (y_load rfl ((box_load Ag25 Sz25 hb2 [(.int .i64 op.1)] [(.slice pa0 pn0 pc0)] [] rfl rfl (fun _ => rfl)) _ (Chg.refl _ _))) ?_
    refine pl_val (.int .i64 (op.2.length : Int)) (y_len' Sl25 (rs_len h0) rfl) ?_
    refine pl_val (.bool (decide (k24 < (op.2.length : Int)))) (y_lss rfl rfl) ?_
    refine c_nil ?_
    refine c_condT (congrArg Value.bool (decide_eq_true hlt)) ?_
    refine wp_skip ?_
    refine c_seq ?_
    refine wp_block ?_
    refine c_seq (c_region ?_)
    refine pl_val (.pointer (some ⟨g2, 1, none⟩)) (y_faddr rfl Fa36x1) ?_
    refine pl_val (.slice pa0 pn0 pc0) (y_load rfl ((box_load Ag25 Sz25 hb2 [(.int .i64 op.1)] [(.slice pa0 pn0 pc0)] [] rfl rfl (fun _ => rfl)) _ (Chg.refl _ _))) ?_
    refine pl_val (.int .i64 k24) (y_move rfl) ?_
    obtain ⟨x28, hx28, hs⟩ := bind_some hs
    obtain ⟨b29, o29, hp29, ha29⟩ := rs_idx Sl25 Sz3 h0 hx28
    refine pl_val (.pointer (some ⟨b29, o29, none⟩)) (hp29 _ _ _ _ _ _ _ _ _ rfl rfl) ?_
    refine pl_val (.int .i64 x28) (y_load rfl ((at_load_int Ag3 Sz3 ha29) _ (Chg.refl _ _))) ?_
    refine pl_val (.int .i64 n) (y_move rfl) ?_
    refine pl_val (.int .i64 (w64 (n - 1))) (y_sub rfl rfl) ?_
    obtain ⟨r31, hr31, hs⟩ := bind_some hs
    refine pl_call Bd56 rfl (c_spec_l1In (M := M) x28 0 (w64 (n - 1))  hO.fut hr31) ?_
    rintro _ w30 ⟨rfl, hC30⟩
    have h0 := h0.ext hC30
    have hb2 := hb2.chg hC30 (fun h => nomatch h)
    have hC := hC.ext hC30
    have hO := hO.ext hC30
    refine pl_val (.bool (!r31)) (y_not rfl) ?_
    refine c_nil ?_
    rcases bif_some hs with ⟨hc32, hs⟩ | ⟨hc32, hs⟩
    ·skip
     refine c_condT (congrArg Value.bool hc32) ?_
     refine c_seq (c_region ?_)
     refine pl_val (.bool false) (y_assign rfl) ?_
     refine c_nil ?_
     refine wp_ret ?_
     cases hs
     exact ⟨_, fr_ovl 36 ⟨rfl, trivial⟩, hC⟩
    ·skip
     refine c_condF (congrArg Value.bool hc32) ?_
     refine wp_skip ?_
     refine c_region ?_
     refine pl_val (.int .i64 k24) (y_move rfl) ?_
     refine pl_val (.int .i64 (w64 (k24 + 1))) (y_add rfl rfl) ?_
     refine pl_val (.int .i64 (w64 (k24 + 1))) (y_assign rfl) ?_
     refine c_nil ?_
     cases hs
     exact ⟨_, fr_ovl 36 ⟨rfl, rfl, congrArg (Value.int .i64) hw, trivial⟩, hC, hO, h0, hb2⟩
   ·skip
    exact ⟨_, fr_ovl 36 ⟨rfl, rfl, rfl, trivial⟩, hC, hO, h0, hb2⟩
   ·cases o26 with
    | nx _ => exact True.intro
    | rt r_ =>
     have hs := after_rt hs
     intro a1 w1 hK
     cases hs
     exact hK
    | br s22 =>
     have hs := after_br hs
     rintro a1 w23 ⟨σ, rfl, hC, hO, h0, hb2⟩
     refine c_seq (c_region ?_)
     refine pl_val (.bool true) (y_assign rfl) ?_
     refine c_nil ?_
     refine wp_ret ?_
     cases hs
     exact ⟨_, fr_ovl 36 ⟨rfl, trivial⟩, hC⟩

theorem Ag32 : AggT Try.prog 32 false := fun _ => by kernel_rfl

theorem Bd35 : Bodied Try.prog 35 := bodied Try.func35 (by kernel_rfl) rfl

def k_spec_l2Good (M : Nat → Prop) (w0 : World) (r : Bool) (a : Act) (w : World) : Prop :=
  ∃ (σ : Nat → Value) , a = fr 30 (ovl σ [(2, (.bool r))]) ∧ Chg [] w0 w
def s_spec_l2Good (a_ : Int × (List (Int × (List Int)))) : Option (Bool) :=
  ((s_spec_l1In a_.1 1 8).bind fun r7 =>
  (bif (!r7) then some true else some (decide (4 < (a_.2.length : Int))))).bind fun s3 =>
  (bif s3 then some false else (forC (S := Unit) (R := Bool) (fun k20 s18 =>
  (idx a_.2 k20).bind fun x25 =>
  (s_spec_l2Op a_.1 (x25.1, x25.2)).bind fun r30 =>
  (bif (!r30) then some (.rt false) else some (.nx ()))) 0 (a_.2.length : Int) ()).bind fun o22 => after o22 (fun r_ => some r_) (fun s18 =>
  some true))
set_option maxHeartbeats 4000000 in
theorem c_spec_l2Good {M : Nat → Prop} {w : World} {pa0 : Option Addr} {pn0 pc0 : Nat} (a_ : Int × (List (Int × (List Int)))) (h0 : (RT.rs (RT.pr (RT.int .i64) (RT.rs (RT.int .i64)))).val M w (.slice pa0 pn0 pc0) a_.2 ([])) (hM : ∀ g, w.heap.size ≤ g → M g) {r : Bool} (hs : s_spec_l2Good a_ = some r) :
    Gives Try.prog 54 [(.agg #[(.int .i64 a_.1), (.slice pa0 pn0 pc0)])] w (fun v w' => v = (.bool r) ∧ Chg [] w w') := by
 refine calls_fr Try.func54 rfl Try.ntmps54 (Nat.le_of_ble_eq_true rfl) ?_
 have hO := Own.start (N := Nw w []) hM Nw.fut
 have hC := Chg.refl [] w
 unfold s_spec_l2Good at hs
 refine wp_mono (Q := KPost (k_spec_l2Good M w r)) ?_ (fun e a w1 h => ?_)
 rotate_left
 ·cases e
  case ret =>
   obtain ⟨σ, rfl, hrest⟩ := h
   exact ret1x Try.results54 (res_tmp rfl) ⟨rfl, hrest⟩
  all_goals exact (h : False).elim
 refine c_seq (c_region ?_)
 obtain ⟨w2, g2, ew2, eg2, hC2, hb2⟩ := new_block w [(.int .i64 a_.1), (.slice pa0 pn0 pc0)] 34
 refine pl_val (w' := w2) (.pointer (some ⟨g2, 0, none⟩)) (y_box rfl (by rw [ew2, eg2]; kernel_rfl)) ?_
 have h0 := h0.ext hC2
 have hC := hC.ext hC2
 have hO := hO.new1 hC2 eg2 hb2.lt
 refine pl_val (.bool false) (y_assign rfl) ?_
 refine c_nil ?_
 refine c_seq ?_
 refine c_seq ?_
 obtain ⟨s3, hm5, hs⟩ := bind_some hs
 refine c_mid (I := fun a w4 => ∃ (σ : Nat → Value), a = fr 30 (ovl σ [(1, (.pointer (some ⟨g2, 0, none⟩))), (2, (.bool false)), (13, (.bool s3))]) ∧ Chg [] w2 w4) ?_ ?_
 ·replace hs := hm5
  have hMid := Chg.refl [] w2
  refine c_region ?_
  refine pl_val (.pointer (some ⟨g2, 0, none⟩)) (y_faddr rfl Fa34x0) ?_
  refine pl_val (.int .i64 a_.1) (y_load rfl ((box_load Ag3 Sz3 hb2 [] [(.int .i64 a_.1)] [(.slice pa0 pn0 pc0)] rfl rfl (fun _ => rfl)) _ (Chg.refl _ _))) ?_
  obtain ⟨r7, hr7, hs⟩ := bind_some hs
  refine pl_call Bd56 rfl (c_spec_l1In (M := M) a_.1 1 8  hO.fut hr7) ?_
  rintro _ w6 ⟨rfl, hC6⟩
  have h0 := h0.ext hC6
  have hb2 := hb2.chg hC6 (fun h => nomatch h)
  have hMid := hMid.ext hC6
  have hC := hC.ext hC6
  have hO := hO.ext hC6
  refine pl_val (.bool (!r7)) (y_not rfl) ?_
  refine pl_val (.bool (!r7)) (y_move rfl) ?_
  rcases bif_some hs with ⟨hc8, hs⟩ | ⟨hc8, hs⟩
  ·skip
   refine pl_not (tg := 8) (by kernel_rfl) (congrArg Value.bool hc8) ?_
   refine pl_not (tg := 8) (by kernel_rfl) (congrArg Value.bool hc8) ?_
   refine pl_not (tg := 8) (by kernel_rfl) (congrArg Value.bool hc8) ?_
   refine pl_not (tg := 8) (by kernel_rfl) (congrArg Value.bool hc8) ?_
   refine pl_val (.bool true) (y_pick_t (congrArg Value.bool hc8) rfl) ?_
   refine c_nil ?_
   cases hs
   exact ⟨_, fr_ovl 30 ⟨rfl, rfl, rfl, trivial⟩, hMid⟩
  ·skip
   refine pl_yes (.pointer (some ⟨g2, 1, none⟩)) (tg := 8) (by kernel_rfl) (congrArg Value.bool hc8) (y_faddr rfl Fa34x1) ?_
   refine pl_yes (.slice pa0 pn0 pc0) (tg := 8) (by kernel_rfl) (congrArg Value.bool hc8) (y_load rfl ((box_load Ag32 Sz32 hb2 [(.int .i64 a_.1)] [(.slice pa0 pn0 pc0)] [] rfl rfl (fun _ => rfl)) _ (Chg.refl _ _))) ?_
   refine pl_yes (.int .i64 (a_.2.length : Int)) (tg := 8) (by kernel_rfl) (congrArg Value.bool hc8) (y_len' Sl32 (rs_len h0) rfl) ?_
   refine pl_yes (.bool (decide (4 < (a_.2.length : Int)))) (tg := 8) (by kernel_rfl) (congrArg Value.bool hc8) (y_gtr rfl rfl) ?_
   refine pl_val (.bool (decide (4 < (a_.2.length : Int)))) (y_pick_f (congrArg Value.bool hc8) rfl) ?_
   refine c_nil ?_
   cases hs
   exact ⟨_, fr_ovl 30 ⟨rfl, rfl, rfl, trivial⟩, hMid⟩
 ·rintro a1 w4 ⟨σ, rfl, hCs3⟩
  have h0 := h0.ext hCs3
  have hb2 := hb2.chg hCs3 (fun h => nomatch h)
  have hC := hC.ext hCs3
  have hO := hO.ext hCs3
  rcases bif_some hs with ⟨hc9, hs⟩ | ⟨hc9, hs⟩
  ·skip
   refine c_condT (congrArg Value.bool hc9) ?_
   refine c_seq (c_region ?_)
   refine pl_val (.bool false) (y_assign rfl) ?_
   refine c_nil ?_
   refine wp_ret ?_
   cases hs
   exact ⟨_, fr_ovl 30 ⟨rfl, trivial⟩, hC⟩
  ·skip
   refine c_condF (congrArg Value.bool hc9) ?_
   refine wp_skip ?_
   refine c_seq ?_
   refine c_seq (c_region ?_)
   refine pl_val (.int .i64 0) (y_assign rfl) ?_
   refine c_nil ?_
   obtain ⟨o22, hl23, hs⟩ := bind_some hs
   refine wp_block ?_
   refine wp_forC (id := 0) (a_.2.length : Int) (I := fun k20 s18 a w19 => ∃ (σ : Nat → Value), a = fr 30 (ovl σ [(1, (.pointer (some ⟨g2, 0, none⟩))), (3, (.int .i64 k20))]) ∧ Chg [] w w19 ∧ Own (Nw w []) M w19 (([g2]) ++ []) ∧ (RT.rs (RT.pr (RT.int .i64) (RT.rs (RT.int .i64)))).val M w19 (.slice pa0 pn0 pc0) a_.2 ([]) ∧ BoxV w19 g2 34 [(.int .i64 a_.1), (.slice pa0 pn0 pc0)]) (J := fun s18 a w19 => ∃ (σ : Nat → Value), a = fr 30 (ovl σ []) ∧ Chg [] w w19 ∧ Own (Nw w []) M w19 (([g2]) ++ []) ∧ (RT.rs (RT.pr (RT.int .i64) (RT.rs (RT.int .i64)))).val M w19 (.slice pa0 pn0 pc0) a_.2 ([]) ∧ BoxV w19 g2 34 [(.int .i64 a_.1), (.slice pa0 pn0 pc0)]) (K := (k_spec_l2Good M w)) ?_ ?_ 0 () o22 _ _ ?_ hl23 ?_
   ·rintro k20 s18 a w19 ⟨σ, rfl, hC, hO, h0, hb2⟩ hlt
    refine c_seq ?_
    refine c_seq (c_region ?_)
    refine pl_val (.int .i64 k20) (y_move rfl) ?_
    refine pl_val (.pointer (some ⟨g2, 1, none⟩)) (y_faddr rfl Fa34x1) ?_
    refine pl_val (.slice pa0 pn0 pc0) (y_load rfl ((box_load Ag32 Sz32 hb2 [(.int .i64 a_.1)] [(.slice pa0 pn0 pc0)] [] rfl rfl (fun _ => rfl)) _ (Chg.refl _ _))) ?_
    refine pl_val (.int .i64 (a_.2.length : Int)) (y_len' Sl32 (rs_len h0) rfl) ?_
    refine pl_val (.bool (decide (k20 < (a_.2.length : Int)))) (y_lss rfl rfl) ?_
    refine c_nil ?_
    refine c_condF (congrArg Value.bool (decide_eq_false hlt)) ?_
    refine wp_exit ?_
    exact ⟨rfl, _, fr_ovl 30 trivial, hC, hO, h0, hb2⟩
   ·rintro k20 s18 o22 a w19 ⟨σ, rfl, hC, hO, h0, hb2⟩ hlt hw hs
    refine c_seq ?_
    refine c_seq (c_region ?_)
    refine pl_val (.int .i64 k20) (y_move rfl) ?_
    refine pl_val (.pointer (some ⟨g2, 1, none⟩)) (y_faddr rfl Fa34x1) ?_
    refine pl_val (.slice pa0 pn0 pc0) (y_load rfl ((box_load Ag32 Sz32 hb2 [(.int .i64 a_.1)] [(.slice pa0 pn0 pc0)] [] rfl rfl (fun _ => rfl)) _ (Chg.refl _ _))) ?_
    refine pl_val (.int .i64 (a_.2.length : Int)) (y_len' Sl32 (rs_len h0) rfl) ?_
    refine pl_val (.bool (decide (k20 < (a_.2.length : Int)))) (y_lss rfl rfl) ?_
    refine c_nil ?_
    refine c_condT (congrArg Value.bool (decide_eq_true hlt)) ?_
    refine wp_skip ?_
    refine c_seq ?_
    refine wp_block ?_
    refine c_seq ?_
    refine x_start [] Mx rfl ?_
    have hCw24 := Chg.drew w19
    generalize World.drew w19 = w24 at hCw24 ⊢
    have h0 := h0.ext hCw24
    have hb2 := hb2.chg hCw24 (fun h => nomatch h)
    have hC := hC.ext hCw24
    have hO := hO.ext hCw24
    have hS := Chg.refl [] w24
    refine x_p 0 (.pointer (some ⟨g2, 0, none⟩)) rfl (by kernel_rfl)  (fun _ => y_faddr rfl Fa34x0) (fun _ => hS) ?_
    refine x_l 1 (.int .i64 a_.1) rfl (by kernel_rfl)  (fun w' hw' => y_load rfl ((box_load Ag3 Sz3 hb2 [] [(.int .i64 a_.1)] [(.slice pa0 pn0 pc0)] rfl rfl (fun _ => rfl)) w' hw')) hS ?_
    refine x_p 2 (.pointer (some ⟨g2, 1, none⟩)) rfl (by kernel_rfl)  (fun _ => y_faddr rfl Fa34x1) (fun _ => hS) ?_
    refine x_l 3 (.slice pa0 pn0 pc0) rfl (by kernel_rfl)  (fun w' hw' => y_load rfl ((box_load Ag32 Sz32 hb2 [(.int .i64 a_.1)] [(.slice pa0 pn0 pc0)] [] rfl rfl (fun _ => rfl)) w' hw')) hS ?_
    refine x_p 4 (.int .i64 k20) rfl (by kernel_rfl)  (fun _ => y_move rfl) (fun _ => hS) ?_
    obtain ⟨x25, hx25, hs⟩ := bind_some hs
    obtain ⟨b26, o26, hp26, ha26⟩ := rs_idx Sl32 Sz36 h0 hx25
    refine x_p 5 (.pointer (some ⟨b26, o26, none⟩)) rfl (by kernel_rfl)  (fun _ => hp26 _ _ _ _ _ _ _ _ _ rfl rfl) (fun _ => hS) ?_
    obtain ⟨v27, hl27, hv27⟩ := at_load Ag36 Sz36 (by intro h; cases h) ha26
    obtain ⟨cs27, rfl, hr27⟩ := hv27
    obtain ⟨cc27x1, cd27x1, rfl, hh27x1, ht27x1⟩ := pr_open hr27
    obtain rfl := int_rel hh27x1
    obtain ⟨a27x2, n27x2, c27x2, rfl, hv27x2⟩ := rs_rel ht27x1
    refine x_l 6 (.agg #[(.int .i64 x25.1), (.slice a27x2 n27x2 c27x2)]) rfl (by kernel_rfl)  (fun w' hw' => y_load rfl (hl27 w' hw')) hS ?_
    refine x_one (i := 7) (by kernel_rfl) ?_
    obtain ⟨r30, hr30, hs⟩ := bind_some hs
    refine xk_call (b := false) rfl  Bd35 rfl (c_spec_l2Op (M := M) a_.1 (x25.1, x25.2) hv27x2 hO.fut hr30) rfl (by rintro _ _ _ ⟨rfl, hC29⟩; exact hS.ext hC29) ?_
    rintro _ w29 ⟨rfl, hC29⟩
    have h0 := h0.ext hC29
    have hb2 := hb2.chg hC29 (fun h => nomatch h)
    have hv27x2 := hv27x2.ext hC29
    have hC := hC.ext hC29
    have hO := hO.ext hC29
    have hS := hS.ext hC29
    refine x_p 8 (.bool (!r30)) rfl (by kernel_rfl)  (fun _ => y_not rfl) (fun _ => hS) ?_
    refine x_end (by kernel_rfl) ?_
    clear hS
    rcases bif_some hs with ⟨hc31, hs⟩ | ⟨hc31, hs⟩
    ·skip
     refine c_condT (congrArg Value.bool hc31) ?_
     refine c_seq (c_region ?_)
     refine pl_val (.bool false) (y_assign rfl) ?_
     refine c_nil ?_
     refine wp_ret ?_
     cases hs
     exact ⟨_, fr_ovl 30 ⟨rfl, trivial⟩, hC⟩
    ·skip
     refine c_condF (congrArg Value.bool hc31) ?_
     refine wp_skip ?_
     refine c_region ?_
     refine pl_val (.int .i64 k20) (y_move rfl) ?_
     refine pl_val (.int .i64 (w64 (k20 + 1))) (y_add rfl rfl) ?_
     refine pl_val (.int .i64 (w64 (k20 + 1))) (y_assign rfl) ?_
     refine c_nil ?_
     cases hs
     exact ⟨_, fr_ovl 30 ⟨rfl, congrArg (Value.int .i64) hw, trivial⟩, hC, hO, h0, hb2⟩
   ·skip
    exact ⟨_, fr_ovl 30 ⟨rfl, rfl, trivial⟩, hC, hO, h0, hb2⟩
   ·cases o22 with
    | nx _ => exact True.intro
    | rt r_ =>
     have hs := after_rt hs
     intro a1 w1 hK
     cases hs
     exact hK
    | br s18 =>
     have hs := after_br hs
     rintro a1 w19 ⟨σ, rfl, hC, hO, h0, hb2⟩
     refine c_seq (c_region ?_)
     refine pl_val (.bool true) (y_assign rfl) ?_
     refine c_nil ?_
     refine wp_ret ?_
     cases hs
     exact ⟨_, fr_ovl 30 ⟨rfl, trivial⟩, hC⟩

def k_spec_l1Most (M : Nat → Prop) (w0 : World) (r : Int) (a : Act) (w : World) : Prop :=
  ∃ (σ : Nat → Value) , a = fr 10 (ovl σ [(4, (.int .i64 r))]) ∧ Chg [] w0 w
def s_spec_l1Most (a_ : Int) (b : Int) : Option (Int) :=
  (bif (decide (b < a_)) then some a_ else some b)
set_option maxHeartbeats 4000000 in
theorem c_spec_l1Most {M : Nat → Prop} {w : World}  (a_ : Int) (b : Int)  (hM : ∀ g, w.heap.size ≤ g → M g) {r : Int} (hs : s_spec_l1Most a_ b = some r) :
    Gives Try.prog 98 [(.int .i64 a_), (.int .i64 b)] w (fun v w' => v = (.int .i64 r) ∧ Chg [] w w') := by
 refine calls_fr Try.func98 rfl Try.ntmps98 (Nat.le_of_ble_eq_true rfl) ?_
 have hO := Own.start (N := Nw w []) hM Nw.fut
 have hC := Chg.refl [] w
 unfold s_spec_l1Most at hs
 refine wp_mono (Q := KPost (k_spec_l1Most M w r)) ?_ (fun e a w1 h => ?_)
 rotate_left
 ·cases e
  case ret =>
   obtain ⟨σ, rfl, hrest⟩ := h
   exact ret1x Try.results98 (res_tmp rfl) ⟨rfl, hrest⟩
  all_goals exact (h : False).elim
 refine c_seq (c_region ?_)
 refine pl_val (.int .i64 0) (y_assign rfl) ?_
 refine c_nil ?_
 refine c_seq ?_
 refine c_seq (c_region ?_)
 refine pl_val (.int .i64 a_) (y_move rfl) ?_
 refine pl_val (.int .i64 b) (y_move rfl) ?_
 refine pl_val (.bool (decide (b < a_))) (y_gtr rfl rfl) ?_
 refine c_nil ?_
 rcases bif_some hs with ⟨hc1, hs⟩ | ⟨hc1, hs⟩
 ·skip
  refine c_condT (congrArg Value.bool hc1) ?_
  refine c_seq (c_region ?_)
  refine pl_val (.int .i64 a_) (y_move rfl) ?_
  refine pl_val (.int .i64 a_) (y_assign rfl) ?_
  refine c_nil ?_
  refine wp_ret ?_
  cases hs
  exact ⟨_, fr_ovl 10 ⟨rfl, trivial⟩, hC⟩
 ·skip
  refine c_condF (congrArg Value.bool hc1) ?_
  refine wp_skip ?_
  refine c_seq (c_region ?_)
  refine pl_val (.int .i64 b) (y_move rfl) ?_
  refine pl_val (.int .i64 b) (y_assign rfl) ?_
  refine c_nil ?_
  refine wp_ret ?_
  cases hs
  exact ⟨_, fr_ovl 10 ⟨rfl, trivial⟩, hC⟩

theorem Bd98 : Bodied Try.prog 98 := bodied Try.func98 (by kernel_rfl) rfl

def k_spec_l8Most (M : Nat → Prop) (w0 : World) (r : Int) (a : Act) (w : World) : Prop :=
  ∃ (σ : Nat → Value) , a = fr 25 (ovl σ [(2, (.int .i64 r))]) ∧ Chg [] w0 w
def s_spec_l8Most (a_ : Int × (List (Int × (List Int)))) : Option (Int) :=
  (forC (S := Int) (R := Int) (fun k10 s8 =>
  (idx a_.2 k10).bind fun x14 =>
  (s_spec_l1Most s8 x14.1).bind fun r18 =>
  some (.nx r18)) 0 (a_.2.length : Int) 0).bind fun o12 => after o12 (fun r_ => some r_) (fun s8 =>
  (bif (s8 == 3) then some 40 else (bif (s8 == 2) then some 200 else some 300)))
set_option maxHeartbeats 4000000 in
theorem c_spec_l8Most {M : Nat → Prop} {w : World} {pa0 : Option Addr} {pn0 pc0 : Nat} (a_ : Int × (List (Int × (List Int)))) (h0 : (RT.rs (RT.pr (RT.int .i64) (RT.rs (RT.int .i64)))).val M w (.slice pa0 pn0 pc0) a_.2 ([])) (hM : ∀ g, w.heap.size ≤ g → M g) {r : Int} (hs : s_spec_l8Most a_ = some r) :
    Gives Try.prog 81 [(.agg #[(.int .i64 a_.1), (.slice pa0 pn0 pc0)])] w (fun v w' => v = (.int .i64 r) ∧ Chg [] w w') := by
 refine calls_fr Try.func81 rfl Try.ntmps81 (Nat.le_of_ble_eq_true rfl) ?_
 have hO := Own.start (N := Nw w []) hM Nw.fut
 have hC := Chg.refl [] w
 unfold s_spec_l8Most at hs
 refine wp_mono (Q := KPost (k_spec_l8Most M w r)) ?_ (fun e a w1 h => ?_)
 rotate_left
 ·cases e
  case ret =>
   obtain ⟨σ, rfl, hrest⟩ := h
   exact ret1x Try.results81 (res_tmp rfl) ⟨rfl, hrest⟩
  all_goals exact (h : False).elim
 refine c_seq (c_region ?_)
 obtain ⟨w2, g2, ew2, eg2, hC2, hb2⟩ := new_block w [(.int .i64 a_.1), (.slice pa0 pn0 pc0)] 34
 refine pl_val (w' := w2) (.pointer (some ⟨g2, 0, none⟩)) (y_box rfl (by rw [ew2, eg2]; kernel_rfl)) ?_
 have h0 := h0.ext hC2
 have hC := hC.ext hC2
 have hO := hO.new1 hC2 eg2 hb2.lt
 refine pl_val (.int .i64 0) (y_assign rfl) ?_
 refine c_nil ?_
 refine c_seq (c_region ?_)
 refine pl_val (.int .i64 0) (y_assign rfl) ?_
 refine c_nil ?_
 refine c_seq ?_
 refine c_seq (c_region ?_)
 refine pl_val (.int .i64 0) (y_assign rfl) ?_
 refine c_nil ?_
 obtain ⟨o12, hl13, hs⟩ := bind_some hs
 refine wp_block ?_
 refine wp_forC (id := 0) (a_.2.length : Int) (I := fun k10 s8 a w9 => ∃ (σ : Nat → Value), a = fr 25 (ovl σ [(1, (.pointer (some ⟨g2, 0, none⟩))), (3, (.int .i64 s8)), (4, (.int .i64 k10))]) ∧ Chg [] w w9 ∧ Own (Nw w []) M w9 (([g2]) ++ []) ∧ (RT.rs (RT.pr (RT.int .i64) (RT.rs (RT.int .i64)))).val M w9 (.slice pa0 pn0 pc0) a_.2 ([]) ∧ BoxV w9 g2 34 [(.int .i64 a_.1), (.slice pa0 pn0 pc0)]) (J := fun s8 a w9 => ∃ (σ : Nat → Value), a = fr 25 (ovl σ [(3, (.int .i64 s8))]) ∧ Chg [] w w9 ∧ Own (Nw w []) M w9 (([g2]) ++ []) ∧ (RT.rs (RT.pr (RT.int .i64) (RT.rs (RT.int .i64)))).val M w9 (.slice pa0 pn0 pc0) a_.2 ([]) ∧ BoxV w9 g2 34 [(.int .i64 a_.1), (.slice pa0 pn0 pc0)]) (K := (k_spec_l8Most M w)) ?_ ?_ 0 0 o12 _ _ ?_ hl13 ?_
 ·rintro k10 s8 a w9 ⟨σ, rfl, hC, hO, h0, hb2⟩ hlt
  refine c_seq ?_
  refine c_seq (c_region ?_)
  refine pl_val (.int .i64 k10) (y_move rfl) ?_
  refine pl_val (.pointer (some ⟨g2, 1, none⟩)) (y_faddr rfl Fa34x1) ?_
  refine pl_val (.slice pa0 pn0 pc0) (y_load rfl ((box_load Ag32 Sz32 hb2 [(.int .i64 a_.1)] [(.slice pa0 pn0 pc0)] [] rfl rfl (fun _ => rfl)) _ (Chg.refl _ _))) ?_
  refine pl_val (.int .i64 (a_.2.length : Int)) (y_len' Sl32 (rs_len h0) rfl) ?_
  refine pl_val (.bool (decide (k10 < (a_.2.length : Int)))) (y_lss rfl rfl) ?_
  refine c_nil ?_
  refine c_condF (congrArg Value.bool (decide_eq_false hlt)) ?_
  refine wp_exit ?_
  exact ⟨rfl, _, fr_ovl 25 ⟨rfl, trivial⟩, hC, hO, h0, hb2⟩
 ·rintro k10 s8 o12 a w9 ⟨σ, rfl, hC, hO, h0, hb2⟩ hlt hw hs
  refine c_seq ?_
  refine c_seq (c_region ?_)
  refine pl_val (.int .i64 k10) (y_move rfl) ?_
  refine pl_val (.pointer (some ⟨g2, 1, none⟩)) (y_faddr rfl Fa34x1) ?_
  refine pl_val (.slice pa0 pn0 pc0) (y_load rfl ((box_load Ag32 Sz32 hb2 [(.int .i64 a_.1)] [(.slice pa0 pn0 pc0)] [] rfl rfl (fun _ => rfl)) _ (Chg.refl _ _))) ?_
  refine pl_val (.int .i64 (a_.2.length : Int)) (y_len' Sl32 (rs_len h0) rfl) ?_
  refine pl_val (.bool (decide (k10 < (a_.2.length : Int)))) (y_lss rfl rfl) ?_
  refine c_nil ?_
  refine c_condT (congrArg Value.bool (decide_eq_true hlt)) ?_
  refine wp_skip ?_
  refine c_seq ?_
  refine wp_block ?_
  refine c_region ?_
  refine pl_val (.int .i64 s8) (y_move rfl) ?_
  refine pl_val (.pointer (some ⟨g2, 1, none⟩)) (y_faddr rfl Fa34x1) ?_
  refine pl_val (.slice pa0 pn0 pc0) (y_load rfl ((box_load Ag32 Sz32 hb2 [(.int .i64 a_.1)] [(.slice pa0 pn0 pc0)] [] rfl rfl (fun _ => rfl)) _ (Chg.refl _ _))) ?_
  refine pl_val (.int .i64 k10) (y_move rfl) ?_
  obtain ⟨x14, hx14, hs⟩ := bind_some hs
  obtain ⟨b15, o15, hp15, ha15⟩ := rs_idx Sl32 Sz36 h0 hx14
  refine pl_val (.pointer (some ⟨b15, o15, none⟩)) (hp15 _ _ _ _ _ _ _ _ _ rfl rfl) ?_
  obtain ⟨hq16, _⟩ := pr_at ha15
  refine pl_val (.pointer (some ⟨b15, o15 + 0, none⟩)) (y_faddr rfl Fa36x0) ?_
  refine pl_val (.int .i64 x14.1) (y_load rfl ((at_load_int Ag3 Sz3 hq16) _ (Chg.refl _ _))) ?_
  obtain ⟨r18, hr18, hs⟩ := bind_some hs
  refine pl_call Bd98 rfl (c_spec_l1Most (M := M) s8 x14.1  hO.fut hr18) ?_
  rintro _ w17 ⟨rfl, hC17⟩
  have h0 := h0.ext hC17
  have hb2 := hb2.chg hC17 (fun h => nomatch h)
  have hC := hC.ext hC17
  have hO := hO.ext hC17
  refine pl_val (.int .i64 r18) (y_assign rfl) ?_
  refine c_nil ?_
  refine c_region ?_
  refine pl_val (.int .i64 k10) (y_move rfl) ?_
  refine pl_val (.int .i64 (w64 (k10 + 1))) (y_add rfl rfl) ?_
  refine pl_val (.int .i64 (w64 (k10 + 1))) (y_assign rfl) ?_
  refine c_nil ?_
  cases hs
  exact ⟨_, fr_ovl 25 ⟨rfl, rfl, congrArg (Value.int .i64) hw, trivial⟩, hC, hO, h0, hb2⟩
 ·skip
  exact ⟨_, fr_ovl 25 ⟨rfl, rfl, rfl, trivial⟩, hC, hO, h0, hb2⟩
 ·cases o12 with
  | nx _ => exact True.intro
  | rt r_ =>
   have hs := after_rt hs
   intro a1 w1 hK
   cases hs
   exact hK
  | br s8 =>
   have hs := after_br hs
   rintro a1 w9 ⟨σ, rfl, hC, hO, h0, hb2⟩
   refine c_seq ?_
   refine c_seq (c_region ?_)
   refine pl_val (.int .i64 s8) (y_move rfl) ?_
   refine c_nil ?_
   refine wp_block ?_
   refine c_seq (c_region ?_)
   refine pl_val (.bool (s8 == 3)) (y_eql rfl rfl) ?_
   refine pl_val (.bool (s8 == 3)) (y_assign rfl) ?_
   refine c_nil ?_
   rcases bif_some hs with ⟨hc19, hs⟩ | ⟨hc19, hs⟩
   ·skip
    refine c_condT (congrArg Value.bool hc19) ?_
    refine c_seq (c_region ?_)
    refine pl_val (.int .i64 40) (y_assign rfl) ?_
    refine c_nil ?_
    refine wp_ret ?_
    cases hs
    exact ⟨_, fr_ovl 25 ⟨rfl, trivial⟩, hC⟩
   ·skip
    refine c_condF (congrArg Value.bool hc19) ?_
    refine c_seq (c_region ?_)
    refine pl_val (.bool (s8 == 2)) (y_eql rfl rfl) ?_
    refine pl_val (.bool (s8 == 2)) (y_assign rfl) ?_
    refine c_nil ?_
    rcases bif_some hs with ⟨hc20, hs⟩ | ⟨hc20, hs⟩
    ·skip
     refine c_condT (congrArg Value.bool hc20) ?_
     refine c_seq (c_region ?_)
     refine pl_val (.int .i64 200) (y_assign rfl) ?_
     refine c_nil ?_
     refine wp_ret ?_
     cases hs
     exact ⟨_, fr_ovl 25 ⟨rfl, trivial⟩, hC⟩
    ·skip
     refine c_condF (congrArg Value.bool hc20) ?_
     refine wp_skip ?_
     refine c_seq (c_region ?_)
     refine pl_val (.int .i64 300) (y_assign rfl) ?_
     refine c_nil ?_
     refine wp_ret ?_
     cases hs
     exact ⟨_, fr_ovl 25 ⟨rfl, trivial⟩, hC⟩

def k_spec_l1Own (M : Nat → Prop) (w0 : World) (r : (List Int)) (a : Act) (w : World) : Prop :=
  ∃ (σ : Nat → Value) (ra0 : Option Addr) (rn0 rc0 : Nat) (rf0 : List Nat), a = fr 6 (ovl σ [(2, (.slice ra0 rn0 rc0))]) ∧ Chg [] w0 w ∧ (RT.os 3 (RT.int .i64)).val M w (.slice ra0 rn0 rc0) r rf0 ∧ Own (Nw w0 []) (fun _ => True) w (rf0 ++ ([]))
def s_spec_l1Own (l : List Int) : Option ((List Int)) :=
  (app ([]) l).bind fun y5 =>
  some y5
set_option maxHeartbeats 4000000 in
theorem c_spec_l1Own {M : Nat → Prop} {w : World} {pa0 : Option Addr} {pn0 pc0 : Nat} (l : List Int) (h0 : (RT.rs (RT.int .i64)).val M w (.slice pa0 pn0 pc0) l ([])) (hM : ∀ g, w.heap.size ≤ g → M g) {r : (List Int)} (hs : s_spec_l1Own l = some r) :
    Gives Try.prog 82 [(.slice pa0 pn0 pc0)] w (fun v w' => ∃ (ra0 : Option Addr) (rn0 rc0 : Nat) (rf0 : List Nat), v = (.slice ra0 rn0 rc0) ∧ Chg [] w w' ∧ (RT.os 3 (RT.int .i64)).val M w' (.slice ra0 rn0 rc0) r rf0 ∧ Own (Nw w []) (fun _ => True) w' (rf0 ++ ([]))) := by
 refine calls_fr Try.func82 rfl Try.ntmps82 (Nat.le_of_ble_eq_true rfl) ?_
 have hO := Own.start (N := Nw w []) hM Nw.fut
 have hC := Chg.refl [] w
 unfold s_spec_l1Own at hs
 refine wp_mono (Q := KPost (k_spec_l1Own M w r)) ?_ (fun e a w1 h => ?_)
 rotate_left
 ·cases e
  case ret =>
   obtain ⟨σ, ra0, rn0, rc0, rf0, rfl, hrest⟩ := h
   exact ret1x Try.results82 (res_tmp rfl) ⟨ra0, rn0, rc0, rf0, rfl, hrest⟩
  all_goals exact (h : False).elim
 refine c_seq (c_region ?_)
 refine pl_val (.slice none 0 0) (y_assign rfl) ?_
 refine c_nil ?_
 refine c_seq (c_region ?_)
 obtain ⟨w2, g2, ew2, eg2, hC2, hb2⟩ := new_block w [] 3
 refine pl_val (w' := w2) (.slice (some ⟨g2, 0, none⟩) 0 0) (y_bslice rfl (by rw [ew2, eg2]; kernel_rfl)) ?_
 have h0 := h0.ext hC2
 have hC := hC.ext hC2
 have hO := hO.new1 hC2 eg2 hb2.lt
 have hv2 := os_of_box (r := (RT.int .i64)) (M := M) (css := []) (fps := []) (xs := ([] : List Int)) hb2 trivial (Nat.zero_le _) (List.nodup_cons.2 ⟨(fun h => nomatch h), List.nodup_nil⟩)
 have hv2 : (RT.os 3 (RT.int .i64)).val M w2 (.slice (some ⟨g2, 0, none⟩) 0 0) [] [g2] := hv2
 refine pl_val (.slice pa0 pn0 pc0) (y_move rfl) ?_
 obtain ⟨y5, hy5, hs⟩ := bind_some hs
 obtain ⟨a4, n4, c4, w4, f4, hr4, hC4, hf4, hv4⟩ := app_rs Rw25 hy5 hv2 h0 hO.inM
 have hG4 := os_block hv2
 refine pl_val (w' := w4) (.slice a4 n4 c4) (y_append rfl rfl (hr4 _)) ?_
 have h0 := h0.mut hC4 (fun g hg => hO.inM g (hG4 g hg)) (fun _ _ h => nomatch h)
 have hC := hC.step hC4 (fun g hg => hO.inN g (hG4 g hg))
 have hO := hO.grow hC4 hf4 (os_nodup hv4) hv4.fpl
 refine pl_val (.slice a4 n4 c4) (y_assign rfl) ?_
 refine c_nil ?_
 refine wp_ret ?_
 cases hs
 exact ⟨_, a4, n4, c4, f4, fr_ovl 6 ⟨rfl, trivial⟩, hC, hv4, hO.top⟩

theorem Sl49 : SlT Try.prog 49 25 := Try.underlying49

def k_spec_l8Apply (M : Nat → Prop) (w0 : World) (r : (List Int)) (a : Act) (w : World) : Prop :=
  ∃ (σ : Nat → Value) (ra0 : Option Addr) (rn0 rc0 : Nat) (rf0 : List Nat), a = fr 50 (ovl σ [(8, (.slice ra0 rn0 rc0))]) ∧ Chg [] w0 w ∧ (RT.os 3 (RT.int .i64)).val M w (.slice ra0 rn0 rc0) r rf0 ∧ Own (Nw w0 []) (fun _ => True) w (rf0 ++ ([]))
def s_spec_l8Apply (a_ : Int × (List (Int × (List Int)))) (op : Int) (tuples : List (List Int)) (k : Int) : Option ((List Int)) :=
  (forC (S := (List Int)) (R := (List Int)) (fun k42 s40 =>
  (forC (S := Int) (R := (List Int)) (fun k59 s57 =>
  (idx tuples k59).bind fun x64 =>
  (idx x64 k42).bind fun x68 =>
  some (.nx (w64 ((w64 (s57 * a_.1)) + x68)))) 0 (tuples.length : Int) 0).bind fun o61 => after o61 (fun r_ => some (.rt r_)) (fun s57 =>
  (idx a_.2 op).bind fun x70 =>
  (idx x70.2 s57).bind fun x75 =>
  (app s40 ([x75])).bind fun y80 =>
  some (.nx y80))) 0 k ([])).bind fun o44 => after o44 (fun r_ => some r_) (fun s40 =>
  some s40)
set_option maxHeartbeats 4000000 in
theorem c_spec_l8Apply {M : Nat → Prop} {w : World} {pa0 : Option Addr} {pn0 pc0 : Nat} {pa1 : Option Addr} {pn1 pc1 : Nat} (a_ : Int × (List (Int × (List Int)))) (op : Int) (tuples : List (List Int)) (k : Int) (h0 : (RT.rs (RT.pr (RT.int .i64) (RT.rs (RT.int .i64)))).val M w (.slice pa0 pn0 pc0) a_.2 ([])) (h1 : (RT.rs (RT.rs (RT.int .i64))).val M w (.slice pa1 pn1 pc1) tuples ([])) (hM : ∀ g, w.heap.size ≤ g → M g) {r : (List Int)} (hs : s_spec_l8Apply a_ op tuples k = some r) :
    Gives Try.prog 83 [(.agg #[(.int .i64 a_.1), (.slice pa0 pn0 pc0)]), (.int .i64 op), (.slice pa1 pn1 pc1), (.int .i64 k)] w (fun v w' => ∃ (ra0 : Option Addr) (rn0 rc0 : Nat) (rf0 : List Nat), v = (.slice ra0 rn0 rc0) ∧ Chg [] w w' ∧ (RT.os 3 (RT.int .i64)).val M w' (.slice ra0 rn0 rc0) r rf0 ∧ Own (Nw w []) (fun _ => True) w' (rf0 ++ ([]))) := by
 refine calls_fr Try.func83 rfl Try.ntmps83 (Nat.le_of_ble_eq_true rfl) ?_
 have hO := Own.start (N := Nw w []) hM Nw.fut
 have hC := Chg.refl [] w
 unfold s_spec_l8Apply at hs
 refine wp_mono (Q := KPost (k_spec_l8Apply M w r)) ?_ (fun e a w1 h => ?_)
 rotate_left
 ·cases e
  case ret =>
   obtain ⟨σ, ra0, rn0, rc0, rf0, rfl, hrest⟩ := h
   exact ret1x Try.results83 (res_tmp rfl) ⟨ra0, rn0, rc0, rf0, rfl, hrest⟩
  all_goals exact (h : False).elim
 refine c_seq (c_region ?_)
 obtain ⟨w3, g3, ew3, eg3, hC3, hb3⟩ := new_block w [(.int .i64 a_.1), (.slice pa0 pn0 pc0)] 34
 refine pl_val (w' := w3) (.pointer (some ⟨g3, 0, none⟩)) (y_box rfl (by rw [ew3, eg3]; kernel_rfl)) ?_
 have h0 := h0.ext hC3
 have h1 := h1.ext hC3
 have hC := hC.ext hC3
 have hO := hO.new1 hC3 eg3 hb3.lt
 refine pl_val (.slice none 0 0) (y_assign rfl) ?_
 refine c_nil ?_
 refine c_seq (c_region ?_)
 obtain ⟨w4, g4, ew4, eg4, hC4, hb4⟩ := new_block w3 [] 3
 refine pl_val (w' := w4) (.slice (some ⟨g4, 0, none⟩) 0 0) (y_bslice rfl (by rw [ew4, eg4]; kernel_rfl)) ?_
 have h0 := h0.ext hC4
 have h1 := h1.ext hC4
 have hb3 := hb3.chg hC4 (fun h => nomatch h)
 have hC := hC.ext hC4
 have hO := hO.new1 hC4 eg4 hb4.lt
 have hv4 := os_of_box (r := (RT.int .i64)) (M := M) (css := []) (fps := []) (xs := ([] : List Int)) hb4 trivial (Nat.zero_le _) (List.nodup_cons.2 ⟨(fun h => nomatch h), List.nodup_nil⟩)
 have hv4 : (RT.os 3 (RT.int .i64)).val M w4 (.slice (some ⟨g4, 0, none⟩) 0 0) [] [g4] := hv4
 refine pl_val (.slice (some ⟨g4, 0, none⟩) 0 0) (y_assign rfl) ?_
 refine c_nil ?_
 refine c_seq ?_
 refine c_seq (c_region ?_)
 refine pl_val (.int .i64 0) (y_assign rfl) ?_
 refine c_nil ?_
 obtain ⟨o44, hl45, hs⟩ := bind_some hs
 refine wp_block ?_
 refine wp_forC (id := 0) k (I := fun k42 s40 a w41 => ∃ (σ : Nat → Value) (a46 : Option Addr) (n46 : Nat) (c46 : Nat) (f46 : List Nat), a = fr 50 (ovl σ [(1, (.int .i64 op)), (2, (.slice pa1 pn1 pc1)), (3, (.int .i64 k)), (4, (.pointer (some ⟨g3, 0, none⟩))), (9, (.slice a46 n46 c46)), (10, (.int .i64 k42))]) ∧ Chg [] w w41 ∧ Own (Nw w []) M w41 (f46 ++ (([g3]) ++ [])) ∧ (RT.rs (RT.pr (RT.int .i64) (RT.rs (RT.int .i64)))).val M w41 (.slice pa0 pn0 pc0) a_.2 ([]) ∧ (RT.rs (RT.rs (RT.int .i64))).val M w41 (.slice pa1 pn1 pc1) tuples ([]) ∧ BoxV w41 g3 34 [(.int .i64 a_.1), (.slice pa0 pn0 pc0)] ∧ (RT.os 3 (RT.int .i64)).val M w41 (.slice a46 n46 c46) s40 f46) (J := fun s40 a w41 => ∃ (σ : Nat → Value) (a48 : Option Addr) (n48 : Nat) (c48 : Nat) (f48 : List Nat), a = fr 50 (ovl σ [(9, (.slice a48 n48 c48))]) ∧ Chg [] w w41 ∧ Own (Nw w []) M w41 (f48 ++ (([g3]) ++ [])) ∧ (RT.rs (RT.pr (RT.int .i64) (RT.rs (RT.int .i64)))).val M w41 (.slice pa0 pn0 pc0) a_.2 ([]) ∧ (RT.rs (RT.rs (RT.int .i64))).val M w41 (.slice pa1 pn1 pc1) tuples ([]) ∧ BoxV w41 g3 34 [(.int .i64 a_.1), (.slice pa0 pn0 pc0)] ∧ (RT.os 3 (RT.int .i64)).val M w41 (.slice a48 n48 c48) s40 f48) (K := (k_spec_l8Apply M w)) ?_ ?_ 0 ([]) o44 _ _ ?_ hl45 ?_
 ·rintro k42 s40 a w41 ⟨σ, a46, n46, c46, f46, rfl, hC, hO, h0, h1, hb3, hv46⟩ hlt
  refine c_seq ?_
  refine c_seq (c_region ?_)
  refine pl_val (.int .i64 k42) (y_move rfl) ?_
  refine pl_val (.int .i64 k) (y_move rfl) ?_
  refine pl_val (.bool (decide (k42 < k))) (y_lss rfl rfl) ?_
  refine c_nil ?_
  refine c_condF (congrArg Value.bool (decide_eq_false hlt)) ?_
  refine wp_exit ?_
  have hO := hO.fr1
  have hO := hO.fr1
  exact ⟨rfl, _, a46, n46, c46, f46, fr_ovl 50 ⟨rfl, trivial⟩, hC, hO, h0, h1, hb3, hv46⟩
 ·rintro k42 s40 o44 a w41 ⟨σ, a46, n46, c46, f46, rfl, hC, hO, h0, h1, hb3, hv46⟩ hlt hw hs
  refine c_seq ?_
  refine c_seq (c_region ?_)
  refine pl_val (.int .i64 k42) (y_move rfl) ?_
  refine pl_val (.int .i64 k) (y_move rfl) ?_
  refine pl_val (.bool (decide (k42 < k))) (y_lss rfl rfl) ?_
  refine c_nil ?_
  refine c_condT (congrArg Value.bool (decide_eq_true hlt)) ?_
  refine wp_skip ?_
  refine c_seq ?_
  refine wp_block ?_
  refine c_seq (c_region ?_)
  refine pl_val (.int .i64 0) (y_assign rfl) ?_
  refine c_nil ?_
  refine c_seq ?_
  refine c_seq (c_region ?_)
  refine pl_val (.int .i64 0) (y_assign rfl) ?_
  refine c_nil ?_
  obtain ⟨o61, hl62, hs⟩ := bind_some hs
  refine wp_block ?_
  refine wp_forC (id := 2) (tuples.length : Int) (I := fun k59 s57 a w58 => ∃ (σ : Nat → Value), a = fr 50 (ovl σ [(1, (.int .i64 op)), (2, (.slice pa1 pn1 pc1)), (3, (.int .i64 k)), (4, (.pointer (some ⟨g3, 0, none⟩))), (9, (.slice a46 n46 c46)), (10, (.int .i64 k42)), (11, (.int .i64 s57)), (12, (.int .i64 k59))]) ∧ Chg [] w w58 ∧ Own (Nw w []) M w58 (f46 ++ (([g3]) ++ [])) ∧ (RT.rs (RT.pr (RT.int .i64) (RT.rs (RT.int .i64)))).val M w58 (.slice pa0 pn0 pc0) a_.2 ([]) ∧ (RT.rs (RT.rs (RT.int .i64))).val M w58 (.slice pa1 pn1 pc1) tuples ([]) ∧ BoxV w58 g3 34 [(.int .i64 a_.1), (.slice pa0 pn0 pc0)] ∧ (RT.os 3 (RT.int .i64)).val M w58 (.slice a46 n46 c46) s40 f46) (J := fun s57 a w58 => ∃ (σ : Nat → Value), a = fr 50 (ovl σ [(1, (.int .i64 op)), (2, (.slice pa1 pn1 pc1)), (3, (.int .i64 k)), (4, (.pointer (some ⟨g3, 0, none⟩))), (9, (.slice a46 n46 c46)), (10, (.int .i64 k42)), (11, (.int .i64 s57))]) ∧ Chg [] w w58 ∧ Own (Nw w []) M w58 (f46 ++ (([g3]) ++ [])) ∧ (RT.rs (RT.pr (RT.int .i64) (RT.rs (RT.int .i64)))).val M w58 (.slice pa0 pn0 pc0) a_.2 ([]) ∧ (RT.rs (RT.rs (RT.int .i64))).val M w58 (.slice pa1 pn1 pc1) tuples ([]) ∧ BoxV w58 g3 34 [(.int .i64 a_.1), (.slice pa0 pn0 pc0)] ∧ (RT.os 3 (RT.int .i64)).val M w58 (.slice a46 n46 c46) s40 f46) (K := (k_spec_l8Apply M w)) ?_ ?_ 0 0 o61 _ _ ?_ hl62 ?_
  ·rintro k59 s57 a w58 ⟨σ, rfl, hC, hO, h0, h1, hb3, hv46⟩ hlt
   refine c_seq ?_
   refine c_seq (c_region ?_)
   refine pl_val (.int .i64 k59) (y_move rfl) ?_
   refine pl_val (.slice pa1 pn1 pc1) (y_move rfl) ?_
   refine pl_val (.int .i64 (tuples.length : Int)) (y_len' Sl49 (rs_len h1) rfl) ?_
   refine pl_val (.bool (decide (k59 < (tuples.length : Int)))) (y_lss rfl rfl) ?_
   refine c_nil ?_
   refine c_condF (congrArg Value.bool (decide_eq_false hlt)) ?_
   refine wp_exit ?_
   have hO := hO.fr1
   have hO := hO.fr1
   exact ⟨rfl, _, fr_ovl 50 ⟨rfl, rfl, rfl, rfl, rfl, rfl, rfl, trivial⟩, hC, hO, h0, h1, hb3, hv46⟩
  ·rintro k59 s57 o61 a w58 ⟨σ, rfl, hC, hO, h0, h1, hb3, hv46⟩ hlt hw hs
   refine c_seq ?_
   refine c_seq (c_region ?_)
   refine pl_val (.int .i64 k59) (y_move rfl) ?_
   refine pl_val (.slice pa1 pn1 pc1) (y_move rfl) ?_
   refine pl_val (.int .i64 (tuples.length : Int)) (y_len' Sl49 (rs_len h1) rfl) ?_
   refine pl_val (.bool (decide (k59 < (tuples.length : Int)))) (y_lss rfl rfl) ?_
   refine c_nil ?_
   refine c_condT (congrArg Value.bool (decide_eq_true hlt)) ?_
   refine wp_skip ?_
   refine c_seq ?_
   refine wp_block ?_
   refine x_start [] Mx rfl ?_
   have hCw63 := Chg.drew w58
   generalize World.drew w58 = w63 at hCw63 ⊢
   have h0 := h0.ext hCw63
   have h1 := h1.ext hCw63
   have hb3 := hb3.chg hCw63 (fun h => nomatch h)
   have hv46 := hv46.ext hCw63
   have hC := hC.ext hCw63
   have hO := hO.ext hCw63
   have hS := Chg.refl [] w63
   refine x_p 0 (.int .i64 s57) rfl (by kernel_rfl)  (fun _ => y_move rfl) (fun _ => hS) ?_
   refine x_p 1 (.pointer (some ⟨g3, 0, none⟩)) rfl (by kernel_rfl)  (fun _ => y_faddr rfl Fa34x0) (fun _ => hS) ?_
   refine x_l 2 (.int .i64 a_.1) rfl (by kernel_rfl)  (fun w' hw' => y_load rfl ((box_load Ag3 Sz3 hb3 [] [(.int .i64 a_.1)] [(.slice pa0 pn0 pc0)] rfl rfl (fun _ => rfl)) w' hw')) hS ?_
   refine x_p 3 (.int .i64 (w64 (s57 * a_.1))) rfl (by kernel_rfl)  (fun _ => y_mul rfl rfl) (fun _ => hS) ?_
   refine x_p 4 (.slice pa1 pn1 pc1) rfl (by kernel_rfl)  (fun _ => y_move rfl) (fun _ => hS) ?_
   refine x_p 5 (.int .i64 k59) rfl (by kernel_rfl)  (fun _ => y_move rfl) (fun _ => hS) ?_
   obtain ⟨x64, hx64, hs⟩ := bind_some hs
   obtain ⟨b65, o65, hp65, ha65⟩ := rs_idx Sl49 Sz25 h1 hx64
   refine x_p 6 (.pointer (some ⟨b65, o65, none⟩)) rfl (by kernel_rfl)  (fun _ => hp65 _ _ _ _ _ _ _ _ _ rfl rfl) (fun _ => hS) ?_
   obtain ⟨v66, hl66, hv66⟩ := at_load Ag25 Sz25 (fun _ => rfl) ha65
   obtain ⟨a66, n66, c66, rfl⟩ := rs_sl hv66
   refine x_l 7 (.slice a66 n66 c66) rfl (by kernel_rfl)  (fun w' hw' => y_load rfl (hl66 w' hw')) hS ?_
   refine x_p 8 (.int .i64 k42) rfl (by kernel_rfl)  (fun _ => y_move rfl) (fun _ => hS) ?_
   obtain ⟨x68, hx68, hs⟩ := bind_some hs
   obtain ⟨b69, o69, hp69, ha69⟩ := rs_idx Sl25 Sz3 hv66 hx68
   refine x_p 9 (.pointer (some ⟨b69, o69, none⟩)) rfl (by kernel_rfl)  (fun _ => hp69 _ _ _ _ _ _ _ _ _ rfl rfl) (fun _ => hS) ?_
   refine x_l 10 (.int .i64 x68) rfl (by kernel_rfl)  (fun w' hw' => y_load rfl ((at_load_int Ag3 Sz3 ha69) w' hw')) hS ?_
   refine x_p 11 (.int .i64 (w64 ((w64 (s57 * a_.1)) + x68))) rfl (by kernel_rfl)  (fun _ => y_add rfl rfl) (fun _ => hS) ?_
   refine x_p 12 (.int .i64 (w64 ((w64 (s57 * a_.1)) + x68))) rfl (by kernel_rfl)  (fun _ => y_assign rfl) (fun _ => hS) ?_
   refine x_end (by kernel_rfl) ?_
   clear hS
   refine c_region ?_
   refine pl_val (.int .i64 k59) (y_move rfl) ?_
   refine pl_val (.int .i64 (w64 (k59 + 1))) (y_add rfl rfl) ?_
   refine pl_val (.int .i64 (w64 (k59 + 1))) (y_assign rfl) ?_
   refine c_nil ?_
   cases hs
   have hO := hO.fr1
   have hO := hO.fr1
   exact ⟨_, fr_ovl 50 ⟨rfl, rfl, rfl, rfl, rfl, rfl, rfl, congrArg (Value.int .i64) hw, trivial⟩, hC, hO, h0, h1, hb3, hv46⟩
  ·skip
   have hO := hO.fr1
   have hO := hO.fr1
   exact ⟨_, fr_ovl 50 ⟨rfl, rfl, rfl, rfl, rfl, rfl, rfl, rfl, trivial⟩, hC, hO, h0, h1, hb3, hv46⟩
  ·cases o61 with
   | nx _ => exact True.intro
   | rt r_ =>
    have hs := after_rt hs
    intro a1 w1 hK
    cases hs
    exact hK
   | br s57 =>
    have hs := after_br hs
    rintro a1 w58 ⟨σ, rfl, hC, hO, h0, h1, hb3, hv46⟩
    refine c_region ?_
    refine pl_val (.slice a46 n46 c46) (y_move rfl) ?_
    refine pl_val (.pointer (some ⟨g3, 1, none⟩)) (y_faddr rfl Fa34x1) ?_
    refine pl_val (.slice pa0 pn0 pc0) (y_load rfl ((box_load Ag32 Sz32 hb3 [(.int .i64 a_.1)] [(.slice pa0 pn0 pc0)] [] rfl rfl (fun _ => rfl)) _ (Chg.refl _ _))) ?_
    refine pl_val (.int .i64 op) (y_move rfl) ?_
    obtain ⟨x70, hx70, hs⟩ := bind_some hs
    obtain ⟨b71, o71, hp71, ha71⟩ := rs_idx Sl32 Sz36 h0 hx70
    refine pl_val (.pointer (some ⟨b71, o71, none⟩)) (hp71 _ _ _ _ _ _ _ _ _ rfl rfl) ?_
    obtain ⟨_, hq72x0⟩ := pr_at ha71
    refine pl_val (.pointer (some ⟨b71, o71 + 1, none⟩)) (y_faddr rfl Fa36x1) ?_
    obtain ⟨v73, hl73, hv73⟩ := at_load Ag25 Sz25 (fun _ => rfl) hq72x0
    obtain ⟨a73, n73, c73, rfl⟩ := rs_sl hv73
    refine pl_val (.slice a73 n73 c73) (y_load rfl (hl73 _ (Chg.refl _ _))) ?_
    refine pl_val (.int .i64 s57) (y_move rfl) ?_
    obtain ⟨x75, hx75, hs⟩ := bind_some hs
    obtain ⟨b76, o76, hp76, ha76⟩ := rs_idx Sl25 Sz3 hv73 hx75
    refine pl_val (.pointer (some ⟨b76, o76, none⟩)) (hp76 _ _ _ _ _ _ _ _ _ rfl rfl) ?_
    refine pl_val (.int .i64 x75) (y_load rfl ((at_load_int Ag3 Sz3 ha76) _ (Chg.refl _ _))) ?_
    obtain ⟨w77, g77, ew77, eg77, hC77, hb77⟩ := new_block w58 [(.int .i64 x75)] 3
    refine pl_val (w' := w77) (.slice (some ⟨g77, 0, none⟩) 1 1) (y_bslice rfl (by rw [ew77, eg77]; kernel_rfl)) ?_
    have h0 := h0.ext hC77
    have h1 := h1.ext hC77
    have hb3 := hb3.chg hC77 (fun h => nomatch h)
    have hv46 := hv46.ext hC77
    have hv73 := hv73.ext hC77
    have hC := hC.ext hC77
    have hO := hO.new1 hC77 eg77 hb77.lt
    have hv77 := os_of_box (r := (RT.int .i64)) (M := M) (css := [[(.int .i64 x75)]]) (fps := [([] : List Nat)]) (xs := ([x75] : List Int)) hb77 ⟨⟨rfl, rfl⟩, trivial⟩ (Nat.le_of_ble_eq_true rfl) (List.nodup_cons.2 ⟨(fun h => nomatch h), List.nodup_nil⟩)
    have hv77 : (RT.os 3 (RT.int .i64)).val M w77 (.slice (some ⟨g77, 0, none⟩) 1 1) [x75] [g77] := hv77
    obtain ⟨y80, hy80, hs⟩ := bind_some hs
    have hO := hO.fr1
    obtain ⟨a79, n79, c79, w79, f79, hr79, hC79, hf79, hv79⟩ := app_os Rw25 hy80 hv46 hv77 hO.inM (fun g hg hq => hO.apart g hq (mem_l hg))
    have hG79 := os_block hv46
    refine pl_val (w' := w79) (.slice a79 n79 c79) (y_append rfl rfl (hr79 _)) ?_
    have hO := hO.fr1
    have hO := hO.fr1
    have h0 := h0.mut hC79 (fun g hg => hO.inM g (hG79 g hg)) (fun _ _ h => nomatch h)
    have h1 := h1.mut hC79 (fun g hg => hO.inM g (hG79 g hg)) (fun _ _ h => nomatch h)
    have hb3 := hb3.chg hC79 (fun hg => hO.apart _ (hG79 _ hg) (mem_r (mem_l (List.mem_singleton.2 rfl))))
    have hv73 := hv73.mut hC79 (fun g hg => hO.inM g (hG79 g hg)) (fun _ _ h => nomatch h)
    have hC := hC.step hC79 (fun g hg => hO.inN g (hG79 g hg))
    have hO := hO.eat hC79 hf79 (os_nodup hv79) hv79.fpl
    refine pl_val (.slice a79 n79 c79) (y_assign rfl) ?_
    refine c_nil ?_
    refine c_region ?_
    refine pl_val (.int .i64 k42) (y_move rfl) ?_
    refine pl_val (.int .i64 (w64 (k42 + 1))) (y_add rfl rfl) ?_
    refine pl_val (.int .i64 (w64 (k42 + 1))) (y_assign rfl) ?_
    refine c_nil ?_
    cases hs
    have hO := hO.fr1
    have hO := hO.fr1
    exact ⟨_, a79, n79, c79, f79, fr_ovl 50 ⟨rfl, rfl, rfl, rfl, rfl, congrArg (Value.int .i64) hw, trivial⟩, hC, hO, h0, h1, hb3, hv79⟩
 ·skip
  have hO := hO.fr1
  have hO := hO.fr1
  exact ⟨_, (some ⟨g4, 0, none⟩), 0, 0, ([g4]), fr_ovl 50 ⟨rfl, rfl, rfl, rfl, rfl, rfl, trivial⟩, hC, hO, h0, h1, hb3, hv4⟩
 ·cases o44 with
  | nx _ => exact True.intro
  | rt r_ =>
   have hs := after_rt hs
   intro a1 w1 hK
   cases hs
   exact hK
  | br s40 =>
   have hs := after_br hs
   rintro a1 w41 ⟨σ, a48, n48, c48, f48, rfl, hC, hO, h0, h1, hb3, hv48⟩
   refine c_seq (c_region ?_)
   refine pl_val (.slice a48 n48 c48) (y_move rfl) ?_
   refine pl_val (.slice a48 n48 c48) (y_assign rfl) ?_
   refine c_nil ?_
   refine wp_ret ?_
   cases hs
   have hO := hO.fr1
   have hO := hO.drop
   exact ⟨_, a48, n48, c48, f48, fr_ovl 50 ⟨rfl, trivial⟩, hC, hv48, hO.top⟩

def k_spec_l3Less (M : Nat → Prop) (w0 : World) (r : Bool) (a : Act) (w : World) : Prop :=
  ∃ (σ : Nat → Value) , a = fr 30 (ovl σ [(4, (.bool r))]) ∧ Chg [] w0 w
def s_spec_l3Less (a_ : List Int) (b : List Int) : Option (Bool) :=
  (forC (S := Unit) (R := Bool) (fun k21 s19 =>
  (idx a_ k21).bind fun x31 =>
  (idx b k21).bind fun x33 =>
  (bif (x31 != x33) then (idx a_ k21).bind fun x37 =>
  (idx b k21).bind fun x39 =>
  some (.rt (decide (x37 < x39))) else some (.nx ()))) 0 (a_.length : Int) ()).bind fun o23 => after o23 (fun r_ => some r_) (fun s19 =>
  some false)
set_option maxHeartbeats 4000000 in
theorem c_spec_l3Less {M : Nat → Prop} {w : World} {pa0 : Option Addr} {pn0 pc0 : Nat} {pa1 : Option Addr} {pn1 pc1 : Nat} (a_ : List Int) (b : List Int) (h0 : (RT.rs (RT.int .i64)).val M w (.slice pa0 pn0 pc0) a_ ([])) (h1 : (RT.rs (RT.int .i64)).val M w (.slice pa1 pn1 pc1) b ([])) (hM : ∀ g, w.heap.size ≤ g → M g) {r : Bool} (hs : s_spec_l3Less a_ b = some r) :
    Gives Try.prog 88 [(.slice pa0 pn0 pc0), (.slice pa1 pn1 pc1)] w (fun v w' => v = (.bool r) ∧ Chg [] w w') := by
 refine calls_fr Try.func88 rfl Try.ntmps88 (Nat.le_of_ble_eq_true rfl) ?_
 have hO := Own.start (N := Nw w []) hM Nw.fut
 have hC := Chg.refl [] w
 unfold s_spec_l3Less at hs
 refine wp_mono (Q := KPost (k_spec_l3Less M w r)) ?_ (fun e a w1 h => ?_)
 rotate_left
 ·cases e
  case ret =>
   obtain ⟨σ, rfl, hrest⟩ := h
   exact ret1x Try.results88 (res_tmp rfl) ⟨rfl, hrest⟩
  all_goals exact (h : False).elim
 refine c_seq (c_region ?_)
 refine pl_val (.bool false) (y_assign rfl) ?_
 refine c_nil ?_
 refine c_seq ?_
 refine c_seq (c_region ?_)
 refine pl_val (.int .i64 0) (y_assign rfl) ?_
 refine c_nil ?_
 obtain ⟨o23, hl24, hs⟩ := bind_some hs
 refine wp_block ?_
 refine wp_forC (id := 0) (a_.length : Int) (I := fun k21 s19 a w20 => ∃ (σ : Nat → Value), a = fr 30 (ovl σ [(0, (.slice pa0 pn0 pc0)), (1, (.slice pa1 pn1 pc1)), (5, (.int .i64 k21))]) ∧ Chg [] w w20 ∧ Own (Nw w []) M w20 ([]) ∧ (RT.rs (RT.int .i64)).val M w20 (.slice pa0 pn0 pc0) a_ ([]) ∧ (RT.rs (RT.int .i64)).val M w20 (.slice pa1 pn1 pc1) b ([])) (J := fun s19 a w20 => ∃ (σ : Nat → Value), a = fr 30 (ovl σ []) ∧ Chg [] w w20 ∧ Own (Nw w []) M w20 ([]) ∧ (RT.rs (RT.int .i64)).val M w20 (.slice pa0 pn0 pc0) a_ ([]) ∧ (RT.rs (RT.int .i64)).val M w20 (.slice pa1 pn1 pc1) b ([])) (K := (k_spec_l3Less M w)) ?_ ?_ 0 () o23 _ _ ?_ hl24 ?_
 ·rintro k21 s19 a w20 ⟨σ, rfl, hC, hO, h0, h1⟩ hlt
  refine c_seq ?_
  refine c_seq (c_region ?_)
  refine pl_val (.int .i64 k21) (y_move rfl) ?_
  refine pl_val (.slice pa0 pn0 pc0) (y_move rfl) ?_
  refine pl_val (.int .i64 (a_.length : Int)) (y_len' Sl25 (rs_len h0) rfl) ?_
  refine pl_val (.bool (decide (k21 < (a_.length : Int)))) (y_lss rfl rfl) ?_
  refine c_nil ?_
  refine c_condF (congrArg Value.bool (decide_eq_false hlt)) ?_
  refine wp_exit ?_
  exact ⟨rfl, _, fr_ovl 30 trivial, hC, hO, h0, h1⟩
 ·rintro k21 s19 o23 a w20 ⟨σ, rfl, hC, hO, h0, h1⟩ hlt hw hs
  refine c_seq ?_
  refine c_seq (c_region ?_)
  refine pl_val (.int .i64 k21) (y_move rfl) ?_
  refine pl_val (.slice pa0 pn0 pc0) (y_move rfl) ?_
  refine pl_val (.int .i64 (a_.length : Int)) (y_len' Sl25 (rs_len h0) rfl) ?_
  refine pl_val (.bool (decide (k21 < (a_.length : Int)))) (y_lss rfl rfl) ?_
  refine c_nil ?_
  refine c_condT (congrArg Value.bool (decide_eq_true hlt)) ?_
  refine wp_skip ?_
  refine c_seq ?_
  refine wp_block ?_
  refine c_seq ?_
  refine x_start [] Mx rfl ?_
  have hCw30 := Chg.drew w20
  generalize World.drew w20 = w30 at hCw30 ⊢
  have h0 := h0.ext hCw30
  have h1 := h1.ext hCw30
  have hC := hC.ext hCw30
  have hO := hO.ext hCw30
  have hS := Chg.refl [] w30
  refine x_p 0 (.slice pa0 pn0 pc0) rfl (by kernel_rfl)  (fun _ => y_move rfl) (fun _ => hS) ?_
  refine x_p 1 (.int .i64 k21) rfl (by kernel_rfl)  (fun _ => y_move rfl) (fun _ => hS) ?_
  obtain ⟨x31, hx31, hs⟩ := bind_some hs
  obtain ⟨b32, o32, hp32, ha32⟩ := rs_idx Sl25 Sz3 h0 hx31
  refine x_p 2 (.pointer (some ⟨b32, o32, none⟩)) rfl (by kernel_rfl)  (fun _ => hp32 _ _ _ _ _ _ _ _ _ rfl rfl) (fun _ => hS) ?_
  refine x_l 3 (.int .i64 x31) rfl (by kernel_rfl)  (fun w' hw' => y_load rfl ((at_load_int Ag3 Sz3 ha32) w' hw')) hS ?_
  refine x_p 4 (.slice pa1 pn1 pc1) rfl (by kernel_rfl)  (fun _ => y_move rfl) (fun _ => hS) ?_
  refine x_p 5 (.int .i64 k21) rfl (by kernel_rfl)  (fun _ => y_move rfl) (fun _ => hS) ?_
  obtain ⟨x33, hx33, hs⟩ := bind_some hs
  obtain ⟨b34, o34, hp34, ha34⟩ := rs_idx Sl25 Sz3 h1 hx33
  refine x_p 6 (.pointer (some ⟨b34, o34, none⟩)) rfl (by kernel_rfl)  (fun _ => hp34 _ _ _ _ _ _ _ _ _ rfl rfl) (fun _ => hS) ?_
  refine x_l 7 (.int .i64 x33) rfl (by kernel_rfl)  (fun w' hw' => y_load rfl ((at_load_int Ag3 Sz3 ha34) w' hw')) hS ?_
  refine x_p 8 (.bool (x31 != x33)) rfl (by kernel_rfl)  (fun _ => y_neq rfl rfl) (fun _ => hS) ?_
  refine x_end (by kernel_rfl) ?_
  clear hS
  rcases bif_some hs with ⟨hc35, hs⟩ | ⟨hc35, hs⟩
  ·skip
   refine c_condT (congrArg Value.bool hc35) ?_
   refine c_seq ?_
   refine x_start [] Mx rfl ?_
   have hCw36 := Chg.drew w30
   generalize World.drew w30 = w36 at hCw36 ⊢
   have h0 := h0.ext hCw36
   have h1 := h1.ext hCw36
   have hC := hC.ext hCw36
   have hO := hO.ext hCw36
   have hS := Chg.refl [] w36
   refine x_p 0 (.slice pa0 pn0 pc0) rfl (by kernel_rfl)  (fun _ => y_move rfl) (fun _ => hS) ?_
   refine x_p 1 (.int .i64 k21) rfl (by kernel_rfl)  (fun _ => y_move rfl) (fun _ => hS) ?_
   obtain ⟨x37, hx37, hs⟩ := bind_some hs
   obtain ⟨b38, o38, hp38, ha38⟩ := rs_idx Sl25 Sz3 h0 hx37
   refine x_p 2 (.pointer (some ⟨b38, o38, none⟩)) rfl (by kernel_rfl)  (fun _ => hp38 _ _ _ _ _ _ _ _ _ rfl rfl) (fun _ => hS) ?_
   refine x_l 3 (.int .i64 x37) rfl (by kernel_rfl)  (fun w' hw' => y_load rfl ((at_load_int Ag3 Sz3 ha38) w' hw')) hS ?_
   refine x_p 4 (.slice pa1 pn1 pc1) rfl (by kernel_rfl)  (fun _ => y_move rfl) (fun _ => hS) ?_
   refine x_p 5 (.int .i64 k21) rfl (by kernel_rfl)  (fun _ => y_move rfl) (fun _ => hS) ?_
   obtain ⟨x39, hx39, hs⟩ := bind_some hs
   obtain ⟨b40, o40, hp40, ha40⟩ := rs_idx Sl25 Sz3 h1 hx39
   refine x_p 6 (.pointer (some ⟨b40, o40, none⟩)) rfl (by kernel_rfl)  (fun _ => hp40 _ _ _ _ _ _ _ _ _ rfl rfl) (fun _ => hS) ?_
   refine x_l 7 (.int .i64 x39) rfl (by kernel_rfl)  (fun w' hw' => y_load rfl ((at_load_int Ag3 Sz3 ha40) w' hw')) hS ?_
   refine x_p 8 (.bool (decide (x37 < x39))) rfl (by kernel_rfl)  (fun _ => y_lss rfl rfl) (fun _ => hS) ?_
   refine x_p 9 (.bool (decide (x37 < x39))) rfl (by kernel_rfl)  (fun _ => y_assign rfl) (fun _ => hS) ?_
   refine x_end (by kernel_rfl) ?_
   clear hS
   refine wp_ret ?_
   cases hs
   exact ⟨_, fr_ovl 30 ⟨rfl, trivial⟩, hC⟩
  ·skip
   refine c_condF (congrArg Value.bool hc35) ?_
   refine wp_skip ?_
   refine c_region ?_
   refine pl_val (.int .i64 k21) (y_move rfl) ?_
   refine pl_val (.int .i64 (w64 (k21 + 1))) (y_add rfl rfl) ?_
   refine pl_val (.int .i64 (w64 (k21 + 1))) (y_assign rfl) ?_
   refine c_nil ?_
   cases hs
   exact ⟨_, fr_ovl 30 ⟨rfl, rfl, congrArg (Value.int .i64) hw, trivial⟩, hC, hO, h0, h1⟩
 ·skip
  exact ⟨_, fr_ovl 30 ⟨rfl, rfl, rfl, trivial⟩, hC, hO, h0, h1⟩
 ·cases o23 with
  | nx _ => exact True.intro
  | rt r_ =>
   have hs := after_rt hs
   intro a1 w1 hK
   cases hs
   exact hK
  | br s19 =>
   have hs := after_br hs
   rintro a1 w20 ⟨σ, rfl, hC, hO, h0, h1⟩
   refine c_seq (c_region ?_)
   refine pl_val (.bool false) (y_assign rfl) ?_
   refine c_nil ?_
   refine wp_ret ?_
   cases hs
   exact ⟨_, fr_ovl 30 ⟨rfl, trivial⟩, hC⟩

def k_spec_l1Same (M : Nat → Prop) (w0 : World) (r : Bool) (a : Act) (w : World) : Prop :=
  ∃ (σ : Nat → Value) , a = fr 26 (ovl σ [(4, (.bool r))]) ∧ Chg [] w0 w
def s_spec_l1Same (a_ : List Int) (b : List Int) : Option (Bool) :=
  (bif ((a_.length : Int) != (b.length : Int)) then some false else (forC (S := Unit) (R := Bool) (fun k12 s10 =>
  (idx a_ k12).bind fun x17 =>
  (idx b k12).bind fun x19 =>
  (bif (x17 != x19) then some (.rt false) else some (.nx ()))) 0 (a_.length : Int) ()).bind fun o14 => after o14 (fun r_ => some r_) (fun s10 =>
  some true))
set_option maxHeartbeats 4000000 in
theorem c_spec_l1Same {M : Nat → Prop} {w : World} {pa0 : Option Addr} {pn0 pc0 : Nat} {pa1 : Option Addr} {pn1 pc1 : Nat} (a_ : List Int) (b : List Int) (h0 : (RT.rs (RT.int .i64)).val M w (.slice pa0 pn0 pc0) a_ ([])) (h1 : (RT.rs (RT.int .i64)).val M w (.slice pa1 pn1 pc1) b ([])) (hM : ∀ g, w.heap.size ≤ g → M g) {r : Bool} (hs : s_spec_l1Same a_ b = some r) :
    Gives Try.prog 89 [(.slice pa0 pn0 pc0), (.slice pa1 pn1 pc1)] w (fun v w' => v = (.bool r) ∧ Chg [] w w') := by
 refine calls_fr Try.func89 rfl Try.ntmps89 (Nat.le_of_ble_eq_true rfl) ?_
 have hO := Own.start (N := Nw w []) hM Nw.fut
 have hC := Chg.refl [] w
 unfold s_spec_l1Same at hs
 refine wp_mono (Q := KPost (k_spec_l1Same M w r)) ?_ (fun e a w1 h => ?_)
 rotate_left
 ·cases e
  case ret =>
   obtain ⟨σ, rfl, hrest⟩ := h
   exact ret1x Try.results89 (res_tmp rfl) ⟨rfl, hrest⟩
  all_goals exact (h : False).elim
 refine c_seq (c_region ?_)
 refine pl_val (.bool false) (y_assign rfl) ?_
 refine c_nil ?_
 refine c_seq ?_
 refine c_seq (c_region ?_)
 refine pl_val (.slice pa0 pn0 pc0) (y_move rfl) ?_
 refine pl_val (.int .i64 (a_.length : Int)) (y_len' Sl25 (rs_len h0) rfl) ?_
 refine pl_val (.slice pa1 pn1 pc1) (y_move rfl) ?_
 refine pl_val (.int .i64 (b.length : Int)) (y_len' Sl25 (rs_len h1) rfl) ?_
 refine pl_val (.bool ((a_.length : Int) != (b.length : Int))) (y_neq rfl rfl) ?_
 refine c_nil ?_
 rcases bif_some hs with ⟨hc3, hs⟩ | ⟨hc3, hs⟩
 ·skip
  refine c_condT (congrArg Value.bool hc3) ?_
  refine c_seq (c_region ?_)
  refine pl_val (.bool false) (y_assign rfl) ?_
  refine c_nil ?_
  refine wp_ret ?_
  cases hs
  exact ⟨_, fr_ovl 26 ⟨rfl, trivial⟩, hC⟩
 ·skip
  refine c_condF (congrArg Value.bool hc3) ?_
  refine wp_skip ?_
  refine c_seq ?_
  refine c_seq (c_region ?_)
  refine pl_val (.int .i64 0) (y_assign rfl) ?_
  refine c_nil ?_
  obtain ⟨o14, hl15, hs⟩ := bind_some hs
  refine wp_block ?_
  refine wp_forC (id := 0) (a_.length : Int) (I := fun k12 s10 a w11 => ∃ (σ : Nat → Value), a = fr 26 (ovl σ [(0, (.slice pa0 pn0 pc0)), (1, (.slice pa1 pn1 pc1)), (5, (.int .i64 k12))]) ∧ Chg [] w w11 ∧ Own (Nw w []) M w11 ([]) ∧ (RT.rs (RT.int .i64)).val M w11 (.slice pa0 pn0 pc0) a_ ([]) ∧ (RT.rs (RT.int .i64)).val M w11 (.slice pa1 pn1 pc1) b ([])) (J := fun s10 a w11 => ∃ (σ : Nat → Value), a = fr 26 (ovl σ []) ∧ Chg [] w w11 ∧ Own (Nw w []) M w11 ([]) ∧ (RT.rs (RT.int .i64)).val M w11 (.slice pa0 pn0 pc0) a_ ([]) ∧ (RT.rs (RT.int .i64)).val M w11 (.slice pa1 pn1 pc1) b ([])) (K := (k_spec_l1Same M w)) ?_ ?_ 0 () o14 _ _ ?_ hl15 ?_
  ·rintro k12 s10 a w11 ⟨σ, rfl, hC, hO, h0, h1⟩ hlt
   refine c_seq ?_
   refine c_seq (c_region ?_)
   refine pl_val (.int .i64 k12) (y_move rfl) ?_
   refine pl_val (.slice pa0 pn0 pc0) (y_move rfl) ?_
   refine pl_val (.int .i64 (a_.length : Int)) (y_len' Sl25 (rs_len h0) rfl) ?_
   refine pl_val (.bool (decide (k12 < (a_.length : Int)))) (y_lss rfl rfl) ?_
   refine c_nil ?_
   refine c_condF (congrArg Value.bool (decide_eq_false hlt)) ?_
   refine wp_exit ?_
   exact ⟨rfl, _, fr_ovl 26 trivial, hC, hO, h0, h1⟩
  ·rintro k12 s10 o14 a w11 ⟨σ, rfl, hC, hO, h0, h1⟩ hlt hw hs
   refine c_seq ?_
   refine c_seq (c_region ?_)
   refine pl_val (.int .i64 k12) (y_move rfl) ?_
   refine pl_val (.slice pa0 pn0 pc0) (y_move rfl) ?_
   refine pl_val (.int .i64 (a_.length : Int)) (y_len' Sl25 (rs_len h0) rfl) ?_
   refine pl_val (.bool (decide (k12 < (a_.length : Int)))) (y_lss rfl rfl) ?_
   refine c_nil ?_
   refine c_condT (congrArg Value.bool (decide_eq_true hlt)) ?_
   refine wp_skip ?_
   refine c_seq ?_
   refine wp_block ?_
   refine c_seq ?_
   refine x_start [] Mx rfl ?_
   have hCw16 := Chg.drew w11
   generalize World.drew w11 = w16 at hCw16 ⊢
   have h0 := h0.ext hCw16
   have h1 := h1.ext hCw16
   have hC := hC.ext hCw16
   have hO := hO.ext hCw16
   have hS := Chg.refl [] w16
   refine x_p 0 (.slice pa0 pn0 pc0) rfl (by kernel_rfl)  (fun _ => y_move rfl) (fun _ => hS) ?_
   refine x_p 1 (.int .i64 k12) rfl (by kernel_rfl)  (fun _ => y_move rfl) (fun _ => hS) ?_
   obtain ⟨x17, hx17, hs⟩ := bind_some hs
   obtain ⟨b18, o18, hp18, ha18⟩ := rs_idx Sl25 Sz3 h0 hx17
   refine x_p 2 (.pointer (some ⟨b18, o18, none⟩)) rfl (by kernel_rfl)  (fun _ => hp18 _ _ _ _ _ _ _ _ _ rfl rfl) (fun _ => hS) ?_
   refine x_l 3 (.int .i64 x17) rfl (by kernel_rfl)  (fun w' hw' => y_load rfl ((at_load_int Ag3 Sz3 ha18) w' hw')) hS ?_
   refine x_p 4 (.slice pa1 pn1 pc1) rfl (by kernel_rfl)  (fun _ => y_move rfl) (fun _ => hS) ?_
   refine x_p 5 (.int .i64 k12) rfl (by kernel_rfl)  (fun _ => y_move rfl) (fun _ => hS) ?_
   obtain ⟨x19, hx19, hs⟩ := bind_some hs
   obtain ⟨b20, o20, hp20, ha20⟩ := rs_idx Sl25 Sz3 h1 hx19
   refine x_p 6 (.pointer (some ⟨b20, o20, none⟩)) rfl (by kernel_rfl)  (fun _ => hp20 _ _ _ _ _ _ _ _ _ rfl rfl) (fun _ => hS) ?_
   refine x_l 7 (.int .i64 x19) rfl (by kernel_rfl)  (fun w' hw' => y_load rfl ((at_load_int Ag3 Sz3 ha20) w' hw')) hS ?_
   refine x_p 8 (.bool (x17 != x19)) rfl (by kernel_rfl)  (fun _ => y_neq rfl rfl) (fun _ => hS) ?_
   refine x_end (by kernel_rfl) ?_
   clear hS
   rcases bif_some hs with ⟨hc21, hs⟩ | ⟨hc21, hs⟩
   ·skip
    refine c_condT (congrArg Value.bool hc21) ?_
    refine c_seq (c_region ?_)
    refine pl_val (.bool false) (y_assign rfl) ?_
    refine c_nil ?_
    refine wp_ret ?_
    cases hs
    exact ⟨_, fr_ovl 26 ⟨rfl, trivial⟩, hC⟩
   ·skip
    refine c_condF (congrArg Value.bool hc21) ?_
    refine wp_skip ?_
    refine c_region ?_
    refine pl_val (.int .i64 k12) (y_move rfl) ?_
    refine pl_val (.int .i64 (w64 (k12 + 1))) (y_add rfl rfl) ?_
    refine pl_val (.int .i64 (w64 (k12 + 1))) (y_assign rfl) ?_
    refine c_nil ?_
    cases hs
    exact ⟨_, fr_ovl 26 ⟨rfl, rfl, congrArg (Value.int .i64) hw, trivial⟩, hC, hO, h0, h1⟩
  ·skip
   exact ⟨_, fr_ovl 26 ⟨rfl, rfl, rfl, trivial⟩, hC, hO, h0, h1⟩
  ·cases o14 with
   | nx _ => exact True.intro
   | rt r_ =>
    have hs := after_rt hs
    intro a1 w1 hK
    cases hs
    exact hK
   | br s10 =>
    have hs := after_br hs
    rintro a1 w11 ⟨σ, rfl, hC, hO, h0, h1⟩
    refine c_seq (c_region ?_)
    refine pl_val (.bool true) (y_assign rfl) ?_
    refine c_nil ?_
    refine wp_ret ?_
    cases hs
    exact ⟨_, fr_ovl 26 ⟨rfl, trivial⟩, hC⟩

theorem Bd88 : Bodied Try.prog 88 := bodied Try.func88 (by kernel_rfl) rfl

theorem Bd89 : Bodied Try.prog 89 := bodied Try.func89 (by kernel_rfl) rfl

def k_spec_l8Find (M : Nat → Prop) (w0 : World) (r : Int × Bool) (a : Act) (w : World) : Prop :=
  ∃ (σ : Nat → Value) , a = fr 40 (ovl σ [(4, (.int .i64 r.1)), (5, (.bool r.2))]) ∧ Chg [] w0 w
def s_spec_l8Find (list : List (List Int)) (t : List Int) : Option (Int × Bool) :=
  (iter (S := Int × Int) (R := Int × Bool) (fun s11 =>
  (bif (decide (s11.1 < s11.2)) then (idx list (w64 (Int.tdiv (w64 (s11.1 + s11.2)) 2))).bind fun x18 =>
  (s_spec_l3Less x18 t).bind fun r23 =>
  (bif r23 then some (.nx (w64 ((w64 (Int.tdiv (w64 (s11.1 + s11.2)) 2)) + 1), s11.2)) else some (.nx (s11.1, w64 (Int.tdiv (w64 (s11.1 + s11.2)) 2)))) else some (.br (s11.1, s11.2)))) FU (0, (list.length : Int))).bind fun o15 => after o15 (fun r_ => some r_) (fun s11 =>
  (bif (decide (s11.1 < (list.length : Int))) then (idx list s11.1).bind fun x26 =>
  (s_spec_l1Same x26 t).bind fun r31 =>
  some (s11.1, r31) else some (s11.1, false)))
set_option maxHeartbeats 4000000 in
theorem c_spec_l8Find {M : Nat → Prop} {w : World} {pa0 : Option Addr} {pn0 pc0 : Nat} {pa1 : Option Addr} {pn1 pc1 : Nat} (list : List (List Int)) (t : List Int) (h0 : (RT.rs (RT.rs (RT.int .i64))).val M w (.slice pa0 pn0 pc0) list ([])) (h1 : (RT.rs (RT.int .i64)).val M w (.slice pa1 pn1 pc1) t ([])) (hM : ∀ g, w.heap.size ≤ g → M g) {r : Int × Bool} (hs : s_spec_l8Find list t = some r) :
    Gives Try.prog 71 [(.slice pa0 pn0 pc0), (.slice pa1 pn1 pc1)] w (fun v w' => v = (.tuple #[(.int .i64 r.1), (.bool r.2)]) ∧ Chg [] w w') := by
 refine calls_fr Try.func71 rfl Try.ntmps71 (Nat.le_of_ble_eq_true rfl) ?_
 have hO := Own.start (N := Nw w []) hM Nw.fut
 have hC := Chg.refl [] w
 unfold s_spec_l8Find at hs
 refine wp_mono (Q := KPost (k_spec_l8Find M w r)) ?_ (fun e a w1 h => ?_)
 rotate_left
 ·cases e
  case ret =>
   obtain ⟨σ, rfl, hrest⟩ := h
   exact ret2x Try.results71 (res_tmp rfl) (res_tmp rfl) ⟨rfl, hrest⟩
  all_goals exact (h : False).elim
 refine c_seq (c_region ?_)
 refine pl_val (.int .i64 0) (y_assign rfl) ?_
 refine pl_val (.bool false) (y_assign rfl) ?_
 refine c_nil ?_
 refine c_seq (c_region ?_)
 refine pl_val (.slice pa0 pn0 pc0) (y_move rfl) ?_
 refine pl_val (.int .i64 (list.length : Int)) (y_len' Sl49 (rs_len h0) rfl) ?_
 refine pl_val (.int .i64 0) (y_assign rfl) ?_
 refine pl_val (.int .i64 (list.length : Int)) (y_assign rfl) ?_
 refine c_nil ?_
 refine c_seq ?_
 obtain ⟨o15, hl16, hs⟩ := bind_some hs
 refine wp_block ?_
 refine wp_iter (id := 0) (I := fun s11 a w12 => ∃ (σ : Nat → Value), a = fr 40 (ovl σ [(0, (.slice pa0 pn0 pc0)), (1, (.slice pa1 pn1 pc1)), (6, (.int .i64 s11.1)), (7, (.int .i64 s11.2))]) ∧ Chg [] w w12 ∧ Own (Nw w []) M w12 ([]) ∧ (RT.rs (RT.rs (RT.int .i64))).val M w12 (.slice pa0 pn0 pc0) list ([]) ∧ (RT.rs (RT.int .i64)).val M w12 (.slice pa1 pn1 pc1) t ([])) (J := fun s11 a w12 => ∃ (σ : Nat → Value), a = fr 40 (ovl σ [(0, (.slice pa0 pn0 pc0)), (1, (.slice pa1 pn1 pc1)), (6, (.int .i64 s11.1))]) ∧ Chg [] w w12 ∧ Own (Nw w []) M w12 ([]) ∧ (RT.rs (RT.rs (RT.int .i64))).val M w12 (.slice pa0 pn0 pc0) list ([]) ∧ (RT.rs (RT.int .i64)).val M w12 (.slice pa1 pn1 pc1) t ([])) (K := (k_spec_l8Find M w)) ?_ FU (0, (list.length : Int)) o15 _ _ ?_ hl16 ?_
 ·rintro s11 o15 a w12 ⟨σ, rfl, hC, hO, h0, h1⟩ hs
  refine c_seq ?_
  refine c_seq (c_region ?_)
  refine pl_val (.int .i64 s11.1) (y_move rfl) ?_
  refine pl_val (.int .i64 s11.2) (y_move rfl) ?_
  refine pl_val (.bool (decide (s11.1 < s11.2))) (y_lss rfl rfl) ?_
  refine c_nil ?_
  rcases bif_some hs with ⟨hc17, hs⟩ | ⟨hc17, hs⟩
  ·skip
   refine c_condT (congrArg Value.bool hc17) ?_
   refine wp_skip ?_
   refine wp_block ?_
   refine c_seq (c_region ?_)
   refine pl_val (.int .i64 s11.1) (y_move rfl) ?_
   refine pl_val (.int .i64 s11.2) (y_move rfl) ?_
   refine pl_val (.int .i64 (w64 (s11.1 + s11.2))) (y_add rfl rfl) ?_
   refine pl_val (.int .i64 (w64 (Int.tdiv (w64 (s11.1 + s11.2)) 2))) (y_quo rfl rfl (by decide)) ?_
   refine pl_val (.int .i64 (w64 (Int.tdiv (w64 (s11.1 + s11.2)) 2))) (y_assign rfl) ?_
   refine c_nil ?_
   refine c_seq (c_region ?_)
   refine pl_val (.slice pa0 pn0 pc0) (y_move rfl) ?_
   refine pl_val (.int .i64 (w64 (Int.tdiv (w64 (s11.1 + s11.2)) 2))) (y_move rfl) ?_
   obtain ⟨x18, hx18, hs⟩ := bind_some hs
   obtain ⟨b19, o19, hp19, ha19⟩ := rs_idx Sl49 Sz25 h0 hx18
   refine pl_val (.pointer (some ⟨b19, o19, none⟩)) (hp19 _ _ _ _ _ _ _ _ _ rfl rfl) ?_
   obtain ⟨v20, hl20, hv20⟩ := at_load Ag25 Sz25 (fun _ => rfl) ha19
   obtain ⟨a20, n20, c20, rfl⟩ := rs_sl hv20
   refine pl_val (.slice a20 n20 c20) (y_load rfl (hl20 _ (Chg.refl _ _))) ?_
   refine pl_val (.slice pa1 pn1 pc1) (y_move rfl) ?_
   obtain ⟨r23, hr23, hs⟩ := bind_some hs
   refine pl_call Bd88 rfl (c_spec_l3Less (M := M) x18 t hv20 h1 hO.fut hr23) ?_
   rintro _ w22 ⟨rfl, hC22⟩
   have h0 := h0.ext hC22
   have h1 := h1.ext hC22
   have hv20 := hv20.ext hC22
   have hC := hC.ext hC22
   have hO := hO.ext hC22
   refine c_nil ?_
   rcases bif_some hs with ⟨hc24, hs⟩ | ⟨hc24, hs⟩
   ·skip
    refine c_condT (congrArg Value.bool hc24) ?_
    refine c_region ?_
    refine pl_val (.int .i64 (w64 (Int.tdiv (w64 (s11.1 + s11.2)) 2))) (y_move rfl) ?_
    refine pl_val (.int .i64 (w64 ((w64 (Int.tdiv (w64 (s11.1 + s11.2)) 2)) + 1))) (y_add rfl rfl) ?_
    refine pl_val (.int .i64 (w64 ((w64 (Int.tdiv (w64 (s11.1 + s11.2)) 2)) + 1))) (y_assign rfl) ?_
    refine c_nil ?_
    cases hs
    exact ⟨_, fr_ovl 40 ⟨rfl, rfl, rfl, rfl, trivial⟩, hC, hO, h0, h1⟩
   ·skip
    refine c_condF (congrArg Value.bool hc24) ?_
    refine c_region ?_
    refine pl_val (.int .i64 (w64 (Int.tdiv (w64 (s11.1 + s11.2)) 2))) (y_move rfl) ?_
    refine pl_val (.int .i64 (w64 (Int.tdiv (w64 (s11.1 + s11.2)) 2))) (y_assign rfl) ?_
    refine c_nil ?_
    cases hs
    exact ⟨_, fr_ovl 40 ⟨rfl, rfl, rfl, rfl, trivial⟩, hC, hO, h0, h1⟩
  ·skip
   refine c_condF (congrArg Value.bool hc17) ?_
   refine wp_exit ?_
   cases hs
   exact ⟨rfl, _, fr_ovl 40 ⟨rfl, rfl, rfl, trivial⟩, hC, hO, h0, h1⟩
 ·skip
  exact ⟨_, fr_ovl 40 ⟨rfl, rfl, rfl, rfl, trivial⟩, hC, hO, h0, h1⟩
 ·cases o15 with
  | nx _ => exact True.intro
  | rt r_ =>
   have hs := after_rt hs
   intro a1 w1 hK
   cases hs
   exact hK
  | br s11 =>
   have hs := after_br hs
   rintro a1 w12 ⟨σ, rfl, hC, hO, h0, h1⟩
   refine c_seq (c_region ?_)
   refine pl_val (.int .i64 s11.1) (y_move rfl) ?_
   refine pl_val (.int .i64 s11.1) (y_move rfl) ?_
   refine pl_val (.slice pa0 pn0 pc0) (y_move rfl) ?_
   refine pl_val (.int .i64 (list.length : Int)) (y_len' Sl49 (rs_len h0) rfl) ?_
   refine pl_val (.bool (decide (s11.1 < (list.length : Int)))) (y_lss rfl rfl) ?_
   refine pl_val (.bool (decide (s11.1 < (list.length : Int)))) (y_move rfl) ?_
   rcases bif_some hs with ⟨hc25, hs⟩ | ⟨hc25, hs⟩
   ·skip
    refine pl_yes (.slice pa0 pn0 pc0) (tg := 32) (by kernel_rfl) (congrArg Value.bool hc25) (y_move rfl) ?_
    refine pl_yes (.int .i64 s11.1) (tg := 32) (by kernel_rfl) (congrArg Value.bool hc25) (y_move rfl) ?_
    obtain ⟨x26, hx26, hs⟩ := bind_some hs
    obtain ⟨b27, o27, hp27, ha27⟩ := rs_idx Sl49 Sz25 h0 hx26
    refine pl_yes (.pointer (some ⟨b27, o27, none⟩)) (tg := 32) (by kernel_rfl) (congrArg Value.bool hc25) (hp27 _ _ _ _ _ _ _ _ _ rfl rfl) ?_
    obtain ⟨v28, hl28, hv28⟩ := at_load Ag25 Sz25 (fun _ => rfl) ha27
    obtain ⟨a28, n28, c28, rfl⟩ := rs_sl hv28
    refine pl_yes (.slice a28 n28 c28) (tg := 32) (by kernel_rfl) (congrArg Value.bool hc25) (y_load rfl (hl28 _ (Chg.refl _ _))) ?_
    refine pl_yes (.slice pa1 pn1 pc1) (tg := 32) (by kernel_rfl) (congrArg Value.bool hc25) (y_move rfl) ?_
    obtain ⟨r31, hr31, hs⟩ := bind_some hs
    refine pl_cally (tg := 32) (by kernel_rfl) (congrArg Value.bool hc25) Bd89 rfl (c_spec_l1Same (M := M) x26 t hv28 h1 hO.fut hr31) ?_
    rintro _ w30 ⟨rfl, hC30⟩
    have h0 := h0.ext hC30
    have h1 := h1.ext hC30
    have hv28 := hv28.ext hC30
    have hC := hC.ext hC30
    have hO := hO.ext hC30
    refine pl_val (.bool r31) (y_pick_t (congrArg Value.bool hc25) rfl) ?_
    refine pl_val (.int .i64 s11.1) (y_assign rfl) ?_
    refine pl_val (.bool r31) (y_assign rfl) ?_
    refine c_nil ?_
    refine wp_ret ?_
    cases hs
    exact ⟨_, fr_ovl 40 ⟨rfl, rfl, trivial⟩, hC⟩
   ·skip
    refine pl_not (tg := 32) (by kernel_rfl) (congrArg Value.bool hc25) ?_
    refine pl_not (tg := 32) (by kernel_rfl) (congrArg Value.bool hc25) ?_
    refine pl_not (tg := 32) (by kernel_rfl) (congrArg Value.bool hc25) ?_
    refine pl_not (tg := 32) (by kernel_rfl) (congrArg Value.bool hc25) ?_
    refine pl_not (tg := 32) (by kernel_rfl) (congrArg Value.bool hc25) ?_
    refine pl_not (tg := 32) (by kernel_rfl) (congrArg Value.bool hc25) ?_
    refine pl_val (.bool false) (y_pick_f (congrArg Value.bool hc25) rfl) ?_
    refine pl_val (.int .i64 s11.1) (y_assign rfl) ?_
    refine pl_val (.bool false) (y_assign rfl) ?_
    refine c_nil ?_
    refine wp_ret ?_
    cases hs
    exact ⟨_, fr_ovl 40 ⟨rfl, rfl, trivial⟩, hC⟩

theorem Bd71 : Bodied Try.prog 71 := bodied Try.func71 (by kernel_rfl) rfl

theorem Rw49 : RowT Try.prog 49 25 1 [(.slice none 0 0)] := ⟨Try.underlying49, ⟨_, _, rfl, rfl, rfl, rfl, by decide⟩, rfl, by decide⟩

def k_spec_l8Put (M : Nat → Prop) (w0 : World) (r : (List (List Int))) (a : Act) (w : World) : Prop :=
  ∃ (σ : Nat → Value) (ra0 : Option Addr) (rn0 rc0 : Nat), a = fr 27 (ovl σ [(4, (.slice ra0 rn0 rc0))]) ∧ Chg [] w0 w ∧ (RT.rs (RT.rs (RT.int .i64))).val (Past M w0 w) w (.slice ra0 rn0 rc0) r []
def s_spec_l8Put (list : List (List Int)) (t : List Int) : Option ((List (List Int))) :=
  (s_spec_l8Find list t).bind fun r4 =>
  (bif r4.2 then some list else (slc list 0 r4.1).bind fun y8 =>
  (slc list r4.1 (list.length : Int)).bind fun y11 =>
  (app ([]) y8).bind fun y17 =>
  (app y17 ([t])).bind fun y22 =>
  (app y22 y11).bind fun y25 =>
  some y25)
set_option maxHeartbeats 4000000 in
theorem c_spec_l8Put {M : Nat → Prop} {w : World} {pa0 : Option Addr} {pn0 pc0 : Nat} {pa1 : Option Addr} {pn1 pc1 : Nat} (list : List (List Int)) (t : List Int) (h0 : (RT.rs (RT.rs (RT.int .i64))).val M w (.slice pa0 pn0 pc0) list ([])) (h1 : (RT.rs (RT.int .i64)).val M w (.slice pa1 pn1 pc1) t ([])) (hM : ∀ g, w.heap.size ≤ g → M g) {r : (List (List Int))} (hs : s_spec_l8Put list t = some r) :
    Gives Try.prog 84 [(.slice pa0 pn0 pc0), (.slice pa1 pn1 pc1)] w (fun v w' => ∃ (ra0 : Option Addr) (rn0 rc0 : Nat), v = (.slice ra0 rn0 rc0) ∧ Chg [] w w' ∧ (RT.rs (RT.rs (RT.int .i64))).val (Past M w w') w' (.slice ra0 rn0 rc0) r []) := by
 refine calls_fr Try.func84 rfl Try.ntmps84 (Nat.le_of_ble_eq_true rfl) ?_
 have hO := Own.start (N := Nw w []) hM Nw.fut
 have hC := Chg.refl [] w
 unfold s_spec_l8Put at hs
 refine wp_mono (Q := KPost (k_spec_l8Put M w r)) ?_ (fun e a w1 h => ?_)
 rotate_left
 ·cases e
  case ret =>
   obtain ⟨σ, ra0, rn0, rc0, rfl, hrest⟩ := h
   exact ret1x Try.results84 (res_tmp rfl) ⟨ra0, rn0, rc0, rfl, hrest⟩
  all_goals exact (h : False).elim
 refine c_seq (c_region ?_)
 refine pl_val (.slice none 0 0) (y_assign rfl) ?_
 refine c_nil ?_
 refine c_seq (c_region ?_)
 refine pl_val (.slice pa0 pn0 pc0) (y_move rfl) ?_
 refine pl_val (.slice pa1 pn1 pc1) (y_move rfl) ?_
 obtain ⟨r4, hr4, hs⟩ := bind_some hs
 refine pl_call Bd71 rfl (c_spec_l8Find (M := M) list t h0 h1 hO.fut hr4) ?_
 rintro _ w3 ⟨rfl, hC3⟩
 have h0 := h0.ext hC3
 have h1 := h1.ext hC3
 have hC := hC.ext hC3
 have hO := hO.ext hC3
 refine pl_val (.tuple #[(.int .i64 r4.1), (.bool r4.2)]) (y_move rfl) ?_
 refine pl_val (.int .i64 r4.1) (y_extract rfl (by kernel_rfl)) ?_
 refine pl_val (.bool r4.2) (y_extract rfl (by kernel_rfl)) ?_
 refine pl_val (.int .i64 r4.1) (y_assign rfl) ?_
 refine pl_val (.bool r4.2) (y_assign rfl) ?_
 refine c_nil ?_
 refine c_seq ?_
 refine c_seq (c_region ?_)
 refine pl_val (.bool r4.2) (y_move rfl) ?_
 refine c_nil ?_
 rcases bif_some hs with ⟨hc5, hs⟩ | ⟨hc5, hs⟩
 ·skip
  refine c_condT (congrArg Value.bool hc5) ?_
  refine c_seq (c_region ?_)
  refine pl_val (.slice pa0 pn0 pc0) (y_move rfl) ?_
  refine pl_val (.slice pa0 pn0 pc0) (y_assign rfl) ?_
  refine c_nil ?_
  refine wp_ret ?_
  cases hs
  exact ⟨_, pa0, pn0, pc0, fr_ovl 27 ⟨rfl, trivial⟩, hC, (Keeps.out Keeps.refl h0)⟩
 ·skip
  refine c_condF (congrArg Value.bool hc5) ?_
  refine wp_skip ?_
  refine c_seq ?_
  refine x_start [4, 7, 11] Mx rfl ?_
  have hCw6 := Chg.drew w3
  generalize World.drew w3 = w6 at hCw6 ⊢
  have h0 := h0.ext hCw6
  have h1 := h1.ext hCw6
  have hC := hC.ext hCw6
  have hO := hO.ext hCw6
  have hS := Chg.refl [] w6
  refine x_p 1 (.slice pa0 pn0 pc0) rfl (by kernel_rfl)  (fun _ => y_move rfl) (fun _ => hS) ?_
  refine x_p 2 (.int .i64 r4.1) rfl (by kernel_rfl)  (fun _ => y_move rfl) (fun _ => hS) ?_
  obtain ⟨y8, hy8, hs⟩ := bind_some hs
  obtain ⟨a7, n7, c7, hv7, hr7, hq7, hz7⟩ := rs_part Try.underlying49 Sz25 h0 hy8
  refine x_p 3 (.slice a7 n7 c7) rfl (by kernel_rfl)  (fun _ => y_slice rfl rfl rfl (hq7 rfl _)) (fun _ => hS) ?_
  refine x_p 5 (.slice pa1 pn1 pc1) rfl (by kernel_rfl)  (fun _ => y_move rfl) (fun _ => hS) ?_
  refine x_p 8 (.slice pa0 pn0 pc0) rfl (by kernel_rfl)  (fun _ => y_move rfl) (fun _ => hS) ?_
  refine x_p 9 (.int .i64 r4.1) rfl (by kernel_rfl)  (fun _ => y_move rfl) (fun _ => hS) ?_
  obtain ⟨y11, hy11, hs⟩ := bind_some hs
  obtain ⟨a10, n10, c10, hv10, hr10, hq10, hz10⟩ := rs_part Try.underlying49 Sz25 h0 hy11
  refine x_p 10 (.slice a10 n10 c10) rfl (by kernel_rfl)  (fun _ => y_slice rfl rfl rfl (hz10 rfl _)) (fun _ => hS) ?_
  refine x_two (i := 0) (j := 6) (by kernel_rfl) ?_ ?_
  ·skip
   obtain ⟨w13, g13, ew13, eg13, hC13, hb13⟩ := new_block w6 [] 25
   refine xk_val (w' := w13) (b := false) (.slice (some ⟨g13, 0, none⟩) 0 0) rfl  (y_bslice rfl (by rw [ew13, eg13]; kernel_rfl)) rfl (fun _ => hS.ext hC13) ?_
   have h0 := h0.ext hC13
   have h1 := h1.ext hC13
   have hv7 := hv7.ext hC13
   have hv10 := hv10.ext hC13
   have hC := hC.ext hC13
   have hO := hO.new1 hC13 eg13 hb13.lt
   have hv13 := os_of_box (r := (RT.os 3 (RT.int .i64))) (M := M) (css := []) (fps := []) (xs := ([] : List (List Int))) hb13 trivial (Nat.zero_le _) (List.nodup_cons.2 ⟨(fun h => nomatch h), List.nodup_nil⟩)
   have hv13 : (RT.os 25 (RT.os 3 (RT.int .i64))).val M w13 (.slice (some ⟨g13, 0, none⟩) 0 0) [] [g13] := hv13
   have hS := hS.ext hC13
   refine x_two (i := 4) (j := 6) (by kernel_rfl) ?_ ?_
   ·skip
    obtain ⟨M16, f16, hs16, hk16, hO, hv16⟩ := os_inner (Frz.os Frz.int) hv13 hO
    have h0 := h0.sub (M' := M16) hs16
    have h1 := h1.sub (M' := M16) hs16
    have hv7 := hv7.sub (M' := M16) hs16
    have hv10 := hv10.sub (M' := M16) hs16
    have hK := hk16
    obtain ⟨y17, hy17, hs⟩ := bind_some hs
    obtain ⟨a15, n15, c15, w15, f15, hr15, hC15, hf15, hv15⟩ := app_rs Rw49 hy17 hv16 hv7 hO.inM
    have hG15 := os_block hv16
    refine xk_val (w' := w15) (b := true) (.slice a15 n15 c15) rfl  (y_append rfl rfl (hr15 _)) rfl (fun h => nomatch h) ?_
    have h0 := h0.mut hC15 (fun g hg => hO.inM g (hG15 g hg)) (fun _ _ h => nomatch h)
    have h1 := h1.mut hC15 (fun g hg => hO.inM g (hG15 g hg)) (fun _ _ h => nomatch h)
    have hv7 := hv7.mut hC15 (fun g hg => hO.inM g (hG15 g hg)) (fun _ _ h => nomatch h)
    have hv10 := hv10.mut hC15 (fun g hg => hO.inM g (hG15 g hg)) (fun _ _ h => nomatch h)
    have hC := hC.step hC15 (fun g hg => hO.inN g (hG15 g hg))
    have hO := hO.grow hC15 hf15 (os_nodup hv15) hv15.fpl
    refine x_one (i := 6) (by kernel_rfl) ?_
    obtain ⟨w19, g19, ew19, eg19, hC19, hb19⟩ := new_block w15 [(.slice pa1 pn1 pc1)] 25
    refine xk_val (w' := w19) (b := true) (.slice (some ⟨g19, 0, none⟩) 1 1) rfl  (y_bslice rfl (by rw [ew19, eg19]; kernel_rfl)) rfl (fun h => nomatch h) ?_
    have h0 := h0.ext hC19
    have h1 := h1.ext hC19
    have hv7 := hv7.ext hC19
    have hv10 := hv10.ext hC19
    have hv15 := hv15.ext hC19
    have hC := hC.ext hC19
    have hO := hO.new1 hC19 eg19 hb19.lt
    have hv19 := os_of_box (r := (RT.rs (RT.int .i64))) (M := M16) (css := [[(.slice pa1 pn1 pc1)]]) (fps := [([] : List Nat)]) (xs := ([t] : List (List Int))) hb19 ⟨(rs_unval h1), trivial⟩ (Nat.le_of_ble_eq_true rfl) (List.nodup_cons.2 ⟨(fun h => nomatch h), List.nodup_nil⟩)
    have hv19 : (RT.os 25 (RT.rs (RT.int .i64))).val M16 w19 (.slice (some ⟨g19, 0, none⟩) 1 1) [t] [g19] := hv19
    refine x_one (i := 7) (by kernel_rfl) ?_
    obtain ⟨y22, hy22, hs⟩ := bind_some hs
    have hO := hO.fr1
    obtain ⟨a21, n21, c21, w21, f21, hr21, hC21, hf21, hv21⟩ := app_os Rw49 hy22 hv15 hv19 hO.inM (fun g hg hq => hO.apart g hq (mem_l hg))
    have hG21 := os_block hv15
    refine xk_val (w' := w21) (b := true) (.slice a21 n21 c21) rfl  (y_append rfl rfl (hr21 _)) rfl (fun h => nomatch h) ?_
    have hO := hO.fr1
    have hO := hO.fr1
    have h0 := h0.mut hC21 (fun g hg => hO.inM g (hG21 g hg)) (fun _ _ h => nomatch h)
    have h1 := h1.mut hC21 (fun g hg => hO.inM g (hG21 g hg)) (fun _ _ h => nomatch h)
    have hv7 := hv7.mut hC21 (fun g hg => hO.inM g (hG21 g hg)) (fun _ _ h => nomatch h)
    have hv10 := hv10.mut hC21 (fun g hg => hO.inM g (hG21 g hg)) (fun _ _ h => nomatch h)
    have hC := hC.step hC21 (fun g hg => hO.inN g (hG21 g hg))
    have hO := hO.eat hC21 hf21 (os_nodup hv21) hv21.fpl
    refine x_one (i := 11) (by kernel_rfl) ?_
    obtain ⟨y25, hy25, hs⟩ := bind_some hs
    obtain ⟨a24, n24, c24, w24, f24, hr24, hC24, hf24, hv24⟩ := app_rs Rw49 hy25 hv21 hv10 hO.inM
    have hG24 := os_block hv21
    refine xk_val (w' := w24) (b := true) (.slice a24 n24 c24) rfl  (y_append rfl rfl (hr24 _)) rfl (fun h => nomatch h) ?_
    have h0 := h0.mut hC24 (fun g hg => hO.inM g (hG24 g hg)) (fun _ _ h => nomatch h)
    have h1 := h1.mut hC24 (fun g hg => hO.inM g (hG24 g hg)) (fun _ _ h => nomatch h)
    have hv7 := hv7.mut hC24 (fun g hg => hO.inM g (hG24 g hg)) (fun _ _ h => nomatch h)
    have hv10 := hv10.mut hC24 (fun g hg => hO.inM g (hG24 g hg)) (fun _ _ h => nomatch h)
    have hC := hC.step hC24 (fun g hg => hO.inN g (hG24 g hg))
    have hO := hO.grow hC24 hf24 (os_nodup hv24) hv24.fpl
    refine x_p 12 (.slice a24 n24 c24) rfl (by kernel_rfl)  (fun _ => y_assign rfl) (fun h => nomatch h) ?_
    refine x_end (by kernel_rfl) ?_
    clear hS
    refine wp_ret ?_
    cases hs
    obtain ⟨M27, eM27, hs27, hk27, hO, hv27⟩ := frz_own (Frz.os (Frz.rs Frz.int)) hv24 hO
    have h0 := h0.sub (M' := M27) hs27
    have h1 := h1.sub (M' := M27) hs27
    have hv7 := hv7.sub (M' := M27) hs27
    have hv10 := hv10.sub (M' := M27) hs27
    have hK := hK.trans hk27
    exact ⟨_, a24, n24, c24, fr_ovl 27 ⟨rfl, trivial⟩, hC, (Keeps.out hK hv27)⟩
   ·skip
    obtain ⟨w28, g28, ew28, eg28, hC28, hb28⟩ := new_block w13 [(.slice pa1 pn1 pc1)] 25
    refine xk_val (w' := w28) (b := false) (.slice (some ⟨g28, 0, none⟩) 1 1) rfl  (y_bslice rfl (by rw [ew28, eg28]; kernel_rfl)) rfl (fun _ => hS.ext hC28) ?_
    have h0 := h0.ext hC28
    have h1 := h1.ext hC28
    have hv7 := hv7.ext hC28
    have hv10 := hv10.ext hC28
    have hv13 := hv13.ext hC28
    have hC := hC.ext hC28
    have hO := hO.new1 hC28 eg28 hb28.lt
    have hv28 := os_of_box (r := (RT.rs (RT.int .i64))) (M := M) (css := [[(.slice pa1 pn1 pc1)]]) (fps := [([] : List Nat)]) (xs := ([t] : List (List Int))) hb28 ⟨(rs_unval h1), trivial⟩ (Nat.le_of_ble_eq_true rfl) (List.nodup_cons.2 ⟨(fun h => nomatch h), List.nodup_nil⟩)
    have hv28 : (RT.os 25 (RT.rs (RT.int .i64))).val M w28 (.slice (some ⟨g28, 0, none⟩) 1 1) [t] [g28] := hv28
    have hS := hS.ext hC28
    refine x_one (i := 4) (by kernel_rfl) ?_
    have hO := hO.fr1
    obtain ⟨M31, f31, hs31, hk31, hO, hv31⟩ := os_inner (Frz.os Frz.int) hv13 hO
    have h0 := h0.sub (M' := M31) hs31
    have h1 := h1.sub (M' := M31) hs31
    have hv7 := hv7.sub (M' := M31) hs31
    have hv10 := hv10.sub (M' := M31) hs31
    have hv28 := hv28.sub (M' := M31) hs31
    have hK := hk31
    obtain ⟨y17, hy17, hs⟩ := bind_some hs
    obtain ⟨a30, n30, c30, w30, f30, hr30, hC30, hf30, hv30⟩ := app_rs Rw49 hy17 hv31 hv7 hO.inM
    have hG30 := os_block hv31
    refine xk_val (w' := w30) (b := true) (.slice a30 n30 c30) rfl  (y_append rfl rfl (hr30 _)) rfl (fun h => nomatch h) ?_
    have h0 := h0.mut hC30 (fun g hg => hO.inM g (hG30 g hg)) (fun _ _ h => nomatch h)
    have h1 := h1.mut hC30 (fun g hg => hO.inM g (hG30 g hg)) (fun _ _ h => nomatch h)
    have hv7 := hv7.mut hC30 (fun g hg => hO.inM g (hG30 g hg)) (fun _ _ h => nomatch h)
    have hv10 := hv10.mut hC30 (fun g hg => hO.inM g (hG30 g hg)) (fun _ _ h => nomatch h)
    have hv28 := hv28.mut hC30 (fun g hg => hO.inM g (hG30 g hg)) (fun g hg e => hO.apart g (hG30 g hg) (mem_l (e)))
    have hC := hC.step hC30 (fun g hg => hO.inN g (hG30 g hg))
    have hO := hO.grow hC30 hf30 (os_nodup hv30) hv30.fpl
    refine x_one (i := 7) (by kernel_rfl) ?_
    obtain ⟨y22, hy22, hs⟩ := bind_some hs
    have hO := hO.fr1
    have hO := hO.fr1
    obtain ⟨a34, n34, c34, w34, f34, hr34, hC34, hf34, hv34⟩ := app_os Rw49 hy22 hv30 hv28 hO.inM (fun g hg hq => hO.apart g hq (mem_l hg))
    have hG34 := os_block hv30
    refine xk_val (w' := w34) (b := true) (.slice a34 n34 c34) rfl  (y_append rfl rfl (hr34 _)) rfl (fun h => nomatch h) ?_
    have hO := hO.fr1
    have hO := hO.fr1
    have h0 := h0.mut hC34 (fun g hg => hO.inM g (hG34 g hg)) (fun _ _ h => nomatch h)
    have h1 := h1.mut hC34 (fun g hg => hO.inM g (hG34 g hg)) (fun _ _ h => nomatch h)
    have hv7 := hv7.mut hC34 (fun g hg => hO.inM g (hG34 g hg)) (fun _ _ h => nomatch h)
    have hv10 := hv10.mut hC34 (fun g hg => hO.inM g (hG34 g hg)) (fun _ _ h => nomatch h)
    have hC := hC.step hC34 (fun g hg => hO.inN g (hG34 g hg))
    have hO := hO.eat hC34 hf34 (os_nodup hv34) hv34.fpl
    refine x_one (i := 11) (by kernel_rfl) ?_
    obtain ⟨y25, hy25, hs⟩ := bind_some hs
    obtain ⟨a37, n37, c37, w37, f37, hr37, hC37, hf37, hv37⟩ := app_rs Rw49 hy25 hv34 hv10 hO.inM
    have hG37 := os_block hv34
    refine xk_val (w' := w37) (b := true) (.slice a37 n37 c37) rfl  (y_append rfl rfl (hr37 _)) rfl (fun h => nomatch h) ?_
    have h0 := h0.mut hC37 (fun g hg => hO.inM g (hG37 g hg)) (fun _ _ h => nomatch h)
    have h1 := h1.mut hC37 (fun g hg => hO.inM g (hG37 g hg)) (fun _ _ h => nomatch h)
    have hv7 := hv7.mut hC37 (fun g hg => hO.inM g (hG37 g hg)) (fun _ _ h => nomatch h)
    have hv10 := hv10.mut hC37 (fun g hg => hO.inM g (hG37 g hg)) (fun _ _ h => nomatch h)
    have hC := hC.step hC37 (fun g hg => hO.inN g (hG37 g hg))
    have hO := hO.grow hC37 hf37 (os_nodup hv37) hv37.fpl
    refine x_p 12 (.slice a37 n37 c37) rfl (by kernel_rfl)  (fun _ => y_assign rfl) (fun h => nomatch h) ?_
    refine x_end (by kernel_rfl) ?_
    clear hS
    refine wp_ret ?_
    cases hs
    obtain ⟨M40, eM40, hs40, hk40, hO, hv40⟩ := frz_own (Frz.os (Frz.rs Frz.int)) hv37 hO
    have h0 := h0.sub (M' := M40) hs40
    have h1 := h1.sub (M' := M40) hs40
    have hv7 := hv7.sub (M' := M40) hs40
    have hv10 := hv10.sub (M' := M40) hs40
    have hK := hK.trans hk40
    exact ⟨_, a37, n37, c37, fr_ovl 27 ⟨rfl, trivial⟩, hC, (Keeps.out hK hv40)⟩
  ·skip
   obtain ⟨w41, g41, ew41, eg41, hC41, hb41⟩ := new_block w6 [(.slice pa1 pn1 pc1)] 25
   refine xk_val (w' := w41) (b := false) (.slice (some ⟨g41, 0, none⟩) 1 1) rfl  (y_bslice rfl (by rw [ew41, eg41]; kernel_rfl)) rfl (fun _ => hS.ext hC41) ?_
   have h0 := h0.ext hC41
   have h1 := h1.ext hC41
   have hv7 := hv7.ext hC41
   have hv10 := hv10.ext hC41
   have hC := hC.ext hC41
   have hO := hO.new1 hC41 eg41 hb41.lt
   have hv41 := os_of_box (r := (RT.rs (RT.int .i64))) (M := M) (css := [[(.slice pa1 pn1 pc1)]]) (fps := [([] : List Nat)]) (xs := ([t] : List (List Int))) hb41 ⟨(rs_unval h1), trivial⟩ (Nat.le_of_ble_eq_true rfl) (List.nodup_cons.2 ⟨(fun h => nomatch h), List.nodup_nil⟩)
   have hv41 : (RT.os 25 (RT.rs (RT.int .i64))).val M w41 (.slice (some ⟨g41, 0, none⟩) 1 1) [t] [g41] := hv41
   have hS := hS.ext hC41
   refine x_one (i := 0) (by kernel_rfl) ?_
   obtain ⟨w43, g43, ew43, eg43, hC43, hb43⟩ := new_block w41 [] 25
   refine xk_val (w' := w43) (b := false) (.slice (some ⟨g43, 0, none⟩) 0 0) rfl  (y_bslice rfl (by rw [ew43, eg43]; kernel_rfl)) rfl (fun _ => hS.ext hC43) ?_
   have h0 := h0.ext hC43
   have h1 := h1.ext hC43
   have hv7 := hv7.ext hC43
   have hv10 := hv10.ext hC43
   have hv41 := hv41.ext hC43
   have hC := hC.ext hC43
   have hO := hO.new1 hC43 eg43 hb43.lt
   have hv43 := os_of_box (r := (RT.os 3 (RT.int .i64))) (M := M) (css := []) (fps := []) (xs := ([] : List (List Int))) hb43 trivial (Nat.zero_le _) (List.nodup_cons.2 ⟨(fun h => nomatch h), List.nodup_nil⟩)
   have hv43 : (RT.os 25 (RT.os 3 (RT.int .i64))).val M w43 (.slice (some ⟨g43, 0, none⟩) 0 0) [] [g43] := hv43
   have hS := hS.ext hC43
   refine x_one (i := 4) (by kernel_rfl) ?_
   obtain ⟨M46, f46, hs46, hk46, hO, hv46⟩ := os_inner (Frz.os Frz.int) hv43 hO
   have h0 := h0.sub (M' := M46) hs46
   have h1 := h1.sub (M' := M46) hs46
   have hv7 := hv7.sub (M' := M46) hs46
   have hv10 := hv10.sub (M' := M46) hs46
   have hv41 := hv41.sub (M' := M46) hs46
   have hK := hk46
   obtain ⟨y17, hy17, hs⟩ := bind_some hs
   obtain ⟨a45, n45, c45, w45, f45, hr45, hC45, hf45, hv45⟩ := app_rs Rw49 hy17 hv46 hv7 hO.inM
   have hG45 := os_block hv46
   refine xk_val (w' := w45) (b := true) (.slice a45 n45 c45) rfl  (y_append rfl rfl (hr45 _)) rfl (fun h => nomatch h) ?_
   have h0 := h0.mut hC45 (fun g hg => hO.inM g (hG45 g hg)) (fun _ _ h => nomatch h)
   have h1 := h1.mut hC45 (fun g hg => hO.inM g (hG45 g hg)) (fun _ _ h => nomatch h)
   have hv7 := hv7.mut hC45 (fun g hg => hO.inM g (hG45 g hg)) (fun _ _ h => nomatch h)
   have hv10 := hv10.mut hC45 (fun g hg => hO.inM g (hG45 g hg)) (fun _ _ h => nomatch h)
   have hv41 := hv41.mut hC45 (fun g hg => hO.inM g (hG45 g hg)) (fun g hg e => hO.apart g (hG45 g hg) (mem_l (e)))
   have hC := hC.step hC45 (fun g hg => hO.inN g (hG45 g hg))
   have hO := hO.grow hC45 hf45 (os_nodup hv45) hv45.fpl
   refine x_one (i := 7) (by kernel_rfl) ?_
   obtain ⟨y22, hy22, hs⟩ := bind_some hs
   have hO := hO.fr1
   have hO := hO.fr1
   obtain ⟨a49, n49, c49, w49, f49, hr49, hC49, hf49, hv49⟩ := app_os Rw49 hy22 hv45 hv41 hO.inM (fun g hg hq => hO.apart g hq (mem_l hg))
   have hG49 := os_block hv45
   refine xk_val (w' := w49) (b := true) (.slice a49 n49 c49) rfl  (y_append rfl rfl (hr49 _)) rfl (fun h => nomatch h) ?_
   have hO := hO.fr1
   have hO := hO.fr1
   have h0 := h0.mut hC49 (fun g hg => hO.inM g (hG49 g hg)) (fun _ _ h => nomatch h)
   have h1 := h1.mut hC49 (fun g hg => hO.inM g (hG49 g hg)) (fun _ _ h => nomatch h)
   have hv7 := hv7.mut hC49 (fun g hg => hO.inM g (hG49 g hg)) (fun _ _ h => nomatch h)
   have hv10 := hv10.mut hC49 (fun g hg => hO.inM g (hG49 g hg)) (fun _ _ h => nomatch h)
   have hC := hC.step hC49 (fun g hg => hO.inN g (hG49 g hg))
   have hO := hO.eat hC49 hf49 (os_nodup hv49) hv49.fpl
   refine x_one (i := 11) (by kernel_rfl) ?_
   obtain ⟨y25, hy25, hs⟩ := bind_some hs
   obtain ⟨a52, n52, c52, w52, f52, hr52, hC52, hf52, hv52⟩ := app_rs Rw49 hy25 hv49 hv10 hO.inM
   have hG52 := os_block hv49
   refine xk_val (w' := w52) (b := true) (.slice a52 n52 c52) rfl  (y_append rfl rfl (hr52 _)) rfl (fun h => nomatch h) ?_
   have h0 := h0.mut hC52 (fun g hg => hO.inM g (hG52 g hg)) (fun _ _ h => nomatch h)
   have h1 := h1.mut hC52 (fun g hg => hO.inM g (hG52 g hg)) (fun _ _ h => nomatch h)
   have hv7 := hv7.mut hC52 (fun g hg => hO.inM g (hG52 g hg)) (fun _ _ h => nomatch h)
   have hv10 := hv10.mut hC52 (fun g hg => hO.inM g (hG52 g hg)) (fun _ _ h => nomatch h)
   have hC := hC.step hC52 (fun g hg => hO.inN g (hG52 g hg))
   have hO := hO.grow hC52 hf52 (os_nodup hv52) hv52.fpl
   refine x_p 12 (.slice a52 n52 c52) rfl (by kernel_rfl)  (fun _ => y_assign rfl) (fun h => nomatch h) ?_
   refine x_end (by kernel_rfl) ?_
   clear hS
   refine wp_ret ?_
   cases hs
   obtain ⟨M55, eM55, hs55, hk55, hO, hv55⟩ := frz_own (Frz.os (Frz.rs Frz.int)) hv52 hO
   have h0 := h0.sub (M' := M55) hs55
   have h1 := h1.sub (M' := M55) hs55
   have hv7 := hv7.sub (M' := M55) hs55
   have hv10 := hv10.sub (M' := M55) hs55
   have hK := hK.trans hk55
   exact ⟨_, a52, n52, c52, fr_ovl 27 ⟨rfl, trivial⟩, hC, (Keeps.out hK hv55)⟩

def k_spec_l1Has (M : Nat → Prop) (w0 : World) (r : Bool) (a : Act) (w : World) : Prop :=
  ∃ (σ : Nat → Value) , a = fr 18 (ovl σ [(4, (.bool r))]) ∧ Chg [] w0 w
def s_spec_l1Has (l : List Int) (n : Int) : Option (Bool) :=
  (forC (S := Unit) (R := Bool) (fun k7 s5 =>
  (idx l k7).bind fun x11 =>
  (bif (x11 == n) then some (.rt true) else some (.nx ()))) 0 (l.length : Int) ()).bind fun o9 => after o9 (fun r_ => some r_) (fun s5 =>
  some false)
set_option maxHeartbeats 4000000 in
theorem c_spec_l1Has {M : Nat → Prop} {w : World} {pa0 : Option Addr} {pn0 pc0 : Nat} (l : List Int) (n : Int) (h0 : (RT.rs (RT.int .i64)).val M w (.slice pa0 pn0 pc0) l ([])) (hM : ∀ g, w.heap.size ≤ g → M g) {r : Bool} (hs : s_spec_l1Has l n = some r) :
    Gives Try.prog 85 [(.slice pa0 pn0 pc0), (.int .i64 n)] w (fun v w' => v = (.bool r) ∧ Chg [] w w') := by
 refine calls_fr Try.func85 rfl Try.ntmps85 (Nat.le_of_ble_eq_true rfl) ?_
 have hO := Own.start (N := Nw w []) hM Nw.fut
 have hC := Chg.refl [] w
 unfold s_spec_l1Has at hs
 refine wp_mono (Q := KPost (k_spec_l1Has M w r)) ?_ (fun e a w1 h => ?_)
 rotate_left
 ·cases e
  case ret =>
   obtain ⟨σ, rfl, hrest⟩ := h
   exact ret1x Try.results85 (res_tmp rfl) ⟨rfl, hrest⟩
  all_goals exact (h : False).elim
 refine c_seq (c_region ?_)
 refine pl_val (.bool false) (y_assign rfl) ?_
 refine c_nil ?_
 refine c_seq ?_
 refine c_seq (c_region ?_)
 refine pl_val (.int .i64 0) (y_assign rfl) ?_
 refine c_nil ?_
 obtain ⟨o9, hl10, hs⟩ := bind_some hs
 refine wp_block ?_
 refine wp_forC (id := 0) (l.length : Int) (I := fun k7 s5 a w6 => ∃ (σ : Nat → Value), a = fr 18 (ovl σ [(0, (.slice pa0 pn0 pc0)), (1, (.int .i64 n)), (5, (.int .i64 k7))]) ∧ Chg [] w w6 ∧ Own (Nw w []) M w6 ([]) ∧ (RT.rs (RT.int .i64)).val M w6 (.slice pa0 pn0 pc0) l ([])) (J := fun s5 a w6 => ∃ (σ : Nat → Value), a = fr 18 (ovl σ []) ∧ Chg [] w w6 ∧ Own (Nw w []) M w6 ([]) ∧ (RT.rs (RT.int .i64)).val M w6 (.slice pa0 pn0 pc0) l ([])) (K := (k_spec_l1Has M w)) ?_ ?_ 0 () o9 _ _ ?_ hl10 ?_
 ·rintro k7 s5 a w6 ⟨σ, rfl, hC, hO, h0⟩ hlt
  refine c_seq ?_
  refine c_seq (c_region ?_)
  refine pl_val (.int .i64 k7) (y_move rfl) ?_
  refine pl_val (.slice pa0 pn0 pc0) (y_move rfl) ?_
  refine pl_val (.int .i64 (l.length : Int)) (y_len' Sl25 (rs_len h0) rfl) ?_
  refine pl_val (.bool (decide (k7 < (l.length : Int)))) (y_lss rfl rfl) ?_
  refine c_nil ?_
  refine c_condF (congrArg Value.bool (decide_eq_false hlt)) ?_
  refine wp_exit ?_
  exact ⟨rfl, _, fr_ovl 18 trivial, hC, hO, h0⟩
 ·rintro k7 s5 o9 a w6 ⟨σ, rfl, hC, hO, h0⟩ hlt hw hs
  refine c_seq ?_
  refine c_seq (c_region ?_)
  refine pl_val (.int .i64 k7) (y_move rfl) ?_
  refine pl_val (.slice pa0 pn0 pc0) (y_move rfl) ?_
  refine pl_val (.int .i64 (l.length : Int)) (y_len' Sl25 (rs_len h0) rfl) ?_
  refine pl_val (.bool (decide (k7 < (l.length : Int)))) (y_lss rfl rfl) ?_
  refine c_nil ?_
  refine c_condT (congrArg Value.bool (decide_eq_true hlt)) ?_
  refine wp_skip ?_
  refine c_seq ?_
  refine wp_block ?_
  refine c_seq (c_region ?_)
  refine pl_val (.slice pa0 pn0 pc0) (y_move rfl) ?_
  refine pl_val (.int .i64 k7) (y_move rfl) ?_
  obtain ⟨x11, hx11, hs⟩ := bind_some hs
  obtain ⟨b12, o12, hp12, ha12⟩ := rs_idx Sl25 Sz3 h0 hx11
  refine pl_val (.pointer (some ⟨b12, o12, none⟩)) (hp12 _ _ _ _ _ _ _ _ _ rfl rfl) ?_
  refine pl_val (.int .i64 x11) (y_load rfl ((at_load_int Ag3 Sz3 ha12) _ (Chg.refl _ _))) ?_
  refine pl_val (.int .i64 n) (y_move rfl) ?_
  refine pl_val (.bool (x11 == n)) (y_eql rfl rfl) ?_
  refine c_nil ?_
  rcases bif_some hs with ⟨hc13, hs⟩ | ⟨hc13, hs⟩
  ·skip
   refine c_condT (congrArg Value.bool hc13) ?_
   refine c_seq (c_region ?_)
   refine pl_val (.bool true) (y_assign rfl) ?_
   refine c_nil ?_
   refine wp_ret ?_
   cases hs
   exact ⟨_, fr_ovl 18 ⟨rfl, trivial⟩, hC⟩
  ·skip
   refine c_condF (congrArg Value.bool hc13) ?_
   refine wp_skip ?_
   refine c_region ?_
   refine pl_val (.int .i64 k7) (y_move rfl) ?_
   refine pl_val (.int .i64 (w64 (k7 + 1))) (y_add rfl rfl) ?_
   refine pl_val (.int .i64 (w64 (k7 + 1))) (y_assign rfl) ?_
   refine c_nil ?_
   cases hs
   exact ⟨_, fr_ovl 18 ⟨rfl, rfl, congrArg (Value.int .i64) hw, trivial⟩, hC, hO, h0⟩
 ·skip
  exact ⟨_, fr_ovl 18 ⟨rfl, rfl, rfl, trivial⟩, hC, hO, h0⟩
 ·cases o9 with
  | nx _ => exact True.intro
  | rt r_ =>
   have hs := after_rt hs
   intro a1 w1 hK
   cases hs
   exact hK
  | br s5 =>
   have hs := after_br hs
   rintro a1 w6 ⟨σ, rfl, hC, hO, h0⟩
   refine c_seq (c_region ?_)
   refine pl_val (.bool false) (y_assign rfl) ?_
   refine c_nil ?_
   refine wp_ret ?_
   cases hs
   exact ⟨_, fr_ovl 18 ⟨rfl, trivial⟩, hC⟩

def k_spec_l8Choose (M : Nat → Prop) (w0 : World) (r : (List (List Int))) (a : Act) (w : World) : Prop :=
  ∃ (σ : Nat → Value) (ra0 : Option Addr) (rn0 rc0 : Nat), a = fr 25 (ovl σ [(4, (.slice ra0 rn0 rc0))]) ∧ Chg [] w0 w ∧ (RT.rs (RT.rs (RT.int .i64))).val (Past M w0 w) w (.slice ra0 rn0 rc0) r []
def s_spec_l8Choose (line : List (List Int)) (numbers : List Int) : Option ((List (List Int))) :=
  (forC (S := (List (List Int))) (R := (List (List Int))) (fun k36 s34 =>
  (idx numbers k36).bind fun x46 =>
  (idx line x46).bind fun x48 =>
  (app s34 ([x48])).bind fun y55 =>
  some (.nx y55)) 0 (numbers.length : Int) ([])).bind fun o38 => after o38 (fun r_ => some r_) (fun s34 =>
  some s34)
set_option maxHeartbeats 4000000 in
theorem c_spec_l8Choose {M : Nat → Prop} {w : World} {pa0 : Option Addr} {pn0 pc0 : Nat} {pa1 : Option Addr} {pn1 pc1 : Nat} (line : List (List Int)) (numbers : List Int) (h0 : (RT.rs (RT.rs (RT.int .i64))).val M w (.slice pa0 pn0 pc0) line ([])) (h1 : (RT.rs (RT.int .i64)).val M w (.slice pa1 pn1 pc1) numbers ([])) (hM : ∀ g, w.heap.size ≤ g → M g) {r : (List (List Int))} (hs : s_spec_l8Choose line numbers = some r) :
    Gives Try.prog 86 [(.slice pa0 pn0 pc0), (.slice pa1 pn1 pc1)] w (fun v w' => ∃ (ra0 : Option Addr) (rn0 rc0 : Nat), v = (.slice ra0 rn0 rc0) ∧ Chg [] w w' ∧ (RT.rs (RT.rs (RT.int .i64))).val (Past M w w') w' (.slice ra0 rn0 rc0) r []) := by
 refine calls_fr Try.func86 rfl Try.ntmps86 (Nat.le_of_ble_eq_true rfl) ?_
 have hO := Own.start (N := Nw w []) hM Nw.fut
 have hC := Chg.refl [] w
 unfold s_spec_l8Choose at hs
 refine wp_mono (Q := KPost (k_spec_l8Choose M w r)) ?_ (fun e a w1 h => ?_)
 rotate_left
 ·cases e
  case ret =>
   obtain ⟨σ, ra0, rn0, rc0, rfl, hrest⟩ := h
   exact ret1x Try.results86 (res_tmp rfl) ⟨ra0, rn0, rc0, rfl, hrest⟩
  all_goals exact (h : False).elim
 refine c_seq (c_region ?_)
 refine pl_val (.slice none 0 0) (y_assign rfl) ?_
 refine c_nil ?_
 refine c_seq (c_region ?_)
 obtain ⟨w3, g3, ew3, eg3, hC3, hb3⟩ := new_block w [] 25
 refine pl_val (w' := w3) (.slice (some ⟨g3, 0, none⟩) 0 0) (y_bslice rfl (by rw [ew3, eg3]; kernel_rfl)) ?_
 have h0 := h0.ext hC3
 have h1 := h1.ext hC3
 have hC := hC.ext hC3
 have hO := hO.new1 hC3 eg3 hb3.lt
 have hv3 := os_of_box (r := (RT.os 3 (RT.int .i64))) (M := M) (css := []) (fps := []) (xs := ([] : List (List Int))) hb3 trivial (Nat.zero_le _) (List.nodup_cons.2 ⟨(fun h => nomatch h), List.nodup_nil⟩)
 have hv3 : (RT.os 25 (RT.os 3 (RT.int .i64))).val M w3 (.slice (some ⟨g3, 0, none⟩) 0 0) [] [g3] := hv3
 refine pl_val (.slice (some ⟨g3, 0, none⟩) 0 0) (y_assign rfl) ?_
 refine c_nil ?_
 refine c_seq ?_
 refine c_seq (c_region ?_)
 refine pl_val (.int .i64 0) (y_assign rfl) ?_
 refine c_nil ?_
 obtain ⟨M33, f33, hs33, hk33, hO, hv33⟩ := os_inner (Frz.os Frz.int) hv3 hO
 have h0 := h0.sub (M' := M33) hs33
 have h1 := h1.sub (M' := M33) hs33
 have hK := hk33
 obtain ⟨o38, hl39, hs⟩ := bind_some hs
 refine wp_block ?_
 refine wp_forC (id := 0) (numbers.length : Int) (I := fun k36 s34 a w35 => ∃ (σ : Nat → Value) (M40 : Nat → Prop) (a41 : Option Addr) (n41 : Nat) (c41 : Nat) (f41 : List Nat), a = fr 25 (ovl σ [(0, (.slice pa0 pn0 pc0)), (1, (.slice pa1 pn1 pc1)), (5, (.slice a41 n41 c41)), (6, (.int .i64 k36))]) ∧ Chg [] w w35 ∧ Own (Nw w []) M40 w35 (f41 ++ []) ∧ Keeps w M M40 ∧ (RT.rs (RT.rs (RT.int .i64))).val M40 w35 (.slice pa0 pn0 pc0) line ([]) ∧ (RT.rs (RT.int .i64)).val M40 w35 (.slice pa1 pn1 pc1) numbers ([]) ∧ (RT.os 25 (RT.rs (RT.int .i64))).val M40 w35 (.slice a41 n41 c41) s34 f41) (J := fun s34 a w35 => ∃ (σ : Nat → Value) (M43 : Nat → Prop) (a44 : Option Addr) (n44 : Nat) (c44 : Nat) (f44 : List Nat), a = fr 25 (ovl σ [(5, (.slice a44 n44 c44))]) ∧ Chg [] w w35 ∧ Own (Nw w []) M43 w35 (f44 ++ []) ∧ Keeps w M M43 ∧ (RT.rs (RT.rs (RT.int .i64))).val M43 w35 (.slice pa0 pn0 pc0) line ([]) ∧ (RT.rs (RT.int .i64)).val M43 w35 (.slice pa1 pn1 pc1) numbers ([]) ∧ (RT.os 25 (RT.rs (RT.int .i64))).val M43 w35 (.slice a44 n44 c44) s34 f44) (K := (k_spec_l8Choose M w)) ?_ ?_ 0 ([]) o38 _ _ ?_ hl39 ?_
 ·rintro k36 s34 a w35 ⟨σ, M40, a41, n41, c41, f41, rfl, hC, hO, hK, h0, h1, hv41⟩ hlt
  refine c_seq ?_
  refine c_seq (c_region ?_)
  refine pl_val (.int .i64 k36) (y_move rfl) ?_
  refine pl_val (.slice pa1 pn1 pc1) (y_move rfl) ?_
  refine pl_val (.int .i64 (numbers.length : Int)) (y_len' Sl25 (rs_len h1) rfl) ?_
  refine pl_val (.bool (decide (k36 < (numbers.length : Int)))) (y_lss rfl rfl) ?_
  refine c_nil ?_
  refine c_condF (congrArg Value.bool (decide_eq_false hlt)) ?_
  refine wp_exit ?_
  exact ⟨rfl, _, M40, a41, n41, c41, f41, fr_ovl 25 ⟨rfl, trivial⟩, hC, hO, hK, h0, h1, hv41⟩
 ·rintro k36 s34 o38 a w35 ⟨σ, M40, a41, n41, c41, f41, rfl, hC, hO, hK, h0, h1, hv41⟩ hlt hw hs
  refine c_seq ?_
  refine c_seq (c_region ?_)
  refine pl_val (.int .i64 k36) (y_move rfl) ?_
  refine pl_val (.slice pa1 pn1 pc1) (y_move rfl) ?_
  refine pl_val (.int .i64 (numbers.length : Int)) (y_len' Sl25 (rs_len h1) rfl) ?_
  refine pl_val (.bool (decide (k36 < (numbers.length : Int)))) (y_lss rfl rfl) ?_
  refine c_nil ?_
  refine c_condT (congrArg Value.bool (decide_eq_true hlt)) ?_
  refine wp_skip ?_
  refine c_seq ?_
  refine wp_block ?_
  refine c_region ?_
  refine pl_val (.slice a41 n41 c41) (y_move rfl) ?_
  refine pl_val (.slice pa0 pn0 pc0) (y_move rfl) ?_
  refine pl_val (.slice pa1 pn1 pc1) (y_move rfl) ?_
  refine pl_val (.int .i64 k36) (y_move rfl) ?_
  obtain ⟨x46, hx46, hs⟩ := bind_some hs
  obtain ⟨b47, o47, hp47, ha47⟩ := rs_idx Sl25 Sz3 h1 hx46
  refine pl_val (.pointer (some ⟨b47, o47, none⟩)) (hp47 _ _ _ _ _ _ _ _ _ rfl rfl) ?_
  refine pl_val (.int .i64 x46) (y_load rfl ((at_load_int Ag3 Sz3 ha47) _ (Chg.refl _ _))) ?_
  obtain ⟨x48, hx48, hs⟩ := bind_some hs
  obtain ⟨b49, o49, hp49, ha49⟩ := rs_idx Sl49 Sz25 h0 hx48
  refine pl_val (.pointer (some ⟨b49, o49, none⟩)) (hp49 _ _ _ _ _ _ _ _ _ rfl rfl) ?_
  obtain ⟨v50, hl50, hv50⟩ := at_load Ag25 Sz25 (fun _ => rfl) ha49
  obtain ⟨a50, n50, c50, rfl⟩ := rs_sl hv50
  refine pl_val (.slice a50 n50 c50) (y_load rfl (hl50 _ (Chg.refl _ _))) ?_
  obtain ⟨w52, g52, ew52, eg52, hC52, hb52⟩ := new_block w35 [(.slice a50 n50 c50)] 25
  refine pl_val (w' := w52) (.slice (some ⟨g52, 0, none⟩) 1 1) (y_bslice rfl (by rw [ew52, eg52]; kernel_rfl)) ?_
  have h0 := h0.ext hC52
  have h1 := h1.ext hC52
  have hv41 := hv41.ext hC52
  have hv50 := hv50.ext hC52
  have hC := hC.ext hC52
  have hO := hO.new1 hC52 eg52 hb52.lt
  have hv52 := os_of_box (r := (RT.rs (RT.int .i64))) (M := M40) (css := [[(.slice a50 n50 c50)]]) (fps := [([] : List Nat)]) (xs := ([x48] : List (List Int))) hb52 ⟨(rs_unval hv50), trivial⟩ (Nat.le_of_ble_eq_true rfl) (List.nodup_cons.2 ⟨(fun h => nomatch h), List.nodup_nil⟩)
  have hv52 : (RT.os 25 (RT.rs (RT.int .i64))).val M40 w52 (.slice (some ⟨g52, 0, none⟩) 1 1) [x48] [g52] := hv52
  obtain ⟨y55, hy55, hs⟩ := bind_some hs
  have hO := hO.fr1
  obtain ⟨a54, n54, c54, w54, f54, hr54, hC54, hf54, hv54⟩ := app_os Rw49 hy55 hv41 hv52 hO.inM (fun g hg hq => hO.apart g hq (mem_l hg))
  have hG54 := os_block hv41
  refine pl_val (w' := w54) (.slice a54 n54 c54) (y_append rfl rfl (hr54 _)) ?_
  have hO := hO.fr1
  have hO := hO.fr1
  have h0 := h0.mut hC54 (fun g hg => hO.inM g (hG54 g hg)) (fun _ _ h => nomatch h)
  have h1 := h1.mut hC54 (fun g hg => hO.inM g (hG54 g hg)) (fun _ _ h => nomatch h)
  have hv50 := hv50.mut hC54 (fun g hg => hO.inM g (hG54 g hg)) (fun _ _ h => nomatch h)
  have hC := hC.step hC54 (fun g hg => hO.inN g (hG54 g hg))
  have hO := hO.eat hC54 hf54 (os_nodup hv54) hv54.fpl
  refine pl_val (.slice a54 n54 c54) (y_assign rfl) ?_
  refine c_nil ?_
  refine c_region ?_
  refine pl_val (.int .i64 k36) (y_move rfl) ?_
  refine pl_val (.int .i64 (w64 (k36 + 1))) (y_add rfl rfl) ?_
  refine pl_val (.int .i64 (w64 (k36 + 1))) (y_assign rfl) ?_
  refine c_nil ?_
  cases hs
  exact ⟨_, M40, a54, n54, c54, f54, fr_ovl 25 ⟨rfl, rfl, rfl, congrArg (Value.int .i64) hw, trivial⟩, hC, hO, hK, h0, h1, hv54⟩
 ·skip
  exact ⟨_, M33, (some ⟨g3, 0, none⟩), 0, 0, f33, fr_ovl 25 ⟨rfl, rfl, rfl, rfl, trivial⟩, hC, hO, hK, h0, h1, hv33⟩
 ·cases o38 with
  | nx _ => exact True.intro
  | rt r_ =>
   have hs := after_rt hs
   intro a1 w1 hK
   cases hs
   exact hK
  | br s34 =>
   have hs := after_br hs
   rintro a1 w35 ⟨σ, M43, a44, n44, c44, f44, rfl, hC, hO, hK, h0, h1, hv44⟩
   refine c_seq (c_region ?_)
   refine pl_val (.slice a44 n44 c44) (y_move rfl) ?_
   refine pl_val (.slice a44 n44 c44) (y_assign rfl) ?_
   refine c_nil ?_
   refine wp_ret ?_
   cases hs
   obtain ⟨M57, eM57, hs57, hk57, hO, hv57⟩ := frz_own (Frz.os (Frz.rs Frz.int)) hv44 hO
   have hK := hK.trans hk57
   exact ⟨_, a44, n44, c44, fr_ovl 25 ⟨rfl, trivial⟩, hC, (Keeps.out hK hv57)⟩

theorem Bd82 : Bodied Try.prog 82 := bodied Try.func82 (by kernel_rfl) rfl

def k_spec_l8Next (M : Nat → Prop) (w0 : World) (r : (List Int) × Bool) (a : Act) (w : World) : Prop :=
  ∃ (σ : Nat → Value) (ra0 : Option Addr) (rn0 rc0 : Nat) (rf0 : List Nat), a = fr 37 (ovl σ [(4, (.slice ra0 rn0 rc0)), (5, (.bool r.2))]) ∧ Chg [] w0 w ∧ (RT.os 3 (RT.int .i64)).val M w (.slice ra0 rn0 rc0) r.1 rf0 ∧ Own (Nw w0 []) (fun _ => True) w (rf0 ++ ([]))
def s_spec_l8Next (list : List Int) (n : Int) : Option ((List Int) × Bool) :=
  (s_spec_l1Own list).bind fun r3 =>
  (iter (S := Int × (List Int)) (R := (List Int) × Bool) (fun s30 =>
  (bif (decide (0 ≤ s30.1)) then (idx s30.2 s30.1).bind fun x39 =>
  (bif (decide (x39 < (w64 (n - 1)))) then (idx s30.2 s30.1).bind fun x42 =>
  (idx s30.2 s30.1).bind fun x44 =>
  some (.rt (List.set s30.2 (Int.toNat s30.1) (w64 (x42 + 1)), true)) else (idx s30.2 s30.1).bind fun x47 =>
  some (.nx (w64 (s30.1 - 1), List.set s30.2 (Int.toNat s30.1) 0))) else some (.br (s30.1, s30.2)))) FU (w64 ((r3.length : Int) - 1), r3)).bind fun o34 => after o34 (fun r_ => some r_) (fun s30 =>
  some (s30.2, false))
set_option maxHeartbeats 4000000 in
theorem c_spec_l8Next {M : Nat → Prop} {w : World} {pa0 : Option Addr} {pn0 pc0 : Nat} (list : List Int) (n : Int) (h0 : (RT.rs (RT.int .i64)).val M w (.slice pa0 pn0 pc0) list ([])) (hM : ∀ g, w.heap.size ≤ g → M g) {r : (List Int) × Bool} (hs : s_spec_l8Next list n = some r) :
    Gives Try.prog 87 [(.slice pa0 pn0 pc0), (.int .i64 n)] w (fun v w' => ∃ (ra0 : Option Addr) (rn0 rc0 : Nat) (rf0 : List Nat), v = (.tuple #[(.slice ra0 rn0 rc0), (.bool r.2)]) ∧ Chg [] w w' ∧ (RT.os 3 (RT.int .i64)).val M w' (.slice ra0 rn0 rc0) r.1 rf0 ∧ Own (Nw w []) (fun _ => True) w' (rf0 ++ ([]))) := by
 refine calls_fr Try.func87 rfl Try.ntmps87 (Nat.le_of_ble_eq_true rfl) ?_
 have hO := Own.start (N := Nw w []) hM Nw.fut
 have hC := Chg.refl [] w
 unfold s_spec_l8Next at hs
 refine wp_mono (Q := KPost (k_spec_l8Next M w r)) ?_ (fun e a w1 h => ?_)
 rotate_left
 ·cases e
  case ret =>
   obtain ⟨σ, ra0, rn0, rc0, rf0, rfl, hrest⟩ := h
   exact ret2x Try.results87 (res_tmp rfl) (res_tmp rfl) ⟨ra0, rn0, rc0, rf0, rfl, hrest⟩
  all_goals exact (h : False).elim
 refine c_seq (c_region ?_)
 refine pl_val (.slice none 0 0) (y_assign rfl) ?_
 refine pl_val (.bool false) (y_assign rfl) ?_
 refine c_nil ?_
 refine c_seq (c_region ?_)
 refine pl_val (.slice pa0 pn0 pc0) (y_move rfl) ?_
 obtain ⟨r3, hr3, hs⟩ := bind_some hs
 refine pl_call Bd82 rfl (c_spec_l1Own (M := M) list h0 hO.fut hr3) ?_
 rintro _ w2 ⟨a2x0, n2x0, c2x0, f2x0, rfl, hC2, hv2x0, hOc2⟩
 have h0 := h0.ext hC2
 have hC := hC.ext hC2
 have hO := Own.join0 hO hC2 hOc2
 have hO := hO.perm (R := f2x0 ++ ([])) (by simp)
 refine pl_val (.slice a2x0 n2x0 c2x0) (y_assign rfl) ?_
 refine c_nil ?_
 refine c_seq ?_
 refine c_seq (c_region ?_)
 refine pl_val (.slice a2x0 n2x0 c2x0) (y_move rfl) ?_
 refine pl_val (.int .i64 (r3.length : Int)) (y_len' Sl25 (os_len hv2x0) rfl) ?_
 refine pl_val (.int .i64 (w64 ((r3.length : Int) - 1))) (y_sub rfl rfl) ?_
 refine pl_val (.int .i64 (w64 ((r3.length : Int) - 1))) (y_assign rfl) ?_
 refine c_nil ?_
 obtain ⟨o34, hl35, hs⟩ := bind_some hs
 refine wp_block ?_
 refine wp_iter (id := 0) (I := fun s30 a w31 => ∃ (σ : Nat → Value) (f36 : List Nat), a = fr 37 (ovl σ [(1, (.int .i64 n)), (6, (.slice a2x0 n2x0 c2x0)), (7, (.int .i64 s30.1))]) ∧ Chg [] w w31 ∧ Own (Nw w []) M w31 (f36 ++ []) ∧ (RT.os 3 (RT.int .i64)).val M w31 (.slice a2x0 n2x0 c2x0) s30.2 f36) (J := fun s30 a w31 => ∃ (σ : Nat → Value) (f37 : List Nat), a = fr 37 (ovl σ [(6, (.slice a2x0 n2x0 c2x0))]) ∧ Chg [] w w31 ∧ Own (Nw w []) M w31 (f37 ++ []) ∧ (RT.os 3 (RT.int .i64)).val M w31 (.slice a2x0 n2x0 c2x0) s30.2 f37) (K := (k_spec_l8Next M w)) ?_ FU (w64 ((r3.length : Int) - 1), r3) o34 _ _ ?_ hl35 ?_
 ·rintro s30 o34 a w31 ⟨σ, f36, rfl, hC, hO, hv36⟩ hs
  refine c_seq ?_
  refine c_seq (c_region ?_)
  refine pl_val (.int .i64 s30.1) (y_move rfl) ?_
  refine pl_val (.bool (decide (0 ≤ s30.1))) (y_geq rfl rfl) ?_
  refine c_nil ?_
  rcases bif_some hs with ⟨hc38, hs⟩ | ⟨hc38, hs⟩
  ·skip
   refine c_condT (congrArg Value.bool hc38) ?_
   refine wp_skip ?_
   refine c_seq ?_
   refine wp_block ?_
   refine c_seq ?_
   refine c_seq (c_region ?_)
   refine pl_val (.slice a2x0 n2x0 c2x0) (y_move rfl) ?_
   refine pl_val (.int .i64 s30.1) (y_move rfl) ?_
   obtain ⟨x39, hx39, hs⟩ := bind_some hs
   obtain ⟨g40, f40, hg40, hk40, hp40, ha40, hf40⟩ := os_idx Sl25 Sz3 hv36 hx39
   refine pl_val (.pointer (some ⟨g40, 0 + Int.toNat s30.1 * 1, none⟩)) (hp40 _ _ _ _ _ _ _ _ _ rfl rfl) ?_
   refine pl_val (.int .i64 x39) (y_load rfl ((at_load_int Ag3 Sz3 ha40) _ (Chg.refl _ _))) ?_
   refine pl_val (.int .i64 n) (y_move rfl) ?_
   refine pl_val (.int .i64 (w64 (n - 1))) (y_sub rfl rfl) ?_
   refine pl_val (.bool (decide (x39 < (w64 (n - 1))))) (y_lss rfl rfl) ?_
   refine c_nil ?_
   rcases bif_some hs with ⟨hc41, hs⟩ | ⟨hc41, hs⟩
   ·skip
    refine c_condT (congrArg Value.bool hc41) ?_
    refine c_seq (c_region ?_)
    refine pl_val (.slice a2x0 n2x0 c2x0) (y_move rfl) ?_
    refine pl_val (.int .i64 s30.1) (y_move rfl) ?_
    refine pl_val (.slice a2x0 n2x0 c2x0) (y_move rfl) ?_
    refine pl_val (.int .i64 s30.1) (y_move rfl) ?_
    obtain ⟨x42, hx42, hs⟩ := bind_some hs
    obtain ⟨g43, f43, hg43, hk43, hp43, ha43, hf43⟩ := os_idx Sl25 Sz3 hv36 hx42
    refine pl_val (.pointer (some ⟨g43, 0 + Int.toNat s30.1 * 1, none⟩)) (hp43 _ _ _ _ _ _ _ _ _ rfl rfl) ?_
    refine pl_val (.int .i64 x42) (y_load rfl ((at_load_int Ag3 Sz3 ha43) _ (Chg.refl _ _))) ?_
    refine pl_val (.int .i64 (w64 (x42 + 1))) (y_add rfl rfl) ?_
    obtain ⟨x44, hx44, hs⟩ := bind_some hs
    obtain ⟨g45, f45, hg45, hk45, hp45, ha45, hf45⟩ := os_idx Sl25 Sz3 hv36 hx44
    refine pl_val (.pointer (some ⟨g45, 0 + Int.toNat s30.1 * 1, none⟩)) (hp45 _ _ _ _ _ _ _ _ _ rfl rfl) ?_
    obtain ⟨w46, f46, hst46, hC46, hf46, hv46⟩ := os_store (P := Try.prog) (c' := [(.int .i64 (w64 (x42 + 1)))]) hg45 hv36 hk45 (fun g hg => hO.inM g (os_block hv36 g (by simpa using hg))) ⟨rfl, rfl⟩ List.nodup_nil (fun _ h => nomatch h) (fun _ h => .inl h)
    have hG46 : ∀ q ∈ [g45], q ∈ f36 := fun q hq => os_block hv36 q (by rw [hg45]; exact hq)
    refine pl_skip (w' := w46) (ys_store rfl rfl (hst46 _ _ rfl Sz3)) ?_
    have hC := hC.step hC46 (fun g hg => hO.inN g (hG46 g hg))
    have hO := hO.grow hC46 (fun q hq => .inl ((hf46 q hq).resolve_right (fun h => nomatch h))) (os_nodup hv46) hv46.fpl
    refine c_nil ?_
    refine c_seq (c_region ?_)
    refine pl_val (.slice a2x0 n2x0 c2x0) (y_move rfl) ?_
    refine pl_val (.slice a2x0 n2x0 c2x0) (y_assign rfl) ?_
    refine pl_val (.bool true) (y_assign rfl) ?_
    refine c_nil ?_
    refine wp_ret ?_
    cases hs
    exact ⟨_, a2x0, n2x0, c2x0, f46, fr_ovl 37 ⟨rfl, rfl, trivial⟩, hC, hv46, hO.top⟩
   ·skip
    refine c_condF (congrArg Value.bool hc41) ?_
    refine wp_skip ?_
    refine c_region ?_
    refine pl_val (.slice a2x0 n2x0 c2x0) (y_move rfl) ?_
    refine pl_val (.int .i64 s30.1) (y_move rfl) ?_
    obtain ⟨x47, hx47, hs⟩ := bind_some hs
    obtain ⟨g48, f48, hg48, hk48, hp48, ha48, hf48⟩ := os_idx Sl25 Sz3 hv36 hx47
    refine pl_val (.pointer (some ⟨g48, 0 + Int.toNat s30.1 * 1, none⟩)) (hp48 _ _ _ _ _ _ _ _ _ rfl rfl) ?_
    obtain ⟨w49, f49, hst49, hC49, hf49, hv49⟩ := os_store (P := Try.prog) (c' := [(.int .i64 0)]) hg48 hv36 hk48 (fun g hg => hO.inM g (os_block hv36 g (by simpa using hg))) ⟨rfl, rfl⟩ List.nodup_nil (fun _ h => nomatch h) (fun _ h => .inl h)
    have hG49 : ∀ q ∈ [g48], q ∈ f36 := fun q hq => os_block hv36 q (by rw [hg48]; exact hq)
    refine pl_skip (w' := w49) (ys_store rfl rfl (hst49 _ _ rfl Sz3)) ?_
    have hC := hC.step hC49 (fun g hg => hO.inN g (hG49 g hg))
    have hO := hO.grow hC49 (fun q hq => .inl ((hf49 q hq).resolve_right (fun h => nomatch h))) (os_nodup hv49) hv49.fpl
    refine c_nil ?_
    refine c_region ?_
    refine pl_val (.int .i64 s30.1) (y_move rfl) ?_
    refine pl_val (.int .i64 (w64 (s30.1 - 1))) (y_sub rfl rfl) ?_
    refine pl_val (.int .i64 (w64 (s30.1 - 1))) (y_assign rfl) ?_
    refine c_nil ?_
    cases hs
    exact ⟨_, f49, fr_ovl 37 ⟨rfl, rfl, rfl, trivial⟩, hC, hO, hv49⟩
  ·skip
   refine c_condF (congrArg Value.bool hc38) ?_
   refine wp_exit ?_
   cases hs
   exact ⟨rfl, _, f36, fr_ovl 37 ⟨rfl, trivial⟩, hC, hO, hv36⟩
 ·skip
  exact ⟨_, f2x0, fr_ovl 37 ⟨rfl, rfl, rfl, trivial⟩, hC, hO, hv2x0⟩
 ·cases o34 with
  | nx _ => exact True.intro
  | rt r_ =>
   have hs := after_rt hs
   intro a1 w1 hK
   cases hs
   exact hK
  | br s30 =>
   have hs := after_br hs
   rintro a1 w31 ⟨σ, f37, rfl, hC, hO, hv37⟩
   refine c_seq (c_region ?_)
   refine pl_val (.slice a2x0 n2x0 c2x0) (y_move rfl) ?_
   refine pl_val (.slice a2x0 n2x0 c2x0) (y_assign rfl) ?_
   refine pl_val (.bool false) (y_assign rfl) ?_
   refine c_nil ?_
   refine wp_ret ?_
   cases hs
   exact ⟨_, a2x0, n2x0, c2x0, f37, fr_ovl 37 ⟨rfl, rfl, trivial⟩, hC, hv37, hO.top⟩

theorem Bd81 : Bodied Try.prog 81 := bodied Try.func81 (by kernel_rfl) rfl

theorem Bd83 : Bodied Try.prog 83 := bodied Try.func83 (by kernel_rfl) rfl

theorem Bd84 : Bodied Try.prog 84 := bodied Try.func84 (by kernel_rfl) rfl

theorem Bd85 : Bodied Try.prog 85 := bodied Try.func85 (by kernel_rfl) rfl

def k_spec_l8Choose__sh (M : Nat → Prop) (w0 : World) (r : (List (List Int))) (a : Act) (w : World) : Prop :=
  ∃ (σ : Nat → Value) (ra0 : Option Addr) (rn0 rc0 : Nat), a = fr 25 (ovl σ [(4, (.slice ra0 rn0 rc0))]) ∧ Chg [] w0 w ∧ (RT.rs (RT.rs (RT.int .i64))).val (Past M w0 w) w (.slice ra0 rn0 rc0) r []
def s_spec_l8Choose__sh (line : List (List Int)) (numbers : List Int) : Option ((List (List Int))) :=
  (forC (S := (List (List Int))) (R := (List (List Int))) (fun k36 s34 =>
  (idx numbers k36).bind fun x46 =>
  (idx line x46).bind fun x48 =>
  (app s34 ([x48])).bind fun y55 =>
  some (.nx y55)) 0 (numbers.length : Int) ([])).bind fun o38 => after o38 (fun r_ => some r_) (fun s34 =>
  some s34)
set_option maxHeartbeats 4000000 in
theorem c_spec_l8Choose__sh {M : Nat → Prop} {w : World} {pa0 : Option Addr} {pn0 pc0 : Nat} {pf0 : List Nat} {pa1 : Option Addr} {pn1 pc1 : Nat} (line : List (List Int)) (numbers : List Int) (h0 : (RT.os 25 (RT.rs (RT.int .i64))).val M w (.slice pa0 pn0 pc0) line pf0) (h1 : (RT.rs (RT.int .i64)).val M w (.slice pa1 pn1 pc1) numbers ([])) (hM : ∀ g, w.heap.size ≤ g → M g) {r : (List (List Int))} (hs : s_spec_l8Choose__sh line numbers = some r) :
    Gives Try.prog 86 [(.slice pa0 pn0 pc0), (.slice pa1 pn1 pc1)] w (fun v w' => ∃ (ra0 : Option Addr) (rn0 rc0 : Nat), v = (.slice ra0 rn0 rc0) ∧ Chg [] w w' ∧ (RT.rs (RT.rs (RT.int .i64))).val (Past M w w') w' (.slice ra0 rn0 rc0) r []) := by
 refine calls_fr Try.func86 rfl Try.ntmps86 (Nat.le_of_ble_eq_true rfl) ?_
 have hO := Own.start (N := Nw w []) hM Nw.fut
 have hlt0 := h0.fpl
 have hC := Chg.refl [] w
 unfold s_spec_l8Choose__sh at hs
 refine wp_mono (Q := KPost (k_spec_l8Choose__sh M w r)) ?_ (fun e a w1 h => ?_)
 rotate_left
 ·cases e
  case ret =>
   obtain ⟨σ, ra0, rn0, rc0, rfl, hrest⟩ := h
   exact ret1x Try.results86 (res_tmp rfl) ⟨ra0, rn0, rc0, rfl, hrest⟩
  all_goals exact (h : False).elim
 refine c_seq (c_region ?_)
 refine pl_val (.slice none 0 0) (y_assign rfl) ?_
 refine c_nil ?_
 refine c_seq (c_region ?_)
 obtain ⟨w3, g3, ew3, eg3, hC3, hb3⟩ := new_block w [] 25
 refine pl_val (w' := w3) (.slice (some ⟨g3, 0, none⟩) 0 0) (y_bslice rfl (by rw [ew3, eg3]; kernel_rfl)) ?_
 have h0 := h0.ext hC3
 have h1 := h1.ext hC3
 have hC := hC.ext hC3
 have hO := hO.new1 hC3 eg3 hb3.lt
 have hv3 := os_of_box (r := (RT.os 3 (RT.int .i64))) (M := M) (css := []) (fps := []) (xs := ([] : List (List Int))) hb3 trivial (Nat.zero_le _) (List.nodup_cons.2 ⟨(fun h => nomatch h), List.nodup_nil⟩)
 have hv3 : (RT.os 25 (RT.os 3 (RT.int .i64))).val M w3 (.slice (some ⟨g3, 0, none⟩) 0 0) [] [g3] := hv3
 refine pl_val (.slice (some ⟨g3, 0, none⟩) 0 0) (y_assign rfl) ?_
 refine c_nil ?_
 refine c_seq ?_
 refine c_seq (c_region ?_)
 refine pl_val (.int .i64 0) (y_assign rfl) ?_
 refine c_nil ?_
 obtain ⟨M33, f33, hs33, hk33, hO, hv33⟩ := os_inner (Frz.os Frz.int) hv3 hO
 have h0 := h0.sub (M' := M33) hs33
 have h1 := h1.sub (M' := M33) hs33
 have hK := hk33
 obtain ⟨o38, hl39, hs⟩ := bind_some hs
 refine wp_block ?_
 refine wp_forC (id := 0) (numbers.length : Int) (I := fun k36 s34 a w35 => ∃ (σ : Nat → Value) (M40 : Nat → Prop) (a41 : Option Addr) (n41 : Nat) (c41 : Nat) (f41 : List Nat), a = fr 25 (ovl σ [(0, (.slice pa0 pn0 pc0)), (1, (.slice pa1 pn1 pc1)), (5, (.slice a41 n41 c41)), (6, (.int .i64 k36))]) ∧ Chg [] w w35 ∧ Own (Nw w []) M40 w35 (f41 ++ []) ∧ Keeps w M M40 ∧ (RT.os 25 (RT.rs (RT.int .i64))).val M40 w35 (.slice pa0 pn0 pc0) line pf0 ∧ (RT.rs (RT.int .i64)).val M40 w35 (.slice pa1 pn1 pc1) numbers ([]) ∧ (RT.os 25 (RT.rs (RT.int .i64))).val M40 w35 (.slice a41 n41 c41) s34 f41) (J := fun s34 a w35 => ∃ (σ : Nat → Value) (M43 : Nat → Prop) (a44 : Option Addr) (n44 : Nat) (c44 : Nat) (f44 : List Nat), a = fr 25 (ovl σ [(5, (.slice a44 n44 c44))]) ∧ Chg [] w w35 ∧ Own (Nw w []) M43 w35 (f44 ++ []) ∧ Keeps w M M43 ∧ (RT.os 25 (RT.rs (RT.int .i64))).val M43 w35 (.slice pa0 pn0 pc0) line pf0 ∧ (RT.rs (RT.int .i64)).val M43 w35 (.slice pa1 pn1 pc1) numbers ([]) ∧ (RT.os 25 (RT.rs (RT.int .i64))).val M43 w35 (.slice a44 n44 c44) s34 f44) (K := (k_spec_l8Choose__sh M w)) ?_ ?_ 0 ([]) o38 _ _ ?_ hl39 ?_
 ·rintro k36 s34 a w35 ⟨σ, M40, a41, n41, c41, f41, rfl, hC, hO, hK, h0, h1, hv41⟩ hlt
  refine c_seq ?_
  refine c_seq (c_region ?_)
  refine pl_val (.int .i64 k36) (y_move rfl) ?_
  refine pl_val (.slice pa1 pn1 pc1) (y_move rfl) ?_
  refine pl_val (.int .i64 (numbers.length : Int)) (y_len' Sl25 (rs_len h1) rfl) ?_
  refine pl_val (.bool (decide (k36 < (numbers.length : Int)))) (y_lss rfl rfl) ?_
  refine c_nil ?_
  refine c_condF (congrArg Value.bool (decide_eq_false hlt)) ?_
  refine wp_exit ?_
  exact ⟨rfl, _, M40, a41, n41, c41, f41, fr_ovl 25 ⟨rfl, trivial⟩, hC, hO, hK, h0, h1, hv41⟩
 ·rintro k36 s34 o38 a w35 ⟨σ, M40, a41, n41, c41, f41, rfl, hC, hO, hK, h0, h1, hv41⟩ hlt hw hs
  refine c_seq ?_
  refine c_seq (c_region ?_)
  refine pl_val (.int .i64 k36) (y_move rfl) ?_
  refine pl_val (.slice pa1 pn1 pc1) (y_move rfl) ?_
  refine pl_val (.int .i64 (numbers.length : Int)) (y_len' Sl25 (rs_len h1) rfl) ?_
  refine pl_val (.bool (decide (k36 < (numbers.length : Int)))) (y_lss rfl rfl) ?_
  refine c_nil ?_
  refine c_condT (congrArg Value.bool (decide_eq_true hlt)) ?_
  refine wp_skip ?_
  refine c_seq ?_
  refine wp_block ?_
  refine c_region ?_
  refine pl_val (.slice a41 n41 c41) (y_move rfl) ?_
  refine pl_val (.slice pa0 pn0 pc0) (y_move rfl) ?_
  refine pl_val (.slice pa1 pn1 pc1) (y_move rfl) ?_
  refine pl_val (.int .i64 k36) (y_move rfl) ?_
  obtain ⟨x46, hx46, hs⟩ := bind_some hs
  obtain ⟨b47, o47, hp47, ha47⟩ := rs_idx Sl25 Sz3 h1 hx46
  refine pl_val (.pointer (some ⟨b47, o47, none⟩)) (hp47 _ _ _ _ _ _ _ _ _ rfl rfl) ?_
  refine pl_val (.int .i64 x46) (y_load rfl ((at_load_int Ag3 Sz3 ha47) _ (Chg.refl _ _))) ?_
  obtain ⟨x48, hx48, hs⟩ := bind_some hs
  obtain ⟨g49, f49, hg49, hk49, hp49, ha49, hf49⟩ := os_idx Sl49 Sz25 h0 hx48
  have hb49 := rd_row Rd.rs ha49
  refine pl_val (.pointer (some ⟨g49, 0 + Int.toNat x46 * 1, none⟩)) (hp49 _ _ _ _ _ _ _ _ _ rfl rfl) ?_
  obtain ⟨v50, hl50, hv50⟩ := at_load Ag25 Sz25 (fun _ => rfl) hb49
  obtain ⟨a50, n50, c50, rfl⟩ := rs_sl hv50
  refine pl_val (.slice a50 n50 c50) (y_load rfl (hl50 _ (Chg.refl _ _))) ?_
  obtain ⟨w52, g52, ew52, eg52, hC52, hb52⟩ := new_block w35 [(.slice a50 n50 c50)] 25
  refine pl_val (w' := w52) (.slice (some ⟨g52, 0, none⟩) 1 1) (y_bslice rfl (by rw [ew52, eg52]; kernel_rfl)) ?_
  have h0 := h0.ext hC52
  have h1 := h1.ext hC52
  have hv41 := hv41.ext hC52
  have hv50 := hv50.ext hC52
  have hC := hC.ext hC52
  have hO := hO.new1 hC52 eg52 hb52.lt
  have hv52 := os_of_box (r := (RT.rs (RT.int .i64))) (M := M40) (css := [[(.slice a50 n50 c50)]]) (fps := [([] : List Nat)]) (xs := ([x48] : List (List Int))) hb52 ⟨(rs_unval hv50), trivial⟩ (Nat.le_of_ble_eq_true rfl) (List.nodup_cons.2 ⟨(fun h => nomatch h), List.nodup_nil⟩)
  have hv52 : (RT.os 25 (RT.rs (RT.int .i64))).val M40 w52 (.slice (some ⟨g52, 0, none⟩) 1 1) [x48] [g52] := hv52
  obtain ⟨y55, hy55, hs⟩ := bind_some hs
  have hO := hO.fr1
  obtain ⟨a54, n54, c54, w54, f54, hr54, hC54, hf54, hv54⟩ := app_os Rw49 hy55 hv41 hv52 hO.inM (fun g hg hq => hO.apart g hq (mem_l hg))
  have hG54 := os_block hv41
  refine pl_val (w' := w54) (.slice a54 n54 c54) (y_append rfl rfl (hr54 _)) ?_
  have hO := hO.fr1
  have hO := hO.fr1
  have h0 := h0.mut hC54 (fun g hg => hO.inM g (hG54 g hg)) (fun g hg e => Nat.lt_irrefl _ (Nat.lt_of_lt_of_le (hlt0 g e) ((hO.inN g (hG54 g hg)).resolve_left (fun h => nomatch h))))
  have h1 := h1.mut hC54 (fun g hg => hO.inM g (hG54 g hg)) (fun _ _ h => nomatch h)
  have hv50 := hv50.mut hC54 (fun g hg => hO.inM g (hG54 g hg)) (fun _ _ h => nomatch h)
  have hC := hC.step hC54 (fun g hg => hO.inN g (hG54 g hg))
  have hO := hO.eat hC54 hf54 (os_nodup hv54) hv54.fpl
  refine pl_val (.slice a54 n54 c54) (y_assign rfl) ?_
  refine c_nil ?_
  refine c_region ?_
  refine pl_val (.int .i64 k36) (y_move rfl) ?_
  refine pl_val (.int .i64 (w64 (k36 + 1))) (y_add rfl rfl) ?_
  refine pl_val (.int .i64 (w64 (k36 + 1))) (y_assign rfl) ?_
  refine c_nil ?_
  cases hs
  exact ⟨_, M40, a54, n54, c54, f54, fr_ovl 25 ⟨rfl, rfl, rfl, congrArg (Value.int .i64) hw, trivial⟩, hC, hO, hK, h0, h1, hv54⟩
 ·skip
  exact ⟨_, M33, (some ⟨g3, 0, none⟩), 0, 0, f33, fr_ovl 25 ⟨rfl, rfl, rfl, rfl, trivial⟩, hC, hO, hK, h0, h1, hv33⟩
 ·cases o38 with
  | nx _ => exact True.intro
  | rt r_ =>
   have hs := after_rt hs
   intro a1 w1 hK
   cases hs
   exact hK
  | br s34 =>
   have hs := after_br hs
   rintro a1 w35 ⟨σ, M43, a44, n44, c44, f44, rfl, hC, hO, hK, h0, h1, hv44⟩
   refine c_seq (c_region ?_)
   refine pl_val (.slice a44 n44 c44) (y_move rfl) ?_
   refine pl_val (.slice a44 n44 c44) (y_assign rfl) ?_
   refine c_nil ?_
   refine wp_ret ?_
   cases hs
   obtain ⟨M57, eM57, hs57, hk57, hO, hv57⟩ := frz_own (Frz.os (Frz.rs Frz.int)) hv44 hO
   have hK := hK.trans hk57
   exact ⟨_, a44, n44, c44, fr_ovl 25 ⟨rfl, trivial⟩, hC, (Keeps.out hK hv57)⟩

theorem Bd86 : Bodied Try.prog 86 := bodied Try.func86 (by kernel_rfl) rfl

theorem Bd87 : Bodied Try.prog 87 := bodied Try.func87 (by kernel_rfl) rfl

end Go.Proofs
