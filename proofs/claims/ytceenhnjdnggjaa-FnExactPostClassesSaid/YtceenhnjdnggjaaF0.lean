/- What functions of the program compute, as plain functions, and that a call gives just that. Conditions: those named in each theorem. -/
import Derived.Test.YtceenhnjdnggjaaGFoc
import Derived.Test.YtceenhnjdnggjaaRows
set_option linter.unusedVariables false
namespace Go.Proofs
open Go.G Go.RowKit
set_option maxRecDepth 100000

theorem Sl22 : SlT Try.prog 22 3 := Try.underlying22

def k_laws_szIntS (M : Nat → Prop) (w0 : World) (r : Int) (a : Act) (w : World) : Prop :=
  ∃ (σ : Nat → Value) , a = fr 12 (ovl σ [(4, (.int .i64 r))]) ∧ Chg [] w0 w
def s_laws_szIntS (a_ : List Int) (left : Int) : Option (Int) :=
  (bif (decide ((w64 (left - (a_.length : Int))) < 0)) then some (-1) else some (w64 (left - (a_.length : Int))))
set_option maxHeartbeats 4000000 in
theorem c_laws_szIntS {M : Nat → Prop} {w : World} {pa0 : Option Addr} {pn0 pc0 : Nat} (a_ : List Int) (left : Int) (h0 : (RT.rs (RT.int .i64)).val M w (.slice pa0 pn0 pc0) a_ ([])) (hM : ∀ g, w.heap.size ≤ g → M g) {r : Int} (hs : s_laws_szIntS a_ left = some r) :
    Gives Try.prog 108 [(.slice pa0 pn0 pc0), (.int .i64 left)] w (fun v w' => v = (.int .i64 r) ∧ Chg [] w w') := by
  refine calls_fr Try.func108 rfl Try.ntmps108 (Nat.le_of_ble_eq_true rfl) ?_
  have hO := Own.start (N := Nw w []) hM Nw.fut
  have hC := Chg.refl [] w
  unfold s_laws_szIntS at hs
  refine wp_mono (Q := KPost (k_laws_szIntS M w r)) ?_ (fun e a w1 h => ?_)
  rotate_left
  · cases e
    case ret =>
      obtain ⟨σ, rfl, hrest⟩ := h
      exact ret1x Try.results108 (res_tmp rfl) ⟨rfl, hrest⟩
    all_goals exact (h : False).elim
  refine c_seq ?_
  refine c_region ?_
  refine pl_val (.int .i64 0) (y_assign rfl) ?_
  refine c_nil ?_
  refine c_seq ?_
  refine c_region ?_
  refine pl_val (.int .i64 left) (y_move rfl) ?_
  refine pl_val (.slice pa0 pn0 pc0) (y_move rfl) ?_
  refine pl_val (.int .i64 (a_.length : Int)) (y_len' Sl22 (rs_len h0) rfl) ?_
  refine pl_val (.int .i64 (w64 (left - (a_.length : Int)))) (y_sub rfl rfl) ?_
  refine pl_val (.int .i64 (w64 (left - (a_.length : Int)))) (y_assign rfl) ?_
  refine c_nil ?_
  refine c_seq ?_
  refine c_seq ?_
  refine c_region ?_
  refine pl_val (.int .i64 (w64 (left - (a_.length : Int)))) (y_move rfl) ?_
  refine pl_val (.bool (decide ((w64 (left - (a_.length : Int))) < 0))) (y_lss rfl rfl) ?_
  refine c_nil ?_
  rcases bif_some hs with ⟨hc2, hs⟩ | ⟨hc2, hs⟩
  · skip
    refine c_condT (congrArg Value.bool hc2) ?_
    refine c_seq ?_
    refine c_region ?_
    refine pl_val (.int .i64 (-1)) (y_assign rfl) ?_
    refine c_nil ?_
    refine wp_ret ?_
    cases hs
    exact ⟨_, fr_ovl 12 ⟨rfl, trivial⟩, hC⟩
  · skip
    refine c_condF (congrArg Value.bool hc2) ?_
    refine wp_skip ?_
    refine c_seq ?_
    refine c_region ?_
    refine pl_val (.int .i64 (w64 (left - (a_.length : Int)))) (y_move rfl) ?_
    refine pl_val (.int .i64 (w64 (left - (a_.length : Int)))) (y_assign rfl) ?_
    refine c_nil ?_
    refine wp_ret ?_
    cases hs
    exact ⟨_, fr_ovl 12 ⟨rfl, trivial⟩, hC⟩

theorem Fa156x1 : ∀ (a : Addr) (w : World), (Instr.fieldAt 156 (.pointer (some a)) 1).run Try.prog w = .ok (.pointer (some (a.add 1))) w := fun _ _ => by kernel_rfl

theorem Ag22 : AggT Try.prog 22 false := fun _ => by kernel_rfl

theorem Sz22 : SzT Try.prog 22 1 := ⟨_, rfl, rfl⟩

theorem Bd108 : Bodied Try.prog 108 := bodied Try.func108 (by kernel_rfl) rfl

def k_laws_szOp (M : Nat → Prop) (w0 : World) (r : Int) (a : Act) (w : World) : Prop :=
  ∃ (σ : Nat → Value) , a = fr 12 (ovl σ [(4, (.int .i64 r))]) ∧ Chg [] w0 w
def s_laws_szOp (a_ : Int × (List Int)) (left : Int) : Option (Int) :=
  (s_laws_szIntS a_.2 left).bind fun r4 =>
  (bif (decide (r4 < 0)) then some (-1) else some r4)
set_option maxHeartbeats 4000000 in
theorem c_laws_szOp {M : Nat → Prop} {w : World} {pa0 : Option Addr} {pn0 pc0 : Nat} (a_ : Int × (List Int)) (left : Int) (h0 : (RT.rs (RT.int .i64)).val M w (.slice pa0 pn0 pc0) a_.2 ([])) (hM : ∀ g, w.heap.size ≤ g → M g) {r : Int} (hs : s_laws_szOp a_ left = some r) :
    Gives Try.prog 152 [(.agg #[(.int .i64 a_.1), (.slice pa0 pn0 pc0)]), (.int .i64 left)] w (fun v w' => v = (.int .i64 r) ∧ Chg [] w w') := by
  refine calls_fr Try.func152 rfl Try.ntmps152 (Nat.le_of_ble_eq_true rfl) ?_
  have hO := Own.start (N := Nw w []) hM Nw.fut
  have hC := Chg.refl [] w
  unfold s_laws_szOp at hs
  refine wp_mono (Q := KPost (k_laws_szOp M w r)) ?_ (fun e a w1 h => ?_)
  rotate_left
  · cases e
    case ret =>
      obtain ⟨σ, rfl, hrest⟩ := h
      exact ret1x Try.results152 (res_tmp rfl) ⟨rfl, hrest⟩
    all_goals exact (h : False).elim
  refine c_seq ?_
  refine c_region ?_
  obtain ⟨w2, g2, ew2, eg2, hC2, hb2⟩ := new_block w [(.int .i64 a_.1), (.slice pa0 pn0 pc0)] 156
  refine pl_val (w' := w2) (.pointer (some ⟨g2, 0, none⟩)) (y_box rfl (by rw [ew2, eg2]; kernel_rfl)) ?_
  have h0 := h0.ext hC2
  have hC := hC.ext hC2
  have hO := hO.new (X' := [g2]) hC2 (fun q hq => by rw [List.mem_singleton.1 hq, eg2]; exact Nat.le_refl _) (List.nodup_cons.2 ⟨(fun h => nomatch h), List.nodup_nil⟩) (fun q hq => by rw [List.mem_singleton.1 hq]; exact hb2.lt)
  refine pl_val (.int .i64 0) (y_assign rfl) ?_
  refine c_nil ?_
  refine c_seq ?_
  refine c_region ?_
  refine pl_val (.pointer (some ⟨g2, 1, none⟩)) (y_faddr rfl Fa156x1) ?_
  refine pl_val (.slice pa0 pn0 pc0) (y_load rfl ((box_load Ag22 Sz22 hb2 [(.int .i64 a_.1)] [(.slice pa0 pn0 pc0)] [] rfl rfl (fun _ => rfl)) _ (Chg.refl _ _))) ?_
  refine pl_val (.int .i64 left) (y_move rfl) ?_
  obtain ⟨r4, hr4, hs⟩ := bind_some hs
  refine pl_call Bd108 rfl (c_laws_szIntS (M := M) a_.2 left h0 hO.fut hr4) ?_
  rintro _ w3 ⟨rfl, hC3⟩
  have h0 := h0.ext hC3
  have hb2 := hb2.chg hC3 (fun h => nomatch h)
  have hC := hC.ext hC3
  have hO := hO.ext hC3
  refine pl_val (.int .i64 r4) (y_assign rfl) ?_
  refine c_nil ?_
  refine c_seq ?_
  refine c_seq ?_
  refine c_region ?_
  refine pl_val (.int .i64 r4) (y_move rfl) ?_
  refine pl_val (.bool (decide (r4 < 0))) (y_lss rfl rfl) ?_
  refine c_nil ?_
  rcases bif_some hs with ⟨hc5, hs⟩ | ⟨hc5, hs⟩
  · skip
    refine c_condT (congrArg Value.bool hc5) ?_
    refine c_seq ?_
    refine c_region ?_
    refine pl_val (.int .i64 (-1)) (y_assign rfl) ?_
    refine c_nil ?_
    refine wp_ret ?_
    cases hs
    exact ⟨_, fr_ovl 12 ⟨rfl, trivial⟩, hC⟩
  · skip
    refine c_condF (congrArg Value.bool hc5) ?_
    refine wp_skip ?_
    refine c_seq ?_
    refine c_region ?_
    refine pl_val (.int .i64 r4) (y_move rfl) ?_
    refine pl_val (.int .i64 r4) (y_assign rfl) ?_
    refine c_nil ?_
    refine wp_ret ?_
    cases hs
    exact ⟨_, fr_ovl 12 ⟨rfl, trivial⟩, hC⟩

theorem Sl53 : SlT Try.prog 53 156 := Try.underlying53

theorem Sz156 : SzT Try.prog 156 2 := ⟨_, rfl, rfl⟩

theorem Ag156 : AggT Try.prog 156 true := fun _ => by kernel_rfl

theorem Bd152 : Bodied Try.prog 152 := bodied Try.func152 (by kernel_rfl) rfl

def k_laws_szOpS (M : Nat → Prop) (w0 : World) (r : Int) (a : Act) (w : World) : Prop :=
  ∃ (σ : Nat → Value) , a = fr 27 (ovl σ [(4, (.int .i64 r))]) ∧ Chg [] w0 w
def s_laws_szOpS (a_ : List (Int × (List Int))) (left : Int) : Option (Int) :=
  (bif (decide ((w64 (left - (a_.length : Int))) < 0)) then some (-1) else (forC (S := Int) (R := Int) (fun k12 s10 =>
  (idx a_ k12).bind fun x16 =>
  (s_laws_szOp (x16.1, x16.2) s10).bind fun r21 =>
  (bif (decide (r21 < 0)) then some (.rt (-1)) else some (.nx r21))) 0 (a_.length : Int) (w64 (left - (a_.length : Int)))).bind fun o14 => after o14 (fun r_ => some r_) (fun s10 =>
  some s10))
set_option maxHeartbeats 4000000 in
theorem c_laws_szOpS {M : Nat → Prop} {w : World} {pa0 : Option Addr} {pn0 pc0 : Nat} (a_ : List (Int × (List Int))) (left : Int) (h0 : (RT.rs (RT.pr (RT.int .i64) (RT.rs (RT.int .i64)))).val M w (.slice pa0 pn0 pc0) a_ ([])) (hM : ∀ g, w.heap.size ≤ g → M g) {r : Int} (hs : s_laws_szOpS a_ left = some r) :
    Gives Try.prog 93 [(.slice pa0 pn0 pc0), (.int .i64 left)] w (fun v w' => v = (.int .i64 r) ∧ Chg [] w w') := by
  refine calls_fr Try.func93 rfl Try.ntmps93 (Nat.le_of_ble_eq_true rfl) ?_
  have hO := Own.start (N := Nw w []) hM Nw.fut
  have hC := Chg.refl [] w
  unfold s_laws_szOpS at hs
  refine wp_mono (Q := KPost (k_laws_szOpS M w r)) ?_ (fun e a w1 h => ?_)
  rotate_left
  · cases e
    case ret =>
      obtain ⟨σ, rfl, hrest⟩ := h
      exact ret1x Try.results93 (res_tmp rfl) ⟨rfl, hrest⟩
    all_goals exact (h : False).elim
  refine c_seq ?_
  refine c_region ?_
  refine pl_val (.int .i64 0) (y_assign rfl) ?_
  refine c_nil ?_
  refine c_seq ?_
  refine c_region ?_
  refine pl_val (.int .i64 left) (y_move rfl) ?_
  refine pl_val (.slice pa0 pn0 pc0) (y_move rfl) ?_
  refine pl_val (.int .i64 (a_.length : Int)) (y_len' Sl53 (rs_len h0) rfl) ?_
  refine pl_val (.int .i64 (w64 (left - (a_.length : Int)))) (y_sub rfl rfl) ?_
  refine pl_val (.int .i64 (w64 (left - (a_.length : Int)))) (y_assign rfl) ?_
  refine c_nil ?_
  refine c_seq ?_
  refine c_seq ?_
  refine c_region ?_
  refine pl_val (.int .i64 (w64 (left - (a_.length : Int)))) (y_move rfl) ?_
  refine pl_val (.bool (decide ((w64 (left - (a_.length : Int))) < 0))) (y_lss rfl rfl) ?_
  refine c_nil ?_
  rcases bif_some hs with ⟨hc2, hs⟩ | ⟨hc2, hs⟩
  · skip
    refine c_condT (congrArg Value.bool hc2) ?_
    refine c_seq ?_
    refine c_region ?_
    refine pl_val (.int .i64 (-1)) (y_assign rfl) ?_
    refine c_nil ?_
    refine wp_ret ?_
    cases hs
    exact ⟨_, fr_ovl 27 ⟨rfl, trivial⟩, hC⟩
  · skip
    refine c_condF (congrArg Value.bool hc2) ?_
    refine wp_skip ?_
    refine c_seq ?_
    refine c_seq ?_
    refine c_region ?_
    refine pl_val (.int .i64 0) (y_assign rfl) ?_
    refine c_nil ?_
    obtain ⟨o14, hl15, hs⟩ := bind_some hs
    refine wp_block ?_
    refine wp_forC (id := 0) (a_.length : Int) (I := fun k12 s10 a w11 => ∃ (σ : Nat → Value), a = fr 27 (ovl σ [(0, (.slice pa0 pn0 pc0)), (1, (.int .i64 s10)), (5, (.int .i64 k12))]) ∧ Chg [] w w11 ∧ Own (Nw w []) M w11 ([]) ∧ (RT.rs (RT.pr (RT.int .i64) (RT.rs (RT.int .i64)))).val M w11 (.slice pa0 pn0 pc0) a_ ([])) (J := fun s10 a w11 => ∃ (σ : Nat → Value), a = fr 27 (ovl σ [(1, (.int .i64 s10))]) ∧ Chg [] w w11 ∧ Own (Nw w []) M w11 ([]) ∧ (RT.rs (RT.pr (RT.int .i64) (RT.rs (RT.int .i64)))).val M w11 (.slice pa0 pn0 pc0) a_ ([])) (K := (k_laws_szOpS M w)) ?_ ?_ 0 (w64 (left - (a_.length : Int))) o14 _ _ ?_ hl15 ?_
    · rintro k12 s10 a w11 ⟨σ, rfl, hC, hO, h0⟩ hlt
      refine c_seq ?_
      refine c_seq ?_
      refine c_region ?_
      refine pl_val (.int .i64 k12) (y_move rfl) ?_
      refine pl_val (.slice pa0 pn0 pc0) (y_move rfl) ?_
      refine pl_val (.int .i64 (a_.length : Int)) (y_len' Sl53 (rs_len h0) rfl) ?_
      refine pl_val (.bool (decide (k12 < (a_.length : Int)))) (y_lss rfl rfl) ?_
      refine c_nil ?_
      refine c_condF (congrArg Value.bool (decide_eq_false hlt)) ?_
      refine wp_exit ?_
      exact ⟨rfl, _, fr_ovl 27 ⟨rfl, trivial⟩, hC, hO, h0⟩
    · rintro k12 s10 o14 a w11 ⟨σ, rfl, hC, hO, h0⟩ hlt hw hs
      refine c_seq ?_
      refine c_seq ?_
      refine c_region ?_
      refine pl_val (.int .i64 k12) (y_move rfl) ?_
      refine pl_val (.slice pa0 pn0 pc0) (y_move rfl) ?_
      refine pl_val (.int .i64 (a_.length : Int)) (y_len' Sl53 (rs_len h0) rfl) ?_
      refine pl_val (.bool (decide (k12 < (a_.length : Int)))) (y_lss rfl rfl) ?_
      refine c_nil ?_
      refine c_condT (congrArg Value.bool (decide_eq_true hlt)) ?_
      refine wp_skip ?_
      refine c_seq ?_
      refine wp_block ?_
      refine c_seq ?_
      refine c_region ?_
      refine pl_val (.slice pa0 pn0 pc0) (y_move rfl) ?_
      refine pl_val (.int .i64 k12) (y_move rfl) ?_
      obtain ⟨x16, hx16, hs⟩ := bind_some hs
      obtain ⟨b17, o17, hp17, ha17⟩ := rs_idx Sl53 Sz156 h0 hx16
      refine pl_val (.pointer (some ⟨b17, o17, none⟩)) (hp17 _ _ _ _ _ _ _ _ _ rfl rfl) ?_
      obtain ⟨v18, hl18, hv18⟩ := at_load Ag156 Sz156 (by intro h; cases h) ha17
      obtain ⟨cs18, rfl, hr18⟩ := hv18
      obtain ⟨cc18x1, cd18x1, rfl, hh18x1, ht18x1⟩ := pr_open hr18
      obtain rfl := int_rel hh18x1
      obtain ⟨a18x2, n18x2, c18x2, rfl, hv18x2⟩ := rs_rel ht18x1
      refine pl_val (.agg #[(.int .i64 x16.1), (.slice a18x2 n18x2 c18x2)]) (y_load rfl (hl18 _ (Chg.refl _ _))) ?_
      refine pl_val (.int .i64 s10) (y_move rfl) ?_
      obtain ⟨r21, hr21, hs⟩ := bind_some hs
      refine pl_call Bd152 rfl (c_laws_szOp (M := M) (x16.1, x16.2) s10 hv18x2 hO.fut hr21) ?_
      rintro _ w20 ⟨rfl, hC20⟩
      have h0 := h0.ext hC20
      have hv18x2 := hv18x2.ext hC20
      have hC := hC.ext hC20
      have hO := hO.ext hC20
      refine pl_val (.int .i64 r21) (y_assign rfl) ?_
      refine c_nil ?_
      refine c_seq ?_
      refine c_region ?_
      refine pl_val (.int .i64 r21) (y_move rfl) ?_
      refine pl_val (.bool (decide (r21 < 0))) (y_lss rfl rfl) ?_
      refine c_nil ?_
      rcases bif_some hs with ⟨hc22, hs⟩ | ⟨hc22, hs⟩
      · skip
        refine c_condT (congrArg Value.bool hc22) ?_
        refine c_seq ?_
        refine c_region ?_
        refine pl_val (.int .i64 (-1)) (y_assign rfl) ?_
        refine c_nil ?_
        refine wp_ret ?_
        cases hs
        exact ⟨_, fr_ovl 27 ⟨rfl, trivial⟩, hC⟩
      · skip
        refine c_condF (congrArg Value.bool hc22) ?_
        refine wp_skip ?_
        refine c_region ?_
        refine pl_val (.int .i64 k12) (y_move rfl) ?_
        refine pl_val (.int .i64 (w64 (k12 + 1))) (y_add rfl rfl) ?_
        refine pl_val (.int .i64 (w64 (k12 + 1))) (y_assign rfl) ?_
        refine c_nil ?_
        cases hs
        exact ⟨_, fr_ovl 27 ⟨rfl, rfl, congrArg (Value.int .i64) hw, trivial⟩, hC, hO, h0⟩
    · skip
      exact ⟨_, fr_ovl 27 ⟨rfl, rfl, rfl, trivial⟩, hC, hO, h0⟩
    · cases o14 with
      | nx _ => exact True.intro
      | rt r_ =>
        have hs := after_rt hs
        intro a1 w1 hK
        cases hs
        exact hK
      | br s10 =>
        have hs := after_br hs
        rintro a1 w11 ⟨σ, rfl, hC, hO, h0⟩
        refine c_seq ?_
        refine c_region ?_
        refine pl_val (.int .i64 s10) (y_move rfl) ?_
        refine pl_val (.int .i64 s10) (y_assign rfl) ?_
        refine c_nil ?_
        refine wp_ret ?_
        cases hs
        exact ⟨_, fr_ovl 27 ⟨rfl, trivial⟩, hC⟩

theorem Fa55x1 : ∀ (a : Addr) (w : World), (Instr.fieldAt 55 (.pointer (some a)) 1).run Try.prog w = .ok (.pointer (some (a.add 1))) w := fun _ _ => by kernel_rfl

theorem Ag53 : AggT Try.prog 53 false := fun _ => by kernel_rfl

theorem Sz53 : SzT Try.prog 53 1 := ⟨_, rfl, rfl⟩

theorem Bd93 : Bodied Try.prog 93 := bodied Try.func93 (by kernel_rfl) rfl

def k_laws_szAlgebra (M : Nat → Prop) (w0 : World) (r : Int) (a : Act) (w : World) : Prop :=
  ∃ (σ : Nat → Value) , a = fr 12 (ovl σ [(4, (.int .i64 r))]) ∧ Chg [] w0 w
def s_laws_szAlgebra (a_ : Int × (List (Int × (List Int)))) (left : Int) : Option (Int) :=
  (s_laws_szOpS a_.2 left).bind fun r4 =>
  (bif (decide (r4 < 0)) then some (-1) else some r4)
set_option maxHeartbeats 4000000 in
theorem c_laws_szAlgebra {M : Nat → Prop} {w : World} {pa0 : Option Addr} {pn0 pc0 : Nat} (a_ : Int × (List (Int × (List Int)))) (left : Int) (h0 : (RT.rs (RT.pr (RT.int .i64) (RT.rs (RT.int .i64)))).val M w (.slice pa0 pn0 pc0) a_.2 ([])) (hM : ∀ g, w.heap.size ≤ g → M g) {r : Int} (hs : s_laws_szAlgebra a_ left = some r) :
    Gives Try.prog 35 [(.agg #[(.int .i64 a_.1), (.slice pa0 pn0 pc0)]), (.int .i64 left)] w (fun v w' => v = (.int .i64 r) ∧ Chg [] w w') := by
  refine calls_fr Try.func35 rfl Try.ntmps35 (Nat.le_of_ble_eq_true rfl) ?_
  have hO := Own.start (N := Nw w []) hM Nw.fut
  have hC := Chg.refl [] w
  unfold s_laws_szAlgebra at hs
  refine wp_mono (Q := KPost (k_laws_szAlgebra M w r)) ?_ (fun e a w1 h => ?_)
  rotate_left
  · cases e
    case ret =>
      obtain ⟨σ, rfl, hrest⟩ := h
      exact ret1x Try.results35 (res_tmp rfl) ⟨rfl, hrest⟩
    all_goals exact (h : False).elim
  refine c_seq ?_
  refine c_region ?_
  obtain ⟨w2, g2, ew2, eg2, hC2, hb2⟩ := new_block w [(.int .i64 a_.1), (.slice pa0 pn0 pc0)] 55
  refine pl_val (w' := w2) (.pointer (some ⟨g2, 0, none⟩)) (y_box rfl (by rw [ew2, eg2]; kernel_rfl)) ?_
  have h0 := h0.ext hC2
  have hC := hC.ext hC2
  have hO := hO.new (X' := [g2]) hC2 (fun q hq => by rw [List.mem_singleton.1 hq, eg2]; exact Nat.le_refl _) (List.nodup_cons.2 ⟨(fun h => nomatch h), List.nodup_nil⟩) (fun q hq => by rw [List.mem_singleton.1 hq]; exact hb2.lt)
  refine pl_val (.int .i64 0) (y_assign rfl) ?_
  refine c_nil ?_
  refine c_seq ?_
  refine c_region ?_
  refine pl_val (.pointer (some ⟨g2, 1, none⟩)) (y_faddr rfl Fa55x1) ?_
  refine pl_val (.slice pa0 pn0 pc0) (y_load rfl ((box_load Ag53 Sz53 hb2 [(.int .i64 a_.1)] [(.slice pa0 pn0 pc0)] [] rfl rfl (fun _ => rfl)) _ (Chg.refl _ _))) ?_
  refine pl_val (.int .i64 left) (y_move rfl) ?_
  obtain ⟨r4, hr4, hs⟩ := bind_some hs
  refine pl_call Bd93 rfl (c_laws_szOpS (M := M) a_.2 left h0 hO.fut hr4) ?_
  rintro _ w3 ⟨rfl, hC3⟩
  have h0 := h0.ext hC3
  have hb2 := hb2.chg hC3 (fun h => nomatch h)
  have hC := hC.ext hC3
  have hO := hO.ext hC3
  refine pl_val (.int .i64 r4) (y_assign rfl) ?_
  refine c_nil ?_
  refine c_seq ?_
  refine c_seq ?_
  refine c_region ?_
  refine pl_val (.int .i64 r4) (y_move rfl) ?_
  refine pl_val (.bool (decide (r4 < 0))) (y_lss rfl rfl) ?_
  refine c_nil ?_
  rcases bif_some hs with ⟨hc5, hs⟩ | ⟨hc5, hs⟩
  · skip
    refine c_condT (congrArg Value.bool hc5) ?_
    refine c_seq ?_
    refine c_region ?_
    refine pl_val (.int .i64 (-1)) (y_assign rfl) ?_
    refine c_nil ?_
    refine wp_ret ?_
    cases hs
    exact ⟨_, fr_ovl 12 ⟨rfl, trivial⟩, hC⟩
  · skip
    refine c_condF (congrArg Value.bool hc5) ?_
    refine wp_skip ?_
    refine c_seq ?_
    refine c_region ?_
    refine pl_val (.int .i64 r4) (y_move rfl) ?_
    refine pl_val (.int .i64 r4) (y_assign rfl) ?_
    refine c_nil ?_
    refine wp_ret ?_
    cases hs
    exact ⟨_, fr_ovl 12 ⟨rfl, trivial⟩, hC⟩

theorem Rw22 : RowT Try.prog 22 3 1 [(.int .i64 0)] := ⟨Try.underlying22, ⟨_, _, rfl, rfl, rfl, rfl, by decide⟩, rfl, by decide⟩

theorem Sz3 : SzT Try.prog 3 1 := ⟨_, rfl, rfl⟩

theorem Ag3 : AggT Try.prog 3 false := fun _ => by kernel_rfl

def k_laws_toIntS (M : Nat → Prop) (w0 : World) (r : (List Int)) (a : Act) (w : World) : Prop :=
  ∃ (σ : Nat → Value) (ra0 : Option Addr) (rn0 rc0 : Nat) (rf0 : List Nat), a = fr 22 (ovl σ [(2, (.slice ra0 rn0 rc0))]) ∧ Chg [] w0 w ∧ (RT.os 3 (RT.int .i64)).val M w (.slice ra0 rn0 rc0) r rf0 ∧ Own (Nw w0 []) (fun _ => True) w (rf0 ++ ([]))
def s_laws_toIntS (a_ : List Int) : Option ((List Int)) :=
  (mks (a_.length : Int) (0 : Int)).bind fun y3 =>
  (forC (S := (List Int)) (R := (List Int)) (fun k18 s16 =>
  (idx a_ k18).bind fun x24 =>
  (idx s16 k18).bind fun x26 =>
  some (.nx (List.set s16 (Int.toNat k18) x24))) 0 (a_.length : Int) y3).bind fun o20 => after o20 (fun r_ => some r_) (fun s16 =>
  some s16)
set_option maxHeartbeats 4000000 in
theorem c_laws_toIntS {M : Nat → Prop} {w : World} {pa0 : Option Addr} {pn0 pc0 : Nat} (a_ : List Int) (h0 : (RT.rs (RT.int .i64)).val M w (.slice pa0 pn0 pc0) a_ ([])) (hM : ∀ g, w.heap.size ≤ g → M g) {r : (List Int)} (hs : s_laws_toIntS a_ = some r) :
    Gives Try.prog 16 [(.slice pa0 pn0 pc0)] w (fun v w' => ∃ (ra0 : Option Addr) (rn0 rc0 : Nat) (rf0 : List Nat), v = (.slice ra0 rn0 rc0) ∧ Chg [] w w' ∧ (RT.os 3 (RT.int .i64)).val M w' (.slice ra0 rn0 rc0) r rf0 ∧ Own (Nw w []) (fun _ => True) w' (rf0 ++ ([]))) := by
  refine calls_fr Try.func16 rfl Try.ntmps16 (Nat.le_of_ble_eq_true rfl) ?_
  have hO := Own.start (N := Nw w []) hM Nw.fut
  have hC := Chg.refl [] w
  unfold s_laws_toIntS at hs
  refine wp_mono (Q := KPost (k_laws_toIntS M w r)) ?_ (fun e a w1 h => ?_)
  rotate_left
  · cases e
    case ret =>
      obtain ⟨σ, ra0, rn0, rc0, rf0, rfl, hrest⟩ := h
      exact ret1x Try.results16 (res_tmp rfl) ⟨ra0, rn0, rc0, rf0, rfl, hrest⟩
    all_goals exact (h : False).elim
  refine c_seq ?_
  refine c_region ?_
  refine pl_val (.slice none 0 0) (y_assign rfl) ?_
  refine c_nil ?_
  refine c_seq ?_
  refine c_region ?_
  refine pl_val (.slice pa0 pn0 pc0) (y_move rfl) ?_
  refine pl_val (.int .i64 (a_.length : Int)) (y_len' Sl22 (rs_len h0) rfl) ?_
  obtain ⟨y3, hy3, hs⟩ := bind_some hs
  obtain ⟨a2, n2, c2, w2, f2, hm2, hC2, hfr2, hv2⟩ := mk_os (M := M) (w := w) (r := (RT.int .i64)) Rw22 hy3 (fun _ _ => ⟨rfl, rfl⟩)
  refine pl_val (w' := w2) (.slice a2 n2 c2) (y_make rfl rfl hm2) ?_
  have h0 := h0.ext hC2
  have hC := hC.ext hC2
  have hO := hO.new hC2 hfr2 (os_nodup hv2) hv2.fpl
  refine pl_val (.slice a2 n2 c2) (y_assign rfl) ?_
  refine c_nil ?_
  refine c_seq ?_
  refine c_seq ?_
  refine c_region ?_
  refine pl_val (.int .i64 0) (y_assign rfl) ?_
  refine c_nil ?_
  obtain ⟨o20, hl21, hs⟩ := bind_some hs
  refine wp_block ?_
  refine wp_forC (id := 0) (a_.length : Int) (I := fun k18 s16 a w17 => ∃ (σ : Nat → Value) (f22 : List Nat), a = fr 22 (ovl σ [(0, (.slice pa0 pn0 pc0)), (3, (.slice a2 n2 c2)), (4, (.int .i64 k18))]) ∧ Chg [] w w17 ∧ Own (Nw w []) M w17 (f22 ++ []) ∧ (RT.rs (RT.int .i64)).val M w17 (.slice pa0 pn0 pc0) a_ ([]) ∧ (RT.os 3 (RT.int .i64)).val M w17 (.slice a2 n2 c2) s16 f22) (J := fun s16 a w17 => ∃ (σ : Nat → Value) (f23 : List Nat), a = fr 22 (ovl σ [(3, (.slice a2 n2 c2))]) ∧ Chg [] w w17 ∧ Own (Nw w []) M w17 (f23 ++ []) ∧ (RT.rs (RT.int .i64)).val M w17 (.slice pa0 pn0 pc0) a_ ([]) ∧ (RT.os 3 (RT.int .i64)).val M w17 (.slice a2 n2 c2) s16 f23) (K := (k_laws_toIntS M w)) ?_ ?_ 0 y3 o20 _ _ ?_ hl21 ?_
  · rintro k18 s16 a w17 ⟨σ, f22, rfl, hC, hO, h0, hv22⟩ hlt
    refine c_seq ?_
    refine c_seq ?_
    refine c_region ?_
    refine pl_val (.int .i64 k18) (y_move rfl) ?_
    refine pl_val (.slice pa0 pn0 pc0) (y_move rfl) ?_
    refine pl_val (.int .i64 (a_.length : Int)) (y_len' Sl22 (rs_len h0) rfl) ?_
    refine pl_val (.bool (decide (k18 < (a_.length : Int)))) (y_lss rfl rfl) ?_
    refine c_nil ?_
    refine c_condF (congrArg Value.bool (decide_eq_false hlt)) ?_
    refine wp_exit ?_
    exact ⟨rfl, _, f22, fr_ovl 22 ⟨rfl, trivial⟩, hC, hO, h0, hv22⟩
  · rintro k18 s16 o20 a w17 ⟨σ, f22, rfl, hC, hO, h0, hv22⟩ hlt hw hs
    refine c_seq ?_
    refine c_seq ?_
    refine c_region ?_
    refine pl_val (.int .i64 k18) (y_move rfl) ?_
    refine pl_val (.slice pa0 pn0 pc0) (y_move rfl) ?_
    refine pl_val (.int .i64 (a_.length : Int)) (y_len' Sl22 (rs_len h0) rfl) ?_
    refine pl_val (.bool (decide (k18 < (a_.length : Int)))) (y_lss rfl rfl) ?_
    refine c_nil ?_
    refine c_condT (congrArg Value.bool (decide_eq_true hlt)) ?_
    refine wp_skip ?_
    refine c_seq ?_
    refine wp_block ?_
    refine c_region ?_
    refine pl_val (.slice a2 n2 c2) (y_move rfl) ?_
    refine pl_val (.int .i64 k18) (y_move rfl) ?_
    refine pl_val (.slice pa0 pn0 pc0) (y_move rfl) ?_
    refine pl_val (.int .i64 k18) (y_move rfl) ?_
    obtain ⟨x24, hx24, hs⟩ := bind_some hs
    obtain ⟨b25, o25, hp25, ha25⟩ := rs_idx Sl22 Sz3 h0 hx24
    refine pl_val (.pointer (some ⟨b25, o25, none⟩)) (hp25 _ _ _ _ _ _ _ _ _ rfl rfl) ?_
    refine pl_val (.int .i64 x24) (y_load rfl ((at_load_int Ag3 Sz3 ha25) _ (Chg.refl _ _))) ?_
    obtain ⟨x26, hx26, hs⟩ := bind_some hs
    obtain ⟨g27, f27, hg27, hk27, hp27, ha27, hf27⟩ := os_idx Sl22 Sz3 hv22 hx26
    refine pl_val (.pointer (some ⟨g27, 0 + Int.toNat k18 * 1, none⟩)) (hp27 _ _ _ _ _ _ _ _ _ rfl rfl) ?_
    obtain ⟨w28, f28, hst28, hC28, hf28, hv28⟩ := os_store (P := Try.prog) (c' := [(.int .i64 x24)]) hg27 hv22 hk27 (fun g hg => hO.inM g (os_block hv22 g (by simpa using hg))) ⟨rfl, rfl⟩ List.nodup_nil (fun _ h => nomatch h) (fun _ h => .inl h)
    have hG28 : ∀ q ∈ [g27], q ∈ f22 := fun q hq => os_block hv22 q (by rw [hg27]; exact hq)
    refine pl_skip (w' := w28) (ys_store rfl rfl (hst28 _ _ rfl Sz3)) ?_
    have h0 := h0.mut hC28 (fun g hg => hO.inM g (hG28 g hg)) (fun _ _ h => nomatch h)
    have hC := hC.step hC28 (fun g hg => hO.inN g (hG28 g hg))
    have hO := hO.grow hC28 (fun q hq => .inl ((hf28 q hq).resolve_right (fun h => nomatch h))) (os_nodup hv28) hv28.fpl
    refine c_nil ?_
    refine c_region ?_
    refine pl_val (.int .i64 k18) (y_move rfl) ?_
    refine pl_val (.int .i64 (w64 (k18 + 1))) (y_add rfl rfl) ?_
    refine pl_val (.int .i64 (w64 (k18 + 1))) (y_assign rfl) ?_
    refine c_nil ?_
    cases hs
    exact ⟨_, f28, fr_ovl 22 ⟨rfl, rfl, congrArg (Value.int .i64) hw, trivial⟩, hC, hO, h0, hv28⟩
  · skip
    exact ⟨_, f2, fr_ovl 22 ⟨rfl, rfl, rfl, trivial⟩, hC, hO, h0, hv2⟩
  · cases o20 with
    | nx _ => exact True.intro
    | rt r_ =>
      have hs := after_rt hs
      intro a1 w1 hK
      cases hs
      exact hK
    | br s16 =>
      have hs := after_br hs
      rintro a1 w17 ⟨σ, f23, rfl, hC, hO, h0, hv23⟩
      refine c_seq ?_
      refine c_region ?_
      refine pl_val (.slice a2 n2 c2) (y_move rfl) ?_
      refine pl_val (.slice a2 n2 c2) (y_assign rfl) ?_
      refine c_nil ?_
      refine wp_ret ?_
      cases hs
      exact ⟨_, a2, n2, c2, f23, fr_ovl 22 ⟨rfl, trivial⟩, hC, hv23, hO.top⟩

theorem Ag82 : AggT Try.prog 82 true := fun _ => by kernel_rfl

theorem Sz82 : SzT Try.prog 82 2 := ⟨_, rfl, rfl⟩

theorem Fa156x0 : ∀ (a : Addr) (w : World), (Instr.fieldAt 156 (.pointer (some a)) 0).run Try.prog w = .ok (.pointer (some (a.add 0))) w := fun _ _ => by kernel_rfl

theorem Fa82x0 : ∀ (a : Addr) (w : World), (Instr.fieldAt 82 (.pointer (some a)) 0).run Try.prog w = .ok (.pointer (some (a.add 0))) w := fun _ _ => by kernel_rfl

theorem Bd16 : Bodied Try.prog 16 := bodied Try.func16 (by kernel_rfl) rfl

theorem Fa82x1 : ∀ (a : Addr) (w : World), (Instr.fieldAt 82 (.pointer (some a)) 1).run Try.prog w = .ok (.pointer (some (a.add 1))) w := fun _ _ => by kernel_rfl

def k_laws_toOp (M : Nat → Prop) (w0 : World) (r : (Int × (List Int))) (a : Act) (w : World) : Prop :=
  ∃ (σ : Nat → Value) (rg2 : Nat) (ra0 : Option Addr) (rn0 rc0 : Nat) (rf0 : List Nat), a = fr 12 (ovl σ [(2, (.pointer (some ⟨rg2, 0, none⟩)))]) ∧ BoxV w rg2 82 [(.int .i64 r.1), (.slice ra0 rn0 rc0)] ∧ Chg [] w0 w ∧ (RT.os 3 (RT.int .i64)).val M w (.slice ra0 rn0 rc0) r.2 rf0 ∧ Own (Nw w0 []) (fun _ => True) w (rf0 ++ ([]))
def s_laws_toOp (a_ : Int × (List Int)) : Option ((Int × (List Int))) :=
  (s_laws_toIntS a_.2).bind fun r7 =>
  some (a_.1, r7)
set_option maxHeartbeats 4000000 in
theorem c_laws_toOp {M : Nat → Prop} {w : World} {pa0 : Option Addr} {pn0 pc0 : Nat} (a_ : Int × (List Int)) (h0 : (RT.rs (RT.int .i64)).val M w (.slice pa0 pn0 pc0) a_.2 ([])) (hM : ∀ g, w.heap.size ≤ g → M g) {r : (Int × (List Int))} (hs : s_laws_toOp a_ = some r) :
    Gives Try.prog 154 [(.agg #[(.int .i64 a_.1), (.slice pa0 pn0 pc0)])] w (fun v w' => ∃ (ra0 : Option Addr) (rn0 rc0 : Nat) (rf0 : List Nat), v = (.agg #[(.int .i64 r.1), (.slice ra0 rn0 rc0)]) ∧ Chg [] w w' ∧ (RT.os 3 (RT.int .i64)).val M w' (.slice ra0 rn0 rc0) r.2 rf0 ∧ Own (Nw w []) (fun _ => True) w' (rf0 ++ ([]))) := by
  refine calls_fr Try.func154 rfl Try.ntmps154 (Nat.le_of_ble_eq_true rfl) ?_
  have hO := Own.start (N := Nw w []) hM Nw.fut
  have hC := Chg.refl [] w
  unfold s_laws_toOp at hs
  refine wp_mono (Q := KPost (k_laws_toOp M w r)) ?_ (fun e a w1 h => ?_)
  rotate_left
  · cases e
    case ret =>
      obtain ⟨σ, rg2, ra0, rn0, rc0, rf0, rfl, hbrg2, hrest⟩ := h
      exact ret1x Try.results154 (res_cell rfl (box_load Ag82 Sz82 hbrg2 [] _ [] rfl rfl (fun h => nomatch h))) ⟨ra0, rn0, rc0, rf0, rfl, hrest⟩
    all_goals exact (h : False).elim
  refine c_seq ?_
  refine c_region ?_
  obtain ⟨w2, g2, ew2, eg2, hC2, hb2⟩ := new_block w [(.int .i64 a_.1), (.slice pa0 pn0 pc0)] 156
  refine pl_val (w' := w2) (.pointer (some ⟨g2, 0, none⟩)) (y_box rfl (by rw [ew2, eg2]; kernel_rfl)) ?_
  have h0 := h0.ext hC2
  have hC := hC.ext hC2
  have hO := hO.new (X' := [g2]) hC2 (fun q hq => by rw [List.mem_singleton.1 hq, eg2]; exact Nat.le_refl _) (List.nodup_cons.2 ⟨(fun h => nomatch h), List.nodup_nil⟩) (fun q hq => by rw [List.mem_singleton.1 hq]; exact hb2.lt)
  obtain ⟨w3, g3, ew3, eg3, hC3, hb3⟩ := new_block w2 [(.int .i64 0), (.slice none 0 0)] 82
  refine pl_val (w' := w3) (.pointer (some ⟨g3, 0, none⟩)) (y_alloc (by rw [ew3, eg3]; kernel_rfl)) ?_
  have h0 := h0.ext hC3
  have hb2 := hb2.chg hC3 (fun h => nomatch h)
  have hC := hC.ext hC3
  have hO := hO.new (X' := [g3]) hC3 (fun q hq => by rw [List.mem_singleton.1 hq, eg3]; exact Nat.le_refl _) (List.nodup_cons.2 ⟨(fun h => nomatch h), List.nodup_nil⟩) (fun q hq => by rw [List.mem_singleton.1 hq]; exact hb3.lt)
  refine c_nil ?_
  refine c_seq ?_
  refine c_region ?_
  obtain ⟨w4, g4, ew4, eg4, hC4, hb4⟩ := new_block w3 [(.int .i64 0), (.slice none 0 0)] 82
  refine pl_val (w' := w4) (.pointer (some ⟨g4, 0, none⟩)) (y_alloc (by rw [ew4, eg4]; kernel_rfl)) ?_
  have h0 := h0.ext hC4
  have hb2 := hb2.chg hC4 (fun h => nomatch h)
  have hb3 := hb3.chg hC4 (fun h => nomatch h)
  have hC := hC.ext hC4
  have hO := hO.new (X' := [g4]) hC4 (fun q hq => by rw [List.mem_singleton.1 hq, eg4]; exact Nat.le_refl _) (List.nodup_cons.2 ⟨(fun h => nomatch h), List.nodup_nil⟩) (fun q hq => by rw [List.mem_singleton.1 hq]; exact hb4.lt)
  refine c_nil ?_
  refine c_seq ?_
  refine c_region ?_
  refine pl_val (.pointer (some ⟨g2, 0, none⟩)) (y_faddr rfl Fa156x0) ?_
  refine pl_val (.int .i64 a_.1) (y_load rfl ((box_load Ag3 Sz3 hb2 [] [(.int .i64 a_.1)] [(.slice pa0 pn0 pc0)] rfl rfl (fun _ => rfl)) _ (Chg.refl _ _))) ?_
  refine pl_val (.pointer (some ⟨g4, 0, none⟩)) (y_faddr rfl Fa82x0) ?_
  obtain ⟨w5, hst5, hC5, hb5⟩ := box_store (P := Try.prog) hb4 [] [(.int .i64 0)] [(.slice none 0 0)] [(.int .i64 a_.1)] rfl rfl (by intro u hu; simp only [List.mem_cons, List.not_mem_nil, or_false] at hu; rcases hu with rfl <;> rfl)
  refine pl_skip (w' := w5) (ys_store rfl rfl (hst5 _ _ rfl Sz3)) ?_
  have h0 := h0.mut hC5 (fun g hg => hO.inM g ((fun _ h => h) g hg)) (fun _ _ h => nomatch h)
  have hb2 := hb2.chg hC5 (fun hg => hO.apart _ ((fun _ h => h) _ hg) (mem_r (mem_l (List.mem_singleton.2 rfl))))
  have hb3 := hb3.chg hC5 (fun hg => hO.apart _ ((fun _ h => h) _ hg) (mem_l (List.mem_singleton.2 rfl)))
  have hC := hC.step hC5 (fun g hg => hO.inN g ((fun _ h => h) g hg))
  have hO := hO.ext hC5
  have hb5 : BoxV w5 g4 82 [(.int .i64 a_.1), (.slice none 0 0)] := hb5
  refine c_nil ?_
  refine c_seq ?_
  refine c_region ?_
  refine pl_val (.pointer (some ⟨g2, 1, none⟩)) (y_faddr rfl Fa156x1) ?_
  refine pl_val (.slice pa0 pn0 pc0) (y_load rfl ((box_load Ag22 Sz22 hb2 [(.int .i64 a_.1)] [(.slice pa0 pn0 pc0)] [] rfl rfl (fun _ => rfl)) _ (Chg.refl _ _))) ?_
  obtain ⟨r7, hr7, hs⟩ := bind_some hs
  refine pl_call Bd16 rfl (c_laws_toIntS (M := M) a_.2 h0 hO.fut hr7) ?_
  rintro _ w6 ⟨a6x0, n6x0, c6x0, f6x0, rfl, hC6, hv6x0, hOc6⟩
  have h0 := h0.ext hC6
  have hb2 := hb2.chg hC6 (fun h => nomatch h)
  have hb3 := hb3.chg hC6 (fun h => nomatch h)
  have hb5 := hb5.chg hC6 (fun h => nomatch h)
  have hC := hC.ext hC6
  have hO := Own.join0 hO hC6 hOc6
  have hO := hO.perm (R := f6x0 ++ (([g4]) ++ (([g3]) ++ (([g2]) ++ ([]))))) (by simp)
  refine pl_val (.pointer (some ⟨g4, 1, none⟩)) (y_faddr rfl Fa82x1) ?_
  obtain ⟨w9, hst9, hC9, hb9⟩ := box_store (P := Try.prog) hb5 [(.int .i64 a_.1)] [(.slice none 0 0)] [] [(.slice a6x0 n6x0 c6x0)] rfl rfl (by intro u hu; simp only [List.mem_cons, List.not_mem_nil, or_false] at hu; rcases hu with rfl <;> rfl)
  refine pl_skip (w' := w9) (ys_store rfl rfl (hst9 _ _ rfl Sz22)) ?_
  have hO := hO.fr1
  have h0 := h0.mut hC9 (fun g hg => hO.inM g ((fun _ h => h) g hg)) (fun _ _ h => nomatch h)
  have hb2 := hb2.chg hC9 (fun hg => hO.apart _ ((fun _ h => h) _ hg) (mem_r (mem_r (mem_l (List.mem_singleton.2 rfl)))))
  have hb3 := hb3.chg hC9 (fun hg => hO.apart _ ((fun _ h => h) _ hg) (mem_r (mem_l (List.mem_singleton.2 rfl))))
  have hv6x0 := hv6x0.mut hC9 (fun g hg => hO.inM g ((fun _ h => h) g hg)) (fun g hg e => hO.apart g ((fun _ h => h) g hg) (mem_l (e)))
  have hC := hC.step hC9 (fun g hg => hO.inN g ((fun _ h => h) g hg))
  have hO := hO.ext hC9
  have hb9 : BoxV w9 g4 82 [(.int .i64 a_.1), (.slice a6x0 n6x0 c6x0)] := hb9
  refine c_nil ?_
  refine c_seq ?_
  refine c_region ?_
  refine pl_val (.agg #[(.int .i64 a_.1), (.slice a6x0 n6x0 c6x0)]) (y_load rfl ((box_load Ag82 Sz82 hb9 [] [(.int .i64 a_.1), (.slice a6x0 n6x0 c6x0)] [] rfl rfl (fun h => nomatch h)) _ (Chg.refl _ _))) ?_
  obtain ⟨w10, hst10, hC10, hb10⟩ := box_store (P := Try.prog) hb3 [] [(.int .i64 0), (.slice none 0 0)] [] [(.int .i64 a_.1), (.slice a6x0 n6x0 c6x0)] rfl rfl (by intro u hu; simp only [List.mem_cons, List.not_mem_nil, or_false] at hu; rcases hu with rfl | rfl <;> rfl)
  refine pl_skip (w' := w10) (ys_store rfl rfl (hst10 _ _ rfl Sz82)) ?_
  have hO := hO.fr2
  have hb2 := hb2.chg hC10 (fun hg => hO.apart _ ((fun _ h => h) _ hg) (mem_r (mem_r (mem_l (List.mem_singleton.2 rfl)))))
  have hb9 := hb9.chg hC10 (fun hg => hO.apart _ ((fun _ h => h) _ hg) (mem_l (List.mem_singleton.2 rfl)))
  have hv6x0 := hv6x0.mut hC10 (fun g hg => hO.inM g ((fun _ h => h) g hg)) (fun g hg e => hO.apart g ((fun _ h => h) g hg) (mem_r (mem_l (e))))
  have hC := hC.step hC10 (fun g hg => hO.inN g ((fun _ h => h) g hg))
  have hO := hO.ext hC10
  have hb10 : BoxV w10 g3 82 [(.int .i64 a_.1), (.slice a6x0 n6x0 c6x0)] := hb10
  refine c_nil ?_
  refine wp_ret ?_
  cases hs
  have hO := hO.drop
  have hO := hO.drop
  have hO := hO.fr1
  have hO := hO.drop
  exact ⟨_, g3, a6x0, n6x0, c6x0, f6x0, fr_ovl 12 ⟨rfl, trivial⟩, hb10, hC, hv6x0, hO.top⟩

theorem Rw60 : RowT Try.prog 60 82 2 [(.int .i64 0), (.slice none 0 0)] := ⟨Try.underlying60, ⟨_, _, rfl, rfl, rfl, rfl, by decide⟩, rfl, by decide⟩

theorem Bd154 : Bodied Try.prog 154 := bodied Try.func154 (by kernel_rfl) rfl

theorem Sl60 : SlT Try.prog 60 82 := Try.underlying60

def k_laws_toOpS (M : Nat → Prop) (w0 : World) (r : (List (Int × (List Int)))) (a : Act) (w : World) : Prop :=
  ∃ (σ : Nat → Value) (ra0 : Option Addr) (rn0 rc0 : Nat) (rf0 : List Nat), a = fr 23 (ovl σ [(2, (.slice ra0 rn0 rc0))]) ∧ Chg [] w0 w ∧ (RT.os 82 (RT.pr (RT.int .i64) (RT.os 3 (RT.int .i64)))).val M w (.slice ra0 rn0 rc0) r rf0 ∧ Own (Nw w0 []) (fun _ => True) w (rf0 ++ ([]))
def s_laws_toOpS (a_ : List (Int × (List Int))) : Option ((List (Int × (List Int)))) :=
  (mks (a_.length : Int) ((0, []) : Int × (List Int))).bind fun y3 =>
  (forC (S := (List (Int × (List Int)))) (R := (List (Int × (List Int)))) (fun k28 s26 =>
  (idx a_ k28).bind fun x34 =>
  (s_laws_toOp (x34.1, x34.2)).bind fun r39 =>
  (idx s26 k28).bind fun x41 =>
  some (.nx (List.set s26 (Int.toNat k28) (r39.1, r39.2)))) 0 (a_.length : Int) y3).bind fun o30 => after o30 (fun r_ => some r_) (fun s26 =>
  some s26)
set_option maxHeartbeats 4000000 in
theorem c_laws_toOpS {M : Nat → Prop} {w : World} {pa0 : Option Addr} {pn0 pc0 : Nat} (a_ : List (Int × (List Int))) (h0 : (RT.rs (RT.pr (RT.int .i64) (RT.rs (RT.int .i64)))).val M w (.slice pa0 pn0 pc0) a_ ([])) (hM : ∀ g, w.heap.size ≤ g → M g) {r : (List (Int × (List Int)))} (hs : s_laws_toOpS a_ = some r) :
    Gives Try.prog 97 [(.slice pa0 pn0 pc0)] w (fun v w' => ∃ (ra0 : Option Addr) (rn0 rc0 : Nat) (rf0 : List Nat), v = (.slice ra0 rn0 rc0) ∧ Chg [] w w' ∧ (RT.os 82 (RT.pr (RT.int .i64) (RT.os 3 (RT.int .i64)))).val M w' (.slice ra0 rn0 rc0) r rf0 ∧ Own (Nw w []) (fun _ => True) w' (rf0 ++ ([]))) := by
  refine calls_fr Try.func97 rfl Try.ntmps97 (Nat.le_of_ble_eq_true rfl) ?_
  have hO := Own.start (N := Nw w []) hM Nw.fut
  have hC := Chg.refl [] w
  unfold s_laws_toOpS at hs
  refine wp_mono (Q := KPost (k_laws_toOpS M w r)) ?_ (fun e a w1 h => ?_)
  rotate_left
  · cases e
    case ret =>
      obtain ⟨σ, ra0, rn0, rc0, rf0, rfl, hrest⟩ := h
      exact ret1x Try.results97 (res_tmp rfl) ⟨ra0, rn0, rc0, rf0, rfl, hrest⟩
    all_goals exact (h : False).elim
  refine c_seq ?_
  refine c_region ?_
  refine pl_val (.slice none 0 0) (y_assign rfl) ?_
  refine c_nil ?_
  refine c_seq ?_
  refine c_region ?_
  refine pl_val (.slice pa0 pn0 pc0) (y_move rfl) ?_
  refine pl_val (.int .i64 (a_.length : Int)) (y_len' Sl53 (rs_len h0) rfl) ?_
  obtain ⟨y3, hy3, hs⟩ := bind_some hs
  obtain ⟨a2, n2, c2, w2, f2, hm2, hC2, hfr2, hv2⟩ := mk_os (M := M) (w := w) (r := (RT.pr (RT.int .i64) (RT.os 3 (RT.int .i64)))) Rw60 hy3 (fun _ _ => ⟨_, _, [], [], rfl, rfl, ⟨rfl, rfl⟩, (os_unval os_nil)⟩)
  refine pl_val (w' := w2) (.slice a2 n2 c2) (y_make rfl rfl hm2) ?_
  have h0 := h0.ext hC2
  have hC := hC.ext hC2
  have hO := hO.new hC2 hfr2 (os_nodup hv2) hv2.fpl
  refine pl_val (.slice a2 n2 c2) (y_assign rfl) ?_
  refine c_nil ?_
  refine c_seq ?_
  refine c_seq ?_
  refine c_region ?_
  refine pl_val (.int .i64 0) (y_assign rfl) ?_
  refine c_nil ?_
  obtain ⟨o30, hl31, hs⟩ := bind_some hs
  refine wp_block ?_
  refine wp_forC (id := 0) (a_.length : Int) (I := fun k28 s26 a w27 => ∃ (σ : Nat → Value) (f32 : List Nat), a = fr 23 (ovl σ [(0, (.slice pa0 pn0 pc0)), (3, (.slice a2 n2 c2)), (4, (.int .i64 k28))]) ∧ Chg [] w w27 ∧ Own (Nw w []) M w27 (f32 ++ []) ∧ (RT.rs (RT.pr (RT.int .i64) (RT.rs (RT.int .i64)))).val M w27 (.slice pa0 pn0 pc0) a_ ([]) ∧ (RT.os 82 (RT.pr (RT.int .i64) (RT.os 3 (RT.int .i64)))).val M w27 (.slice a2 n2 c2) s26 f32) (J := fun s26 a w27 => ∃ (σ : Nat → Value) (f33 : List Nat), a = fr 23 (ovl σ [(3, (.slice a2 n2 c2))]) ∧ Chg [] w w27 ∧ Own (Nw w []) M w27 (f33 ++ []) ∧ (RT.rs (RT.pr (RT.int .i64) (RT.rs (RT.int .i64)))).val M w27 (.slice pa0 pn0 pc0) a_ ([]) ∧ (RT.os 82 (RT.pr (RT.int .i64) (RT.os 3 (RT.int .i64)))).val M w27 (.slice a2 n2 c2) s26 f33) (K := (k_laws_toOpS M w)) ?_ ?_ 0 y3 o30 _ _ ?_ hl31 ?_
  · rintro k28 s26 a w27 ⟨σ, f32, rfl, hC, hO, h0, hv32⟩ hlt
    refine c_seq ?_
    refine c_seq ?_
    refine c_region ?_
    refine pl_val (.int .i64 k28) (y_move rfl) ?_
    refine pl_val (.slice pa0 pn0 pc0) (y_move rfl) ?_
    refine pl_val (.int .i64 (a_.length : Int)) (y_len' Sl53 (rs_len h0) rfl) ?_
    refine pl_val (.bool (decide (k28 < (a_.length : Int)))) (y_lss rfl rfl) ?_
    refine c_nil ?_
    refine c_condF (congrArg Value.bool (decide_eq_false hlt)) ?_
    refine wp_exit ?_
    exact ⟨rfl, _, f32, fr_ovl 23 ⟨rfl, trivial⟩, hC, hO, h0, hv32⟩
  · rintro k28 s26 o30 a w27 ⟨σ, f32, rfl, hC, hO, h0, hv32⟩ hlt hw hs
    refine c_seq ?_
    refine c_seq ?_
    refine c_region ?_
    refine pl_val (.int .i64 k28) (y_move rfl) ?_
    refine pl_val (.slice pa0 pn0 pc0) (y_move rfl) ?_
    refine pl_val (.int .i64 (a_.length : Int)) (y_len' Sl53 (rs_len h0) rfl) ?_
    refine pl_val (.bool (decide (k28 < (a_.length : Int)))) (y_lss rfl rfl) ?_
    refine c_nil ?_
    refine c_condT (congrArg Value.bool (decide_eq_true hlt)) ?_
    refine wp_skip ?_
    refine c_seq ?_
    refine wp_block ?_
    refine c_region ?_
    refine pl_val (.slice a2 n2 c2) (y_move rfl) ?_
    refine pl_val (.int .i64 k28) (y_move rfl) ?_
    refine pl_val (.slice pa0 pn0 pc0) (y_move rfl) ?_
    refine pl_val (.int .i64 k28) (y_move rfl) ?_
    obtain ⟨x34, hx34, hs⟩ := bind_some hs
    obtain ⟨b35, o35, hp35, ha35⟩ := rs_idx Sl53 Sz156 h0 hx34
    refine pl_val (.pointer (some ⟨b35, o35, none⟩)) (hp35 _ _ _ _ _ _ _ _ _ rfl rfl) ?_
    obtain ⟨v36, hl36, hv36⟩ := at_load Ag156 Sz156 (by intro h; cases h) ha35
    obtain ⟨cs36, rfl, hr36⟩ := hv36
    obtain ⟨cc36x1, cd36x1, rfl, hh36x1, ht36x1⟩ := pr_open hr36
    obtain rfl := int_rel hh36x1
    obtain ⟨a36x2, n36x2, c36x2, rfl, hv36x2⟩ := rs_rel ht36x1
    refine pl_val (.agg #[(.int .i64 x34.1), (.slice a36x2 n36x2 c36x2)]) (y_load rfl (hl36 _ (Chg.refl _ _))) ?_
    obtain ⟨r39, hr39, hs⟩ := bind_some hs
    refine pl_call Bd154 rfl (c_laws_toOp (M := M) (x34.1, x34.2) hv36x2 hO.fut hr39) ?_
    rintro _ w38 ⟨a38x0, n38x0, c38x0, f38x0, rfl, hC38, hv38x0, hOc38⟩
    have h0 := h0.ext hC38
    have hv32 := hv32.ext hC38
    have hv36x2 := hv36x2.ext hC38
    have hC := hC.ext hC38
    have hO := Own.join0 hO hC38 hOc38
    have hO := hO.perm (R := f38x0 ++ (f32 ++ ([]))) (by simp)
    obtain ⟨x41, hx41, hs⟩ := bind_some hs
    obtain ⟨g42, f42, hg42, hk42, hp42, ha42, hf42⟩ := os_idx Sl60 Sz82 hv32 hx41
    have hb42 := own_row (Frz.pr Frz.int (Frz.os Frz.int)) ha42 hf42
    refine pl_val (.pointer (some ⟨g42, 0 + Int.toNat k28 * 2, none⟩)) (hp42 _ _ _ _ _ _ _ _ _ rfl rfl) ?_
    have hO := hO.fr1
    obtain ⟨w43, f43, hst43, hC43, hf43, hv43⟩ := os_store (P := Try.prog) (c' := [(.int .i64 r39.1), (.slice a38x0 n38x0 c38x0)]) hg42 hv32 hk42 (fun g hg => hO.inM g (os_block hv32 g (by simpa using hg))) ⟨_, _, _, _, rfl, rfl, ⟨rfl, rfl⟩, (os_unval hv38x0)⟩ (hO.drop.perm (R := (([] : List Nat) ++ f38x0) ++ ([])) (by simp)).nd (fun g hg hq => hO.apart g hq (by simp only [List.mem_append, List.not_mem_nil, false_or, or_false] at hg ⊢; simp [hg])) (fun _ h => .inl h)
    have hG43 : ∀ q ∈ [g42], q ∈ f32 := fun q hq => os_block hv32 q (by rw [hg42]; exact hq)
    refine pl_skip (w' := w43) (ys_store rfl rfl (hst43 _ _ rfl Sz82)) ?_
    have hO := hO.fr1
    have hO := hO.fr1
    have h0 := h0.mut hC43 (fun g hg => hO.inM g (hG43 g hg)) (fun _ _ h => nomatch h)
    have hv36x2 := hv36x2.mut hC43 (fun g hg => hO.inM g (hG43 g hg)) (fun _ _ h => nomatch h)
    have hC := hC.step hC43 (fun g hg => hO.inN g (hG43 g hg))
    have hO := hO.perm (R := f32 ++ ((([] : List Nat) ++ f38x0) ++ ([]))) (by simp)
    have hO := hO.eat hC43 (fun q hq => (hf43 q hq).elim .inl (fun h => .inr (.inl h))) (os_nodup hv43) hv43.fpl
    refine c_nil ?_
    refine c_region ?_
    refine pl_val (.int .i64 k28) (y_move rfl) ?_
    refine pl_val (.int .i64 (w64 (k28 + 1))) (y_add rfl rfl) ?_
    refine pl_val (.int .i64 (w64 (k28 + 1))) (y_assign rfl) ?_
    refine c_nil ?_
    cases hs
    exact ⟨_, f43, fr_ovl 23 ⟨rfl, rfl, congrArg (Value.int .i64) hw, trivial⟩, hC, hO, h0, hv43⟩
  · skip
    exact ⟨_, f2, fr_ovl 23 ⟨rfl, rfl, rfl, trivial⟩, hC, hO, h0, hv2⟩
  · cases o30 with
    | nx _ => exact True.intro
    | rt r_ =>
      have hs := after_rt hs
      intro a1 w1 hK
      cases hs
      exact hK
    | br s26 =>
      have hs := after_br hs
      rintro a1 w27 ⟨σ, f33, rfl, hC, hO, h0, hv33⟩
      refine c_seq ?_
      refine c_region ?_
      refine pl_val (.slice a2 n2 c2) (y_move rfl) ?_
      refine pl_val (.slice a2 n2 c2) (y_assign rfl) ?_
      refine c_nil ?_
      refine wp_ret ?_
      cases hs
      exact ⟨_, a2, n2, c2, f33, fr_ovl 23 ⟨rfl, trivial⟩, hC, hv33, hO.top⟩

theorem Ag62 : AggT Try.prog 62 true := fun _ => by kernel_rfl

theorem Sz62 : SzT Try.prog 62 2 := ⟨_, rfl, rfl⟩

theorem Fa55x0 : ∀ (a : Addr) (w : World), (Instr.fieldAt 55 (.pointer (some a)) 0).run Try.prog w = .ok (.pointer (some (a.add 0))) w := fun _ _ => by kernel_rfl

theorem Fa62x0 : ∀ (a : Addr) (w : World), (Instr.fieldAt 62 (.pointer (some a)) 0).run Try.prog w = .ok (.pointer (some (a.add 0))) w := fun _ _ => by kernel_rfl

theorem Bd97 : Bodied Try.prog 97 := bodied Try.func97 (by kernel_rfl) rfl

theorem Fa62x1 : ∀ (a : Addr) (w : World), (Instr.fieldAt 62 (.pointer (some a)) 1).run Try.prog w = .ok (.pointer (some (a.add 1))) w := fun _ _ => by kernel_rfl

theorem Sz60 : SzT Try.prog 60 1 := ⟨_, rfl, rfl⟩

def k_laws_toAlgebra (M : Nat → Prop) (w0 : World) (r : (Int × (List (Int × (List Int))))) (a : Act) (w : World) : Prop :=
  ∃ (σ : Nat → Value) (rg2 : Nat) (ra0 : Option Addr) (rn0 rc0 : Nat) (rf0 : List Nat), a = fr 12 (ovl σ [(2, (.pointer (some ⟨rg2, 0, none⟩)))]) ∧ BoxV w rg2 62 [(.int .i64 r.1), (.slice ra0 rn0 rc0)] ∧ Chg [] w0 w ∧ (RT.os 82 (RT.pr (RT.int .i64) (RT.os 3 (RT.int .i64)))).val M w (.slice ra0 rn0 rc0) r.2 rf0 ∧ Own (Nw w0 []) (fun _ => True) w (rf0 ++ ([]))
def s_laws_toAlgebra (a_ : Int × (List (Int × (List Int)))) : Option ((Int × (List (Int × (List Int))))) :=
  (s_laws_toOpS a_.2).bind fun r7 =>
  some (a_.1, r7)
set_option maxHeartbeats 4000000 in
theorem c_laws_toAlgebra {M : Nat → Prop} {w : World} {pa0 : Option Addr} {pn0 pc0 : Nat} (a_ : Int × (List (Int × (List Int)))) (h0 : (RT.rs (RT.pr (RT.int .i64) (RT.rs (RT.int .i64)))).val M w (.slice pa0 pn0 pc0) a_.2 ([])) (hM : ∀ g, w.heap.size ≤ g → M g) {r : (Int × (List (Int × (List Int))))} (hs : s_laws_toAlgebra a_ = some r) :
    Gives Try.prog 37 [(.agg #[(.int .i64 a_.1), (.slice pa0 pn0 pc0)])] w (fun v w' => ∃ (ra0 : Option Addr) (rn0 rc0 : Nat) (rf0 : List Nat), v = (.agg #[(.int .i64 r.1), (.slice ra0 rn0 rc0)]) ∧ Chg [] w w' ∧ (RT.os 82 (RT.pr (RT.int .i64) (RT.os 3 (RT.int .i64)))).val M w' (.slice ra0 rn0 rc0) r.2 rf0 ∧ Own (Nw w []) (fun _ => True) w' (rf0 ++ ([]))) := by
  refine calls_fr Try.func37 rfl Try.ntmps37 (Nat.le_of_ble_eq_true rfl) ?_
  have hO := Own.start (N := Nw w []) hM Nw.fut
  have hC := Chg.refl [] w
  unfold s_laws_toAlgebra at hs
  refine wp_mono (Q := KPost (k_laws_toAlgebra M w r)) ?_ (fun e a w1 h => ?_)
  rotate_left
  · cases e
    case ret =>
      obtain ⟨σ, rg2, ra0, rn0, rc0, rf0, rfl, hbrg2, hrest⟩ := h
      exact ret1x Try.results37 (res_cell rfl (box_load Ag62 Sz62 hbrg2 [] _ [] rfl rfl (fun h => nomatch h))) ⟨ra0, rn0, rc0, rf0, rfl, hrest⟩
    all_goals exact (h : False).elim
  refine c_seq ?_
  refine c_region ?_
  obtain ⟨w2, g2, ew2, eg2, hC2, hb2⟩ := new_block w [(.int .i64 a_.1), (.slice pa0 pn0 pc0)] 55
  refine pl_val (w' := w2) (.pointer (some ⟨g2, 0, none⟩)) (y_box rfl (by rw [ew2, eg2]; kernel_rfl)) ?_
  have h0 := h0.ext hC2
  have hC := hC.ext hC2
  have hO := hO.new (X' := [g2]) hC2 (fun q hq => by rw [List.mem_singleton.1 hq, eg2]; exact Nat.le_refl _) (List.nodup_cons.2 ⟨(fun h => nomatch h), List.nodup_nil⟩) (fun q hq => by rw [List.mem_singleton.1 hq]; exact hb2.lt)
  obtain ⟨w3, g3, ew3, eg3, hC3, hb3⟩ := new_block w2 [(.int .i64 0), (.slice none 0 0)] 62
  refine pl_val (w' := w3) (.pointer (some ⟨g3, 0, none⟩)) (y_alloc (by rw [ew3, eg3]; kernel_rfl)) ?_
  have h0 := h0.ext hC3
  have hb2 := hb2.chg hC3 (fun h => nomatch h)
  have hC := hC.ext hC3
  have hO := hO.new (X' := [g3]) hC3 (fun q hq => by rw [List.mem_singleton.1 hq, eg3]; exact Nat.le_refl _) (List.nodup_cons.2 ⟨(fun h => nomatch h), List.nodup_nil⟩) (fun q hq => by rw [List.mem_singleton.1 hq]; exact hb3.lt)
  refine c_nil ?_
  refine c_seq ?_
  refine c_region ?_
  obtain ⟨w4, g4, ew4, eg4, hC4, hb4⟩ := new_block w3 [(.int .i64 0), (.slice none 0 0)] 62
  refine pl_val (w' := w4) (.pointer (some ⟨g4, 0, none⟩)) (y_alloc (by rw [ew4, eg4]; kernel_rfl)) ?_
  have h0 := h0.ext hC4
  have hb2 := hb2.chg hC4 (fun h => nomatch h)
  have hb3 := hb3.chg hC4 (fun h => nomatch h)
  have hC := hC.ext hC4
  have hO := hO.new (X' := [g4]) hC4 (fun q hq => by rw [List.mem_singleton.1 hq, eg4]; exact Nat.le_refl _) (List.nodup_cons.2 ⟨(fun h => nomatch h), List.nodup_nil⟩) (fun q hq => by rw [List.mem_singleton.1 hq]; exact hb4.lt)
  refine c_nil ?_
  refine c_seq ?_
  refine c_region ?_
  refine pl_val (.pointer (some ⟨g2, 0, none⟩)) (y_faddr rfl Fa55x0) ?_
  refine pl_val (.int .i64 a_.1) (y_load rfl ((box_load Ag3 Sz3 hb2 [] [(.int .i64 a_.1)] [(.slice pa0 pn0 pc0)] rfl rfl (fun _ => rfl)) _ (Chg.refl _ _))) ?_
  refine pl_val (.pointer (some ⟨g4, 0, none⟩)) (y_faddr rfl Fa62x0) ?_
  obtain ⟨w5, hst5, hC5, hb5⟩ := box_store (P := Try.prog) hb4 [] [(.int .i64 0)] [(.slice none 0 0)] [(.int .i64 a_.1)] rfl rfl (by intro u hu; simp only [List.mem_cons, List.not_mem_nil, or_false] at hu; rcases hu with rfl <;> rfl)
  refine pl_skip (w' := w5) (ys_store rfl rfl (hst5 _ _ rfl Sz3)) ?_
  have h0 := h0.mut hC5 (fun g hg => hO.inM g ((fun _ h => h) g hg)) (fun _ _ h => nomatch h)
  have hb2 := hb2.chg hC5 (fun hg => hO.apart _ ((fun _ h => h) _ hg) (mem_r (mem_l (List.mem_singleton.2 rfl))))
  have hb3 := hb3.chg hC5 (fun hg => hO.apart _ ((fun _ h => h) _ hg) (mem_l (List.mem_singleton.2 rfl)))
  have hC := hC.step hC5 (fun g hg => hO.inN g ((fun _ h => h) g hg))
  have hO := hO.ext hC5
  have hb5 : BoxV w5 g4 62 [(.int .i64 a_.1), (.slice none 0 0)] := hb5
  refine c_nil ?_
  refine c_seq ?_
  refine c_region ?_
  refine pl_val (.pointer (some ⟨g2, 1, none⟩)) (y_faddr rfl Fa55x1) ?_
  refine pl_val (.slice pa0 pn0 pc0) (y_load rfl ((box_load Ag53 Sz53 hb2 [(.int .i64 a_.1)] [(.slice pa0 pn0 pc0)] [] rfl rfl (fun _ => rfl)) _ (Chg.refl _ _))) ?_
  obtain ⟨r7, hr7, hs⟩ := bind_some hs
  refine pl_call Bd97 rfl (c_laws_toOpS (M := M) a_.2 h0 hO.fut hr7) ?_
  rintro _ w6 ⟨a6x0, n6x0, c6x0, f6x0, rfl, hC6, hv6x0, hOc6⟩
  have h0 := h0.ext hC6
  have hb2 := hb2.chg hC6 (fun h => nomatch h)
  have hb3 := hb3.chg hC6 (fun h => nomatch h)
  have hb5 := hb5.chg hC6 (fun h => nomatch h)
  have hC := hC.ext hC6
  have hO := Own.join0 hO hC6 hOc6
  have hO := hO.perm (R := f6x0 ++ (([g4]) ++ (([g3]) ++ (([g2]) ++ ([]))))) (by simp)
  refine pl_val (.pointer (some ⟨g4, 1, none⟩)) (y_faddr rfl Fa62x1) ?_
  obtain ⟨w9, hst9, hC9, hb9⟩ := box_store (P := Try.prog) hb5 [(.int .i64 a_.1)] [(.slice none 0 0)] [] [(.slice a6x0 n6x0 c6x0)] rfl rfl (by intro u hu; simp only [List.mem_cons, List.not_mem_nil, or_false] at hu; rcases hu with rfl <;> rfl)
  refine pl_skip (w' := w9) (ys_store rfl rfl (hst9 _ _ rfl Sz60)) ?_
  have hO := hO.fr1
  have h0 := h0.mut hC9 (fun g hg => hO.inM g ((fun _ h => h) g hg)) (fun _ _ h => nomatch h)
  have hb2 := hb2.chg hC9 (fun hg => hO.apart _ ((fun _ h => h) _ hg) (mem_r (mem_r (mem_l (List.mem_singleton.2 rfl)))))
  have hb3 := hb3.chg hC9 (fun hg => hO.apart _ ((fun _ h => h) _ hg) (mem_r (mem_l (List.mem_singleton.2 rfl))))
  have hv6x0 := hv6x0.mut hC9 (fun g hg => hO.inM g ((fun _ h => h) g hg)) (fun g hg e => hO.apart g ((fun _ h => h) g hg) (mem_l (e)))
  have hC := hC.step hC9 (fun g hg => hO.inN g ((fun _ h => h) g hg))
  have hO := hO.ext hC9
  have hb9 : BoxV w9 g4 62 [(.int .i64 a_.1), (.slice a6x0 n6x0 c6x0)] := hb9
  refine c_nil ?_
  refine c_seq ?_
  refine c_region ?_
  refine pl_val (.agg #[(.int .i64 a_.1), (.slice a6x0 n6x0 c6x0)]) (y_load rfl ((box_load Ag62 Sz62 hb9 [] [(.int .i64 a_.1), (.slice a6x0 n6x0 c6x0)] [] rfl rfl (fun h => nomatch h)) _ (Chg.refl _ _))) ?_
  obtain ⟨w10, hst10, hC10, hb10⟩ := box_store (P := Try.prog) hb3 [] [(.int .i64 0), (.slice none 0 0)] [] [(.int .i64 a_.1), (.slice a6x0 n6x0 c6x0)] rfl rfl (by intro u hu; simp only [List.mem_cons, List.not_mem_nil, or_false] at hu; rcases hu with rfl | rfl <;> rfl)
  refine pl_skip (w' := w10) (ys_store rfl rfl (hst10 _ _ rfl Sz62)) ?_
  have hO := hO.fr2
  have hb2 := hb2.chg hC10 (fun hg => hO.apart _ ((fun _ h => h) _ hg) (mem_r (mem_r (mem_l (List.mem_singleton.2 rfl)))))
  have hb9 := hb9.chg hC10 (fun hg => hO.apart _ ((fun _ h => h) _ hg) (mem_l (List.mem_singleton.2 rfl)))
  have hv6x0 := hv6x0.mut hC10 (fun g hg => hO.inM g ((fun _ h => h) g hg)) (fun g hg e => hO.apart g ((fun _ h => h) g hg) (mem_r (mem_l (e))))
  have hC := hC.step hC10 (fun g hg => hO.inN g ((fun _ h => h) g hg))
  have hO := hO.ext hC10
  have hb10 : BoxV w10 g3 62 [(.int .i64 a_.1), (.slice a6x0 n6x0 c6x0)] := hb10
  refine c_nil ?_
  refine wp_ret ?_
  cases hs
  have hO := hO.drop
  have hO := hO.drop
  have hO := hO.fr1
  have hO := hO.drop
  exact ⟨_, g3, a6x0, n6x0, c6x0, f6x0, fr_ovl 12 ⟨rfl, trivial⟩, hb10, hC, hv6x0, hO.top⟩

def k_spec_l1In (M : Nat → Prop) (w0 : World) (r : Bool) (a : Act) (w : World) : Prop :=
  ∃ (σ : Nat → Value) , a = fr 15 (ovl σ [(6, (.bool r))]) ∧ Chg [] w0 w
def s_spec_l1In (x_ : Int) (a_ : Int) (b : Int) : Option (Bool) :=
  (bif (decide (a_ ≤ x_)) then some (decide (x_ ≤ b)) else some false)
set_option maxHeartbeats 4000000 in
theorem c_spec_l1In {M : Nat → Prop} {w : World}  (x_ : Int) (a_ : Int) (b : Int)  (hM : ∀ g, w.heap.size ≤ g → M g) {r : Bool} (hs : s_spec_l1In x_ a_ b = some r) :
    Gives Try.prog 137 [(.int .i64 x_), (.int .i64 a_), (.int .i64 b)] w (fun v w' => v = (.bool r) ∧ Chg [] w w') := by
  refine calls_fr Try.func137 rfl Try.ntmps137 (Nat.le_of_ble_eq_true rfl) ?_
  have hO := Own.start (N := Nw w []) hM Nw.fut
  have hC := Chg.refl [] w
  unfold s_spec_l1In at hs
  refine wp_mono (Q := KPost (k_spec_l1In M w r)) ?_ (fun e a w1 h => ?_)
  rotate_left
  · cases e
    case ret =>
      obtain ⟨σ, rfl, hrest⟩ := h
      exact ret1x Try.results137 (res_tmp rfl) ⟨rfl, hrest⟩
    all_goals exact (h : False).elim
  refine c_seq ?_
  refine c_region ?_
  refine pl_val (.bool false) (y_assign rfl) ?_
  refine c_nil ?_
  refine c_seq ?_
  refine c_region ?_
  refine pl_val (.int .i64 x_) (y_move rfl) ?_
  refine pl_val (.int .i64 a_) (y_move rfl) ?_
  refine pl_val (.bool (decide (a_ ≤ x_))) (y_geq rfl rfl) ?_
  refine pl_val (.bool (decide (a_ ≤ x_))) (y_move rfl) ?_
  rcases bif_some hs with ⟨hc1, hs⟩ | ⟨hc1, hs⟩
  · skip
    refine pl_yes (.int .i64 x_) (tg := 10) (by kernel_rfl) (congrArg Value.bool hc1) (y_move rfl) ?_
    refine pl_yes (.int .i64 b) (tg := 10) (by kernel_rfl) (congrArg Value.bool hc1) (y_move rfl) ?_
    refine pl_yes (.bool (decide (x_ ≤ b))) (tg := 10) (by kernel_rfl) (congrArg Value.bool hc1) (y_leq rfl rfl) ?_
    refine pl_val (.bool (decide (x_ ≤ b))) (y_pick_t (congrArg Value.bool hc1) rfl) ?_
    refine pl_val (.bool (decide (x_ ≤ b))) (y_assign rfl) ?_
    refine c_nil ?_
    refine wp_ret ?_
    cases hs
    exact ⟨_, fr_ovl 15 ⟨rfl, trivial⟩, hC⟩
  · skip
    refine pl_not (tg := 10) (by kernel_rfl) (congrArg Value.bool hc1) ?_
    refine pl_not (tg := 10) (by kernel_rfl) (congrArg Value.bool hc1) ?_
    refine pl_not (tg := 10) (by kernel_rfl) (congrArg Value.bool hc1) ?_
    refine pl_val (.bool false) (y_pick_f (congrArg Value.bool hc1) rfl) ?_
    refine pl_val (.bool false) (y_assign rfl) ?_
    refine c_nil ?_
    refine wp_ret ?_
    cases hs
    exact ⟨_, fr_ovl 15 ⟨rfl, trivial⟩, hC⟩

def k_spec_l2Pow (M : Nat → Prop) (w0 : World) (r : Int) (a : Act) (w : World) : Prop :=
  ∃ (σ : Nat → Value) , a = fr 14 (ovl σ [(4, (.int .i64 r))]) ∧ Chg [] w0 w
def s_spec_l2Pow (n : Int) (k : Int) : Option (Int) :=
  (iter (S := Int × Int) (R := Int) (fun s2 =>
  (bif (decide (0 < s2.1)) then some (.nx (w64 (s2.1 - 1), w64 (s2.2 * n))) else some (.br (s2.1, s2.2)))) FU (k, 1)).bind fun o6 => after o6 (fun r_ => some r_) (fun s2 =>
  some s2.2)
set_option maxHeartbeats 4000000 in
theorem c_spec_l2Pow {M : Nat → Prop} {w : World}  (n : Int) (k : Int)  (hM : ∀ g, w.heap.size ≤ g → M g) {r : Int} (hs : s_spec_l2Pow n k = some r) :
    Gives Try.prog 178 [(.int .i64 n), (.int .i64 k)] w (fun v w' => v = (.int .i64 r) ∧ Chg [] w w') := by
  refine calls_fr Try.func178 rfl Try.ntmps178 (Nat.le_of_ble_eq_true rfl) ?_
  have hO := Own.start (N := Nw w []) hM Nw.fut
  have hC := Chg.refl [] w
  unfold s_spec_l2Pow at hs
  refine wp_mono (Q := KPost (k_spec_l2Pow M w r)) ?_ (fun e a w1 h => ?_)
  rotate_left
  · cases e
    case ret =>
      obtain ⟨σ, rfl, hrest⟩ := h
      exact ret1x Try.results178 (res_tmp rfl) ⟨rfl, hrest⟩
    all_goals exact (h : False).elim
  refine c_seq ?_
  refine c_region ?_
  refine pl_val (.int .i64 0) (y_assign rfl) ?_
  refine c_nil ?_
  refine c_seq ?_
  refine c_region ?_
  refine pl_val (.int .i64 1) (y_assign rfl) ?_
  refine c_nil ?_
  refine c_seq ?_
  obtain ⟨o6, hl7, hs⟩ := bind_some hs
  refine wp_block ?_
  refine wp_iter (id := 0) (I := fun s2 a w3 => ∃ (σ : Nat → Value), a = fr 14 (ovl σ [(0, (.int .i64 n)), (1, (.int .i64 s2.1)), (5, (.int .i64 s2.2))]) ∧ Chg [] w w3 ∧ Own (Nw w []) M w3 ([])) (J := fun s2 a w3 => ∃ (σ : Nat → Value), a = fr 14 (ovl σ [(5, (.int .i64 s2.2))]) ∧ Chg [] w w3 ∧ Own (Nw w []) M w3 ([])) (K := (k_spec_l2Pow M w)) ?_ FU (k, 1) o6 _ _ ?_ hl7 ?_
  · rintro s2 o6 a w3 ⟨σ, rfl, hC, hO⟩ hs
    refine c_seq ?_
    refine c_seq ?_
    refine c_region ?_
    refine pl_val (.int .i64 s2.1) (y_move rfl) ?_
    refine pl_val (.bool (decide (0 < s2.1))) (y_gtr rfl rfl) ?_
    refine c_nil ?_
    rcases bif_some hs with ⟨hc8, hs⟩ | ⟨hc8, hs⟩
    · skip
      refine c_condT (congrArg Value.bool hc8) ?_
      refine wp_skip ?_
      refine c_seq ?_
      refine wp_block ?_
      refine c_region ?_
      refine pl_val (.int .i64 s2.2) (y_move rfl) ?_
      refine pl_val (.int .i64 n) (y_move rfl) ?_
      refine pl_val (.int .i64 (w64 (s2.2 * n))) (y_mul rfl rfl) ?_
      refine pl_val (.int .i64 (w64 (s2.2 * n))) (y_assign rfl) ?_
      refine c_nil ?_
      refine c_region ?_
      refine pl_val (.int .i64 s2.1) (y_move rfl) ?_
      refine pl_val (.int .i64 (w64 (s2.1 - 1))) (y_sub rfl rfl) ?_
      refine pl_val (.int .i64 (w64 (s2.1 - 1))) (y_assign rfl) ?_
      refine c_nil ?_
      cases hs
      exact ⟨_, fr_ovl 14 ⟨rfl, rfl, rfl, trivial⟩, hC, hO⟩
    · skip
      refine c_condF (congrArg Value.bool hc8) ?_
      refine wp_exit ?_
      cases hs
      exact ⟨rfl, _, fr_ovl 14 ⟨rfl, trivial⟩, hC, hO⟩
  · skip
    exact ⟨_, fr_ovl 14 ⟨rfl, rfl, rfl, trivial⟩, hC, hO⟩
  · cases o6 with
    | nx _ => exact True.intro
    | rt r_ =>
      have hs := after_rt hs
      intro a1 w1 hK
      cases hs
      exact hK
    | br s2 =>
      have hs := after_br hs
      rintro a1 w3 ⟨σ, rfl, hC, hO⟩
      refine c_seq ?_
      refine c_region ?_
      refine pl_val (.int .i64 s2.2) (y_move rfl) ?_
      refine pl_val (.int .i64 s2.2) (y_assign rfl) ?_
      refine c_nil ?_
      refine wp_ret ?_
      cases hs
      exact ⟨_, fr_ovl 14 ⟨rfl, trivial⟩, hC⟩

theorem Mx : Try.prog.follows .mixedOrders = true := by kernel_rfl

theorem Bd137 : Bodied Try.prog 137 := bodied Try.func137 (by kernel_rfl) rfl

theorem Bd178 : Bodied Try.prog 178 := bodied Try.func178 (by kernel_rfl) rfl

def k_spec_l2Op (M : Nat → Prop) (w0 : World) (r : Bool) (a : Act) (w : World) : Prop :=
  ∃ (σ : Nat → Value) , a = fr 36 (ovl σ [(4, (.bool r))]) ∧ Chg [] w0 w
def s_spec_l2Op (n : Int) (op : Int × (List Int)) : Option (Bool) :=
  ((s_spec_l1In op.1 0 3).bind fun r8 =>
  (bif (!r8) then some true else (s_spec_l2Pow n op.1).bind fun r11 =>
  some ((op.2.length : Int) != r11))).bind fun s3 =>
  (bif s3 then some false else (forC (S := Unit) (R := Bool) (fun k24 s22 =>
  (idx op.2 k24).bind fun x28 =>
  (s_spec_l1In x28 0 (w64 (n - 1))).bind fun r31 =>
  (bif (!r31) then some (.rt false) else some (.nx ()))) 0 (op.2.length : Int) ()).bind fun o26 => after o26 (fun r_ => some r_) (fun s22 =>
  some true))
set_option maxHeartbeats 4000000 in
theorem c_spec_l2Op {M : Nat → Prop} {w : World} {pa0 : Option Addr} {pn0 pc0 : Nat} (n : Int) (op : Int × (List Int)) (h0 : (RT.rs (RT.int .i64)).val M w (.slice pa0 pn0 pc0) op.2 ([])) (hM : ∀ g, w.heap.size ≤ g → M g) {r : Bool} (hs : s_spec_l2Op n op = some r) :
    Gives Try.prog 153 [(.int .i64 n), (.agg #[(.int .i64 op.1), (.slice pa0 pn0 pc0)])] w (fun v w' => v = (.bool r) ∧ Chg [] w w') := by
  refine calls_fr Try.func153 rfl Try.ntmps153 (Nat.le_of_ble_eq_true rfl) ?_
  have hO := Own.start (N := Nw w []) hM Nw.fut
  have hC := Chg.refl [] w
  unfold s_spec_l2Op at hs
  refine wp_mono (Q := KPost (k_spec_l2Op M w r)) ?_ (fun e a w1 h => ?_)
  rotate_left
  · cases e
    case ret =>
      obtain ⟨σ, rfl, hrest⟩ := h
      exact ret1x Try.results153 (res_tmp rfl) ⟨rfl, hrest⟩
    all_goals exact (h : False).elim
  refine c_seq ?_
  refine c_region ?_
  obtain ⟨w2, g2, ew2, eg2, hC2, hb2⟩ := new_block w [(.int .i64 op.1), (.slice pa0 pn0 pc0)] 82
  refine pl_val (w' := w2) (.pointer (some ⟨g2, 0, none⟩)) (y_box rfl (by rw [ew2, eg2]; kernel_rfl)) ?_
  have h0 := h0.ext hC2
  have hC := hC.ext hC2
  have hO := hO.new (X' := [g2]) hC2 (fun q hq => by rw [List.mem_singleton.1 hq, eg2]; exact Nat.le_refl _) (List.nodup_cons.2 ⟨(fun h => nomatch h), List.nodup_nil⟩) (fun q hq => by rw [List.mem_singleton.1 hq]; exact hb2.lt)
  refine pl_val (.bool false) (y_assign rfl) ?_
  refine c_nil ?_
  refine c_seq ?_
  refine c_seq ?_
  obtain ⟨s3, hm5, hs⟩ := bind_some hs
  refine c_mid (I := fun a w4 => ∃ (σ : Nat → Value), a = fr 36 (ovl σ [(0, (.int .i64 n)), (3, (.pointer (some ⟨g2, 0, none⟩))), (4, (.bool false)), (19, (.bool s3))]) ∧ Chg [] w2 w4) ?_ ?_
  · replace hs := hm5
    have hMid := Chg.refl [] w2
    refine x_start [] Mx rfl ?_
    have hCw6 := Chg.drew w2
    generalize World.drew w2 = w6 at hCw6 ⊢
    have h0 := h0.ext hCw6
    have hb2 := hb2.chg hCw6 (fun h => nomatch h)
    have hMid := hMid.ext hCw6
    have hC := hC.ext hCw6
    have hO := hO.ext hCw6
    have hS := Chg.refl [] w6
    refine x_p 0 (.pointer (some ⟨g2, 0, none⟩)) rfl (by kernel_rfl)  (fun _ => y_faddr rfl Fa82x0) (fun _ => hS) ?_
    refine x_l 1 (.int .i64 op.1) rfl (by kernel_rfl)  (fun w' hw' => y_load rfl ((box_load Ag3 Sz3 hb2 [] [(.int .i64 op.1)] [(.slice pa0 pn0 pc0)] rfl rfl (fun _ => rfl)) w' hw')) hS ?_
    refine x_one (i := 2) (by kernel_rfl) ?_
    obtain ⟨r8, hr8, hs⟩ := bind_some hs
    refine xk_call (b := false) rfl  Bd137 rfl (c_spec_l1In (M := M) op.1 0 3  hO.fut hr8) rfl (by rintro _ _ _ ⟨rfl, hC7⟩; exact hS.ext hC7) ?_
    rintro _ w7 ⟨rfl, hC7⟩
    have h0 := h0.ext hC7
    have hb2 := hb2.chg hC7 (fun h => nomatch h)
    have hMid := hMid.ext hC7
    have hC := hC.ext hC7
    have hO := hO.ext hC7
    have hS := hS.ext hC7
    refine x_p 3 (.bool (!r8)) rfl (by kernel_rfl)  (fun _ => y_not rfl) (fun _ => hS) ?_
    refine x_p 4 (.bool (!r8)) rfl (by kernel_rfl)  (fun _ => y_move rfl) (fun _ => hS) ?_
    rcases bif_some hs with ⟨hc9, hs⟩ | ⟨hc9, hs⟩
    · skip
      refine x_pn 5 rfl (by kernel_rfl) (tg := 10) (by kernel_rfl) (congrArg Value.bool hc9) (fun _ => hS) ?_
      refine x_pn 6 rfl (by kernel_rfl) (tg := 10) (by kernel_rfl) (congrArg Value.bool hc9) (fun _ => hS) ?_
      refine x_pn 7 rfl (by kernel_rfl) (tg := 10) (by kernel_rfl) (congrArg Value.bool hc9) (fun _ => hS) ?_
      refine x_pn 8 rfl (by kernel_rfl) (tg := 10) (by kernel_rfl) (congrArg Value.bool hc9) (fun _ => hS) ?_
      refine x_pn 9 rfl (by kernel_rfl) (tg := 10) (by kernel_rfl) (congrArg Value.bool hc9) (fun _ => hS) ?_
      refine x_pn 10 rfl (by kernel_rfl) (tg := 10) (by kernel_rfl) (congrArg Value.bool hc9) (fun _ => hS) ?_
      refine x_pn 11 rfl (by kernel_rfl) (tg := 10) (by kernel_rfl) (congrArg Value.bool hc9) (fun _ => hS) ?_
      refine x_pn 12 rfl (by kernel_rfl) (tg := 10) (by kernel_rfl) (congrArg Value.bool hc9) (fun _ => hS) ?_
      refine x_p 13 (.bool true) rfl (by kernel_rfl)  (fun _ => y_pick_t (congrArg Value.bool hc9) rfl) (fun _ => hS) ?_
      refine x_end (by kernel_rfl) ?_
      clear hS
      cases hs
      exact ⟨_, fr_ovl 36 ⟨rfl, rfl, rfl, rfl, trivial⟩, hMid⟩
    · skip
      refine x_py 5 (.pointer (some ⟨g2, 1, none⟩)) rfl (by kernel_rfl) (tg := 10) (by kernel_rfl) (congrArg Value.bool hc9) (fun _ => y_faddr rfl Fa82x1) (fun _ => hS) ?_
      refine x_py 8 (.int .i64 n) rfl (by kernel_rfl) (tg := 10) (by kernel_rfl) (congrArg Value.bool hc9) (fun _ => y_move rfl) (fun _ => hS) ?_
      refine x_py 9 (.pointer (some ⟨g2, 0, none⟩)) rfl (by kernel_rfl) (tg := 10) (by kernel_rfl) (congrArg Value.bool hc9) (fun _ => y_faddr rfl Fa82x0) (fun _ => hS) ?_
      refine x_two (i := 6) (j := 10) (by kernel_rfl) ?_ ?_
      · skip
        refine xk_valy (b := false) (.slice pa0 pn0 pc0) rfl (tg := 10) (by kernel_rfl) (congrArg Value.bool hc9) (y_load rfl ((box_load Ag22 Sz22 hb2 [(.int .i64 op.1)] [(.slice pa0 pn0 pc0)] [] rfl rfl (fun _ => rfl)) _ (Chg.refl _ _))) rfl (fun _ => hS) ?_
        refine x_py 7 (.int .i64 (op.2.length : Int)) rfl (by kernel_rfl) (tg := 10) (by kernel_rfl) (congrArg Value.bool hc9) (fun _ => y_len' Sl22 (rs_len h0) rfl) (fun _ => hS) ?_
        refine x_one (i := 10) (by kernel_rfl) ?_
        refine xk_valy (b := false) (.int .i64 op.1) rfl (tg := 10) (by kernel_rfl) (congrArg Value.bool hc9) (y_load rfl ((box_load Ag3 Sz3 hb2 [] [(.int .i64 op.1)] [(.slice pa0 pn0 pc0)] rfl rfl (fun _ => rfl)) _ (Chg.refl _ _))) rfl (fun _ => hS) ?_
        refine x_one (i := 11) (by kernel_rfl) ?_
        obtain ⟨r11, hr11, hs⟩ := bind_some hs
        refine xk_cally (b := false) rfl (tg := 10) (by kernel_rfl) (congrArg Value.bool hc9) Bd178 rfl (c_spec_l2Pow (M := M) n op.1  hO.fut hr11) rfl (by rintro _ _ _ ⟨rfl, hC10⟩; exact hS.ext hC10) ?_
        rintro _ w10 ⟨rfl, hC10⟩
        have h0 := h0.ext hC10
        have hb2 := hb2.chg hC10 (fun h => nomatch h)
        have hMid := hMid.ext hC10
        have hC := hC.ext hC10
        have hO := hO.ext hC10
        have hS := hS.ext hC10
        refine x_py 12 (.bool ((op.2.length : Int) != r11)) rfl (by kernel_rfl) (tg := 10) (by kernel_rfl) (congrArg Value.bool hc9) (fun _ => y_neq rfl rfl) (fun _ => hS) ?_
        refine x_p 13 (.bool ((op.2.length : Int) != r11)) rfl (by kernel_rfl)  (fun _ => y_pick_f (congrArg Value.bool hc9) rfl) (fun _ => hS) ?_
        refine x_end (by kernel_rfl) ?_
        clear hS
        cases hs
        exact ⟨_, fr_ovl 36 ⟨rfl, rfl, rfl, rfl, trivial⟩, hMid⟩
      · skip
        refine xk_valy (b := false) (.int .i64 op.1) rfl (tg := 10) (by kernel_rfl) (congrArg Value.bool hc9) (y_load rfl ((box_load Ag3 Sz3 hb2 [] [(.int .i64 op.1)] [(.slice pa0 pn0 pc0)] rfl rfl (fun _ => rfl)) _ (Chg.refl _ _))) rfl (fun _ => hS) ?_
        refine x_two (i := 6) (j := 11) (by kernel_rfl) ?_ ?_
        · skip
          refine xk_valy (b := false) (.slice pa0 pn0 pc0) rfl (tg := 10) (by kernel_rfl) (congrArg Value.bool hc9) (y_load rfl ((box_load Ag22 Sz22 hb2 [(.int .i64 op.1)] [(.slice pa0 pn0 pc0)] [] rfl rfl (fun _ => rfl)) _ (Chg.refl _ _))) rfl (fun _ => hS) ?_
          refine x_py 7 (.int .i64 (op.2.length : Int)) rfl (by kernel_rfl) (tg := 10) (by kernel_rfl) (congrArg Value.bool hc9) (fun _ => y_len' Sl22 (rs_len h0) rfl) (fun _ => hS) ?_
          refine x_one (i := 11) (by kernel_rfl) ?_
          obtain ⟨r11, hr11, hs⟩ := bind_some hs
          refine xk_cally (b := false) rfl (tg := 10) (by kernel_rfl) (congrArg Value.bool hc9) Bd178 rfl (c_spec_l2Pow (M := M) n op.1  hO.fut hr11) rfl (by rintro _ _ _ ⟨rfl, hC12⟩; exact hS.ext hC12) ?_
          rintro _ w12 ⟨rfl, hC12⟩
          have h0 := h0.ext hC12
          have hb2 := hb2.chg hC12 (fun h => nomatch h)
          have hMid := hMid.ext hC12
          have hC := hC.ext hC12
          have hO := hO.ext hC12
          have hS := hS.ext hC12
          refine x_py 12 (.bool ((op.2.length : Int) != r11)) rfl (by kernel_rfl) (tg := 10) (by kernel_rfl) (congrArg Value.bool hc9) (fun _ => y_neq rfl rfl) (fun _ => hS) ?_
          refine x_p 13 (.bool ((op.2.length : Int) != r11)) rfl (by kernel_rfl)  (fun _ => y_pick_f (congrArg Value.bool hc9) rfl) (fun _ => hS) ?_
          refine x_end (by kernel_rfl) ?_
          clear hS
          cases hs
          exact ⟨_, fr_ovl 36 ⟨rfl, rfl, rfl, rfl, trivial⟩, hMid⟩
        · skip
          obtain ⟨r11, hr11, hs⟩ := bind_some hs
          refine xk_cally (b := false) rfl (tg := 10) (by kernel_rfl) (congrArg Value.bool hc9) Bd178 rfl (c_spec_l2Pow (M := M) n op.1  hO.fut hr11) rfl (by rintro _ _ _ ⟨rfl, hC14⟩; exact hS.ext hC14) ?_
          rintro _ w14 ⟨rfl, hC14⟩
          have h0 := h0.ext hC14
          have hb2 := hb2.chg hC14 (fun h => nomatch h)
          have hMid := hMid.ext hC14
          have hC := hC.ext hC14
          have hO := hO.ext hC14
          have hS := hS.ext hC14
          refine x_one (i := 6) (by kernel_rfl) ?_
          refine xk_valy (b := false) (.slice pa0 pn0 pc0) rfl (tg := 10) (by kernel_rfl) (congrArg Value.bool hc9) (y_load rfl ((box_load Ag22 Sz22 hb2 [(.int .i64 op.1)] [(.slice pa0 pn0 pc0)] [] rfl rfl (fun _ => rfl)) _ (Chg.refl _ _))) rfl (fun _ => hS) ?_
          refine x_py 7 (.int .i64 (op.2.length : Int)) rfl (by kernel_rfl) (tg := 10) (by kernel_rfl) (congrArg Value.bool hc9) (fun _ => y_len' Sl22 (rs_len h0) rfl) (fun _ => hS) ?_
          refine x_py 12 (.bool ((op.2.length : Int) != r11)) rfl (by kernel_rfl) (tg := 10) (by kernel_rfl) (congrArg Value.bool hc9) (fun _ => y_neq rfl rfl) (fun _ => hS) ?_
          refine x_p 13 (.bool ((op.2.length : Int) != r11)) rfl (by kernel_rfl)  (fun _ => y_pick_f (congrArg Value.bool hc9) rfl) (fun _ => hS) ?_
          refine x_end (by kernel_rfl) ?_
          clear hS
          cases hs
          exact ⟨_, fr_ovl 36 ⟨rfl, rfl, rfl, rfl, trivial⟩, hMid⟩
  · rintro a1 w4 ⟨σ, rfl, hCs3⟩
    have h0 := h0.ext hCs3
    have hb2 := hb2.chg hCs3 (fun h => nomatch h)
    have hC := hC.ext hCs3
    have hO := hO.ext hCs3
    rcases bif_some hs with ⟨hc16, hs⟩ | ⟨hc16, hs⟩
    · skip
      refine c_condT (congrArg Value.bool hc16) ?_
      refine c_seq ?_
      refine c_region ?_
      refine pl_val (.bool false) (y_assign rfl) ?_
      refine c_nil ?_
      refine wp_ret ?_
      cases hs
      exact ⟨_, fr_ovl 36 ⟨rfl, trivial⟩, hC⟩
    · skip
      refine c_condF (congrArg Value.bool hc16) ?_
      refine wp_skip ?_
      refine c_seq ?_
      refine c_seq ?_
      refine c_region ?_
      refine pl_val (.int .i64 0) (y_assign rfl) ?_
      refine c_nil ?_
      obtain ⟨o26, hl27, hs⟩ := bind_some hs
      refine wp_block ?_
      refine wp_forC (id := 0) (op.2.length : Int) (I := fun k24 s22 a w23 => ∃ (σ : Nat → Value), a = fr 36 (ovl σ [(0, (.int .i64 n)), (3, (.pointer (some ⟨g2, 0, none⟩))), (5, (.int .i64 k24))]) ∧ Chg [] w w23 ∧ Own (Nw w []) M w23 (([g2]) ++ []) ∧ (RT.rs (RT.int .i64)).val M w23 (.slice pa0 pn0 pc0) op.2 ([]) ∧ BoxV w23 g2 82 [(.int .i64 op.1), (.slice pa0 pn0 pc0)]) (J := fun s22 a w23 => ∃ (σ : Nat → Value), a = fr 36 (ovl σ []) ∧ Chg [] w w23 ∧ Own (Nw w []) M w23 (([g2]) ++ []) ∧ (RT.rs (RT.int .i64)).val M w23 (.slice pa0 pn0 pc0) op.2 ([]) ∧ BoxV w23 g2 82 [(.int .i64 op.1), (.slice pa0 pn0 pc0)]) (K := (k_spec_l2Op M w)) ?_ ?_ 0 () o26 _ _ ?_ hl27 ?_
      · rintro k24 s22 a w23 ⟨σ, rfl, hC, hO, h0, hb2⟩ hlt
        refine c_seq ?_
        refine c_seq ?_
        refine c_region ?_
        refine pl_val (.int .i64 k24) (y_move rfl) ?_
        refine pl_val (.pointer (some ⟨g2, 1, none⟩)) (y_faddr rfl Fa82x1) ?_
        refine pl_val (.slice pa0 pn0 pc0) (y_load rfl ((box_load Ag22 Sz22 hb2 [(.int .i64 op.1)] [(.slice pa0 pn0 pc0)] [] rfl rfl (fun _ => rfl)) _ (Chg.refl _ _))) ?_
        refine pl_val (.int .i64 (op.2.length : Int)) (y_len' Sl22 (rs_len h0) rfl) ?_
        refine pl_val (.bool (decide (k24 < (op.2.length : Int)))) (y_lss rfl rfl) ?_
        refine c_nil ?_
        refine c_condF (congrArg Value.bool (decide_eq_false hlt)) ?_
        refine wp_exit ?_
        exact ⟨rfl, _, fr_ovl 36 trivial, hC, hO, h0, hb2⟩
      · rintro k24 s22 o26 a w23 ⟨σ, rfl, hC, hO, h0, hb2⟩ hlt hw hs
        refine c_seq ?_
        refine c_seq ?_
        refine c_region ?_
        refine pl_val (.int .i64 k24) (y_move rfl) ?_
        refine pl_val (.pointer (some ⟨g2, 1, none⟩)) (y_faddr rfl Fa82x1) ?_
        refine pl_val (.slice pa0 pn0 pc0) (y_load rfl ((box_load Ag22 Sz22 hb2 [(.int .i64 op.1)] [(.slice pa0 pn0 pc0)] [] rfl rfl (fun _ => rfl)) _ (Chg.refl _ _))) ?_
        refine pl_val (.int .i64 (op.2.length : Int)) (y_len' Sl22 (rs_len h0) rfl) ?_
        refine pl_val (.bool (decide (k24 < (op.2.length : Int)))) (y_lss rfl rfl) ?_
        refine c_nil ?_
        refine c_condT (congrArg Value.bool (decide_eq_true hlt)) ?_
        refine wp_skip ?_
        refine c_seq ?_
        refine wp_block ?_
        refine c_seq ?_
        refine c_region ?_
        refine pl_val (.pointer (some ⟨g2, 1, none⟩)) (y_faddr rfl Fa82x1) ?_
        refine pl_val (.slice pa0 pn0 pc0) (y_load rfl ((box_load Ag22 Sz22 hb2 [(.int .i64 op.1)] [(.slice pa0 pn0 pc0)] [] rfl rfl (fun _ => rfl)) _ (Chg.refl _ _))) ?_
        refine pl_val (.int .i64 k24) (y_move rfl) ?_
        obtain ⟨x28, hx28, hs⟩ := bind_some hs
        obtain ⟨b29, o29, hp29, ha29⟩ := rs_idx Sl22 Sz3 h0 hx28
        refine pl_val (.pointer (some ⟨b29, o29, none⟩)) (hp29 _ _ _ _ _ _ _ _ _ rfl rfl) ?_
        refine pl_val (.int .i64 x28) (y_load rfl ((at_load_int Ag3 Sz3 ha29) _ (Chg.refl _ _))) ?_
        refine pl_val (.int .i64 n) (y_move rfl) ?_
        refine pl_val (.int .i64 (w64 (n - 1))) (y_sub rfl rfl) ?_
        obtain ⟨r31, hr31, hs⟩ := bind_some hs
        refine pl_call Bd137 rfl (c_spec_l1In (M := M) x28 0 (w64 (n - 1))  hO.fut hr31) ?_
        rintro _ w30 ⟨rfl, hC30⟩
        have h0 := h0.ext hC30
        have hb2 := hb2.chg hC30 (fun h => nomatch h)
        have hC := hC.ext hC30
        have hO := hO.ext hC30
        refine pl_val (.bool (!r31)) (y_not rfl) ?_
        refine c_nil ?_
        rcases bif_some hs with ⟨hc32, hs⟩ | ⟨hc32, hs⟩
        · skip
          refine c_condT (congrArg Value.bool hc32) ?_
          refine c_seq ?_
          refine c_region ?_
          refine pl_val (.bool false) (y_assign rfl) ?_
          refine c_nil ?_
          refine wp_ret ?_
          cases hs
          exact ⟨_, fr_ovl 36 ⟨rfl, trivial⟩, hC⟩
        · skip
          refine c_condF (congrArg Value.bool hc32) ?_
          refine wp_skip ?_
          refine c_region ?_
          refine pl_val (.int .i64 k24) (y_move rfl) ?_
          refine pl_val (.int .i64 (w64 (k24 + 1))) (y_add rfl rfl) ?_
          refine pl_val (.int .i64 (w64 (k24 + 1))) (y_assign rfl) ?_
          refine c_nil ?_
          cases hs
          exact ⟨_, fr_ovl 36 ⟨rfl, rfl, congrArg (Value.int .i64) hw, trivial⟩, hC, hO, h0, hb2⟩
      · skip
        exact ⟨_, fr_ovl 36 ⟨rfl, rfl, rfl, trivial⟩, hC, hO, h0, hb2⟩
      · cases o26 with
        | nx _ => exact True.intro
        | rt r_ =>
          have hs := after_rt hs
          intro a1 w1 hK
          cases hs
          exact hK
        | br s22 =>
          have hs := after_br hs
          rintro a1 w23 ⟨σ, rfl, hC, hO, h0, hb2⟩
          refine c_seq ?_
          refine c_region ?_
          refine pl_val (.bool true) (y_assign rfl) ?_
          refine c_nil ?_
          refine wp_ret ?_
          cases hs
          exact ⟨_, fr_ovl 36 ⟨rfl, trivial⟩, hC⟩

theorem Ag60 : AggT Try.prog 60 false := fun _ => by kernel_rfl

theorem Bd153 : Bodied Try.prog 153 := bodied Try.func153 (by kernel_rfl) rfl

def k_spec_l2Good (M : Nat → Prop) (w0 : World) (r : Bool) (a : Act) (w : World) : Prop :=
  ∃ (σ : Nat → Value) , a = fr 30 (ovl σ [(2, (.bool r))]) ∧ Chg [] w0 w
def s_spec_l2Good (a_ : Int × (List (Int × (List Int)))) : Option (Bool) :=
  ((s_spec_l1In a_.1 1 8).bind fun r7 =>
  (bif (!r7) then some true else some (decide (4 < (a_.2.length : Int))))).bind fun s3 =>
  (bif s3 then some false else (forC (S := Unit) (R := Bool) (fun k20 s18 =>
  (idx a_.2 k20).bind fun x25 =>
  (s_spec_l2Op a_.1 (x25.1, x25.2)).bind fun r30 =>
  (bif (!r30) then some (.rt false) else some (.nx ()))) 0 (a_.2.length : Int) ()).bind fun o22 => after o22 (fun r_ => some r_) (fun s18 =>
  some true))
set_option maxHeartbeats 4000000 in
theorem c_spec_l2Good {M : Nat → Prop} {w : World} {pa0 : Option Addr} {pn0 pc0 : Nat} (a_ : Int × (List (Int × (List Int)))) (h0 : (RT.rs (RT.pr (RT.int .i64) (RT.rs (RT.int .i64)))).val M w (.slice pa0 pn0 pc0) a_.2 ([])) (hM : ∀ g, w.heap.size ≤ g → M g) {r : Bool} (hs : s_spec_l2Good a_ = some r) :
    Gives Try.prog 94 [(.agg #[(.int .i64 a_.1), (.slice pa0 pn0 pc0)])] w (fun v w' => v = (.bool r) ∧ Chg [] w w') := by
  refine calls_fr Try.func94 rfl Try.ntmps94 (Nat.le_of_ble_eq_true rfl) ?_
  have hO := Own.start (N := Nw w []) hM Nw.fut
  have hC := Chg.refl [] w
  unfold s_spec_l2Good at hs
  refine wp_mono (Q := KPost (k_spec_l2Good M w r)) ?_ (fun e a w1 h => ?_)
  rotate_left
  · cases e
    case ret =>
      obtain ⟨σ, rfl, hrest⟩ := h
      exact ret1x Try.results94 (res_tmp rfl) ⟨rfl, hrest⟩
    all_goals exact (h : False).elim
  refine c_seq ?_
  refine c_region ?_
  obtain ⟨w2, g2, ew2, eg2, hC2, hb2⟩ := new_block w [(.int .i64 a_.1), (.slice pa0 pn0 pc0)] 62
  refine pl_val (w' := w2) (.pointer (some ⟨g2, 0, none⟩)) (y_box rfl (by rw [ew2, eg2]; kernel_rfl)) ?_
  have h0 := h0.ext hC2
  have hC := hC.ext hC2
  have hO := hO.new (X' := [g2]) hC2 (fun q hq => by rw [List.mem_singleton.1 hq, eg2]; exact Nat.le_refl _) (List.nodup_cons.2 ⟨(fun h => nomatch h), List.nodup_nil⟩) (fun q hq => by rw [List.mem_singleton.1 hq]; exact hb2.lt)
  refine pl_val (.bool false) (y_assign rfl) ?_
  refine c_nil ?_
  refine c_seq ?_
  refine c_seq ?_
  obtain ⟨s3, hm5, hs⟩ := bind_some hs
  refine c_mid (I := fun a w4 => ∃ (σ : Nat → Value), a = fr 30 (ovl σ [(1, (.pointer (some ⟨g2, 0, none⟩))), (2, (.bool false)), (13, (.bool s3))]) ∧ Chg [] w2 w4) ?_ ?_
  · replace hs := hm5
    have hMid := Chg.refl [] w2
    refine c_region ?_
    refine pl_val (.pointer (some ⟨g2, 0, none⟩)) (y_faddr rfl Fa62x0) ?_
    refine pl_val (.int .i64 a_.1) (y_load rfl ((box_load Ag3 Sz3 hb2 [] [(.int .i64 a_.1)] [(.slice pa0 pn0 pc0)] rfl rfl (fun _ => rfl)) _ (Chg.refl _ _))) ?_
    obtain ⟨r7, hr7, hs⟩ := bind_some hs
    refine pl_call Bd137 rfl (c_spec_l1In (M := M) a_.1 1 8  hO.fut hr7) ?_
    rintro _ w6 ⟨rfl, hC6⟩
    have h0 := h0.ext hC6
    have hb2 := hb2.chg hC6 (fun h => nomatch h)
    have hMid := hMid.ext hC6
    have hC := hC.ext hC6
    have hO := hO.ext hC6
    refine pl_val (.bool (!r7)) (y_not rfl) ?_
    refine pl_val (.bool (!r7)) (y_move rfl) ?_
    rcases bif_some hs with ⟨hc8, hs⟩ | ⟨hc8, hs⟩
    · skip
      refine pl_not (tg := 8) (by kernel_rfl) (congrArg Value.bool hc8) ?_
      refine pl_not (tg := 8) (by kernel_rfl) (congrArg Value.bool hc8) ?_
      refine pl_not (tg := 8) (by kernel_rfl) (congrArg Value.bool hc8) ?_
      refine pl_not (tg := 8) (by kernel_rfl) (congrArg Value.bool hc8) ?_
      refine pl_val (.bool true) (y_pick_t (congrArg Value.bool hc8) rfl) ?_
      refine c_nil ?_
      cases hs
      exact ⟨_, fr_ovl 30 ⟨rfl, rfl, rfl, trivial⟩, hMid⟩
    · skip
      refine pl_yes (.pointer (some ⟨g2, 1, none⟩)) (tg := 8) (by kernel_rfl) (congrArg Value.bool hc8) (y_faddr rfl Fa62x1) ?_
      refine pl_yes (.slice pa0 pn0 pc0) (tg := 8) (by kernel_rfl) (congrArg Value.bool hc8) (y_load rfl ((box_load Ag60 Sz60 hb2 [(.int .i64 a_.1)] [(.slice pa0 pn0 pc0)] [] rfl rfl (fun _ => rfl)) _ (Chg.refl _ _))) ?_
      refine pl_yes (.int .i64 (a_.2.length : Int)) (tg := 8) (by kernel_rfl) (congrArg Value.bool hc8) (y_len' Sl60 (rs_len h0) rfl) ?_
      refine pl_yes (.bool (decide (4 < (a_.2.length : Int)))) (tg := 8) (by kernel_rfl) (congrArg Value.bool hc8) (y_gtr rfl rfl) ?_
      refine pl_val (.bool (decide (4 < (a_.2.length : Int)))) (y_pick_f (congrArg Value.bool hc8) rfl) ?_
      refine c_nil ?_
      cases hs
      exact ⟨_, fr_ovl 30 ⟨rfl, rfl, rfl, trivial⟩, hMid⟩
  · rintro a1 w4 ⟨σ, rfl, hCs3⟩
    have h0 := h0.ext hCs3
    have hb2 := hb2.chg hCs3 (fun h => nomatch h)
    have hC := hC.ext hCs3
    have hO := hO.ext hCs3
    rcases bif_some hs with ⟨hc9, hs⟩ | ⟨hc9, hs⟩
    · skip
      refine c_condT (congrArg Value.bool hc9) ?_
      refine c_seq ?_
      refine c_region ?_
      refine pl_val (.bool false) (y_assign rfl) ?_
      refine c_nil ?_
      refine wp_ret ?_
      cases hs
      exact ⟨_, fr_ovl 30 ⟨rfl, trivial⟩, hC⟩
    · skip
      refine c_condF (congrArg Value.bool hc9) ?_
      refine wp_skip ?_
      refine c_seq ?_
      refine c_seq ?_
      refine c_region ?_
      refine pl_val (.int .i64 0) (y_assign rfl) ?_
      refine c_nil ?_
      obtain ⟨o22, hl23, hs⟩ := bind_some hs
      refine wp_block ?_
      refine wp_forC (id := 0) (a_.2.length : Int) (I := fun k20 s18 a w19 => ∃ (σ : Nat → Value), a = fr 30 (ovl σ [(1, (.pointer (some ⟨g2, 0, none⟩))), (3, (.int .i64 k20))]) ∧ Chg [] w w19 ∧ Own (Nw w []) M w19 (([g2]) ++ []) ∧ (RT.rs (RT.pr (RT.int .i64) (RT.rs (RT.int .i64)))).val M w19 (.slice pa0 pn0 pc0) a_.2 ([]) ∧ BoxV w19 g2 62 [(.int .i64 a_.1), (.slice pa0 pn0 pc0)]) (J := fun s18 a w19 => ∃ (σ : Nat → Value), a = fr 30 (ovl σ []) ∧ Chg [] w w19 ∧ Own (Nw w []) M w19 (([g2]) ++ []) ∧ (RT.rs (RT.pr (RT.int .i64) (RT.rs (RT.int .i64)))).val M w19 (.slice pa0 pn0 pc0) a_.2 ([]) ∧ BoxV w19 g2 62 [(.int .i64 a_.1), (.slice pa0 pn0 pc0)]) (K := (k_spec_l2Good M w)) ?_ ?_ 0 () o22 _ _ ?_ hl23 ?_
      · rintro k20 s18 a w19 ⟨σ, rfl, hC, hO, h0, hb2⟩ hlt
        refine c_seq ?_
        refine c_seq ?_
        refine c_region ?_
        refine pl_val (.int .i64 k20) (y_move rfl) ?_
        refine pl_val (.pointer (some ⟨g2, 1, none⟩)) (y_faddr rfl Fa62x1) ?_
        refine pl_val (.slice pa0 pn0 pc0) (y_load rfl ((box_load Ag60 Sz60 hb2 [(.int .i64 a_.1)] [(.slice pa0 pn0 pc0)] [] rfl rfl (fun _ => rfl)) _ (Chg.refl _ _))) ?_
        refine pl_val (.int .i64 (a_.2.length : Int)) (y_len' Sl60 (rs_len h0) rfl) ?_
        refine pl_val (.bool (decide (k20 < (a_.2.length : Int)))) (y_lss rfl rfl) ?_
        refine c_nil ?_
        refine c_condF (congrArg Value.bool (decide_eq_false hlt)) ?_
        refine wp_exit ?_
        exact ⟨rfl, _, fr_ovl 30 trivial, hC, hO, h0, hb2⟩
      · rintro k20 s18 o22 a w19 ⟨σ, rfl, hC, hO, h0, hb2⟩ hlt hw hs
        refine c_seq ?_
        refine c_seq ?_
        refine c_region ?_
        refine pl_val (.int .i64 k20) (y_move rfl) ?_
        refine pl_val (.pointer (some ⟨g2, 1, none⟩)) (y_faddr rfl Fa62x1) ?_
        refine pl_val (.slice pa0 pn0 pc0) (y_load rfl ((box_load Ag60 Sz60 hb2 [(.int .i64 a_.1)] [(.slice pa0 pn0 pc0)] [] rfl rfl (fun _ => rfl)) _ (Chg.refl _ _))) ?_
        refine pl_val (.int .i64 (a_.2.length : Int)) (y_len' Sl60 (rs_len h0) rfl) ?_
        refine pl_val (.bool (decide (k20 < (a_.2.length : Int)))) (y_lss rfl rfl) ?_
        refine c_nil ?_
        refine c_condT (congrArg Value.bool (decide_eq_true hlt)) ?_
        refine wp_skip ?_
        refine c_seq ?_
        refine wp_block ?_
        refine c_seq ?_
        refine x_start [] Mx rfl ?_
        have hCw24 := Chg.drew w19
        generalize World.drew w19 = w24 at hCw24 ⊢
        have h0 := h0.ext hCw24
        have hb2 := hb2.chg hCw24 (fun h => nomatch h)
        have hC := hC.ext hCw24
        have hO := hO.ext hCw24
        have hS := Chg.refl [] w24
        refine x_p 0 (.pointer (some ⟨g2, 0, none⟩)) rfl (by kernel_rfl)  (fun _ => y_faddr rfl Fa62x0) (fun _ => hS) ?_
        refine x_l 1 (.int .i64 a_.1) rfl (by kernel_rfl)  (fun w' hw' => y_load rfl ((box_load Ag3 Sz3 hb2 [] [(.int .i64 a_.1)] [(.slice pa0 pn0 pc0)] rfl rfl (fun _ => rfl)) w' hw')) hS ?_
        refine x_p 2 (.pointer (some ⟨g2, 1, none⟩)) rfl (by kernel_rfl)  (fun _ => y_faddr rfl Fa62x1) (fun _ => hS) ?_
        refine x_l 3 (.slice pa0 pn0 pc0) rfl (by kernel_rfl)  (fun w' hw' => y_load rfl ((box_load Ag60 Sz60 hb2 [(.int .i64 a_.1)] [(.slice pa0 pn0 pc0)] [] rfl rfl (fun _ => rfl)) w' hw')) hS ?_
        refine x_p 4 (.int .i64 k20) rfl (by kernel_rfl)  (fun _ => y_move rfl) (fun _ => hS) ?_
        obtain ⟨x25, hx25, hs⟩ := bind_some hs
        obtain ⟨b26, o26, hp26, ha26⟩ := rs_idx Sl60 Sz82 h0 hx25
        refine x_p 5 (.pointer (some ⟨b26, o26, none⟩)) rfl (by kernel_rfl)  (fun _ => hp26 _ _ _ _ _ _ _ _ _ rfl rfl) (fun _ => hS) ?_
        obtain ⟨v27, hl27, hv27⟩ := at_load Ag82 Sz82 (by intro h; cases h) ha26
        obtain ⟨cs27, rfl, hr27⟩ := hv27
        obtain ⟨cc27x1, cd27x1, rfl, hh27x1, ht27x1⟩ := pr_open hr27
        obtain rfl := int_rel hh27x1
        obtain ⟨a27x2, n27x2, c27x2, rfl, hv27x2⟩ := rs_rel ht27x1
        refine x_l 6 (.agg #[(.int .i64 x25.1), (.slice a27x2 n27x2 c27x2)]) rfl (by kernel_rfl)  (fun w' hw' => y_load rfl (hl27 w' hw')) hS ?_
        refine x_one (i := 7) (by kernel_rfl) ?_
        obtain ⟨r30, hr30, hs⟩ := bind_some hs
        refine xk_call (b := false) rfl  Bd153 rfl (c_spec_l2Op (M := M) a_.1 (x25.1, x25.2) hv27x2 hO.fut hr30) rfl (by rintro _ _ _ ⟨rfl, hC29⟩; exact hS.ext hC29) ?_
        rintro _ w29 ⟨rfl, hC29⟩
        have h0 := h0.ext hC29
        have hb2 := hb2.chg hC29 (fun h => nomatch h)
        have hv27x2 := hv27x2.ext hC29
        have hC := hC.ext hC29
        have hO := hO.ext hC29
        have hS := hS.ext hC29
        refine x_p 8 (.bool (!r30)) rfl (by kernel_rfl)  (fun _ => y_not rfl) (fun _ => hS) ?_
        refine x_end (by kernel_rfl) ?_
        clear hS
        rcases bif_some hs with ⟨hc31, hs⟩ | ⟨hc31, hs⟩
        · skip
          refine c_condT (congrArg Value.bool hc31) ?_
          refine c_seq ?_
          refine c_region ?_
          refine pl_val (.bool false) (y_assign rfl) ?_
          refine c_nil ?_
          refine wp_ret ?_
          cases hs
          exact ⟨_, fr_ovl 30 ⟨rfl, trivial⟩, hC⟩
        · skip
          refine c_condF (congrArg Value.bool hc31) ?_
          refine wp_skip ?_
          refine c_region ?_
          refine pl_val (.int .i64 k20) (y_move rfl) ?_
          refine pl_val (.int .i64 (w64 (k20 + 1))) (y_add rfl rfl) ?_
          refine pl_val (.int .i64 (w64 (k20 + 1))) (y_assign rfl) ?_
          refine c_nil ?_
          cases hs
          exact ⟨_, fr_ovl 30 ⟨rfl, congrArg (Value.int .i64) hw, trivial⟩, hC, hO, h0, hb2⟩
      · skip
        exact ⟨_, fr_ovl 30 ⟨rfl, rfl, trivial⟩, hC, hO, h0, hb2⟩
      · cases o22 with
        | nx _ => exact True.intro
        | rt r_ =>
          have hs := after_rt hs
          intro a1 w1 hK
          cases hs
          exact hK
        | br s18 =>
          have hs := after_br hs
          rintro a1 w19 ⟨σ, rfl, hC, hO, h0, hb2⟩
          refine c_seq ?_
          refine c_region ?_
          refine pl_val (.bool true) (y_assign rfl) ?_
          refine c_nil ?_
          refine wp_ret ?_
          cases hs
          exact ⟨_, fr_ovl 30 ⟨rfl, trivial⟩, hC⟩

def k_spec_l18Monotone (M : Nat → Prop) (w0 : World) (r : Bool) (a : Act) (w : World) : Prop :=
  ∃ (σ : Nat → Value) , a = fr 38 (ovl σ [(2, (.bool r))]) ∧ Chg [] w0 w
def s_spec_l18Monotone (op : Int × (List Int)) : Option (Bool) :=
  (forC (S := Unit) (R := Bool) (fun k27 s25 =>
  (iter (S := Int) (R := Bool) (fun s39 =>
  (bif (decide (s39 < (op.2.length : Int))) then (bif ((iand .i64 k27 s39) == 0) then (idx op.2 k27).bind fun x48 =>
  (idx op.2 (ior .i64 k27 s39)).bind fun x50 =>
  (bif (decide (x50 < x48)) then some (.rt false) else some (.nx (w64 (s39 * 2)))) else some (.nx (w64 (s39 * 2)))) else some (.br s39))) FU 1).bind fun o43 => after o43 (fun r_ => some (.rt r_)) (fun s39 =>
  some (.nx ()))) 0 (op.2.length : Int) ()).bind fun o29 => after o29 (fun r_ => some r_) (fun s25 =>
  some true)
set_option maxHeartbeats 4000000 in
theorem c_spec_l18Monotone {M : Nat → Prop} {w : World} {pa0 : Option Addr} {pn0 pc0 : Nat} (op : Int × (List Int)) (h0 : (RT.rs (RT.int .i64)).val M w (.slice pa0 pn0 pc0) op.2 ([])) (hM : ∀ g, w.heap.size ≤ g → M g) {r : Bool} (hs : s_spec_l18Monotone op = some r) :
    Gives Try.prog 95 [(.agg #[(.int .i64 op.1), (.slice pa0 pn0 pc0)])] w (fun v w' => v = (.bool r) ∧ Chg [] w w') := by
  refine calls_fr Try.func95 rfl Try.ntmps95 (Nat.le_of_ble_eq_true rfl) ?_
  have hO := Own.start (N := Nw w []) hM Nw.fut
  have hC := Chg.refl [] w
  unfold s_spec_l18Monotone at hs
  refine wp_mono (Q := KPost (k_spec_l18Monotone M w r)) ?_ (fun e a w1 h => ?_)
  rotate_left
  · cases e
    case ret =>
      obtain ⟨σ, rfl, hrest⟩ := h
      exact ret1x Try.results95 (res_tmp rfl) ⟨rfl, hrest⟩
    all_goals exact (h : False).elim
  refine c_seq ?_
  refine c_region ?_
  obtain ⟨w2, g2, ew2, eg2, hC2, hb2⟩ := new_block w [(.int .i64 op.1), (.slice pa0 pn0 pc0)] 82
  refine pl_val (w' := w2) (.pointer (some ⟨g2, 0, none⟩)) (y_box rfl (by rw [ew2, eg2]; kernel_rfl)) ?_
  have h0 := h0.ext hC2
  have hC := hC.ext hC2
  have hO := hO.new (X' := [g2]) hC2 (fun q hq => by rw [List.mem_singleton.1 hq, eg2]; exact Nat.le_refl _) (List.nodup_cons.2 ⟨(fun h => nomatch h), List.nodup_nil⟩) (fun q hq => by rw [List.mem_singleton.1 hq]; exact hb2.lt)
  refine pl_val (.bool false) (y_assign rfl) ?_
  refine c_nil ?_
  refine c_seq ?_
  refine c_seq ?_
  refine c_region ?_
  refine pl_val (.int .i64 0) (y_assign rfl) ?_
  refine c_nil ?_
  obtain ⟨o29, hl30, hs⟩ := bind_some hs
  refine wp_block ?_
  refine wp_forC (id := 0) (op.2.length : Int) (I := fun k27 s25 a w26 => ∃ (σ : Nat → Value), a = fr 38 (ovl σ [(1, (.pointer (some ⟨g2, 0, none⟩))), (3, (.int .i64 k27))]) ∧ Chg [] w w26 ∧ Own (Nw w []) M w26 (([g2]) ++ []) ∧ (RT.rs (RT.int .i64)).val M w26 (.slice pa0 pn0 pc0) op.2 ([]) ∧ BoxV w26 g2 82 [(.int .i64 op.1), (.slice pa0 pn0 pc0)]) (J := fun s25 a w26 => ∃ (σ : Nat → Value), a = fr 38 (ovl σ []) ∧ Chg [] w w26 ∧ Own (Nw w []) M w26 (([g2]) ++ []) ∧ (RT.rs (RT.int .i64)).val M w26 (.slice pa0 pn0 pc0) op.2 ([]) ∧ BoxV w26 g2 82 [(.int .i64 op.1), (.slice pa0 pn0 pc0)]) (K := (k_spec_l18Monotone M w)) ?_ ?_ 0 () o29 _ _ ?_ hl30 ?_
  · rintro k27 s25 a w26 ⟨σ, rfl, hC, hO, h0, hb2⟩ hlt
    refine c_seq ?_
    refine c_seq ?_
    refine c_region ?_
    refine pl_val (.int .i64 k27) (y_move rfl) ?_
    refine pl_val (.pointer (some ⟨g2, 1, none⟩)) (y_faddr rfl Fa82x1) ?_
    refine pl_val (.slice pa0 pn0 pc0) (y_load rfl ((box_load Ag22 Sz22 hb2 [(.int .i64 op.1)] [(.slice pa0 pn0 pc0)] [] rfl rfl (fun _ => rfl)) _ (Chg.refl _ _))) ?_
    refine pl_val (.int .i64 (op.2.length : Int)) (y_len' Sl22 (rs_len h0) rfl) ?_
    refine pl_val (.bool (decide (k27 < (op.2.length : Int)))) (y_lss rfl rfl) ?_
    refine c_nil ?_
    refine c_condF (congrArg Value.bool (decide_eq_false hlt)) ?_
    refine wp_exit ?_
    exact ⟨rfl, _, fr_ovl 38 trivial, hC, hO, h0, hb2⟩
  · rintro k27 s25 o29 a w26 ⟨σ, rfl, hC, hO, h0, hb2⟩ hlt hw hs
    refine c_seq ?_
    refine c_seq ?_
    refine c_region ?_
    refine pl_val (.int .i64 k27) (y_move rfl) ?_
    refine pl_val (.pointer (some ⟨g2, 1, none⟩)) (y_faddr rfl Fa82x1) ?_
    refine pl_val (.slice pa0 pn0 pc0) (y_load rfl ((box_load Ag22 Sz22 hb2 [(.int .i64 op.1)] [(.slice pa0 pn0 pc0)] [] rfl rfl (fun _ => rfl)) _ (Chg.refl _ _))) ?_
    refine pl_val (.int .i64 (op.2.length : Int)) (y_len' Sl22 (rs_len h0) rfl) ?_
    refine pl_val (.bool (decide (k27 < (op.2.length : Int)))) (y_lss rfl rfl) ?_
    refine c_nil ?_
    refine c_condT (congrArg Value.bool (decide_eq_true hlt)) ?_
    refine wp_skip ?_
    refine c_seq ?_
    refine wp_block ?_
    refine c_seq ?_
    refine c_region ?_
    refine pl_val (.int .i64 1) (y_assign rfl) ?_
    refine c_nil ?_
    obtain ⟨o43, hl44, hs⟩ := bind_some hs
    refine wp_block ?_
    refine wp_iter (id := 2) (I := fun s39 a w40 => ∃ (σ : Nat → Value), a = fr 38 (ovl σ [(1, (.pointer (some ⟨g2, 0, none⟩))), (3, (.int .i64 k27)), (4, (.int .i64 s39))]) ∧ Chg [] w w40 ∧ Own (Nw w []) M w40 (([g2]) ++ []) ∧ (RT.rs (RT.int .i64)).val M w40 (.slice pa0 pn0 pc0) op.2 ([]) ∧ BoxV w40 g2 82 [(.int .i64 op.1), (.slice pa0 pn0 pc0)]) (J := fun s39 a w40 => ∃ (σ : Nat → Value), a = fr 38 (ovl σ [(1, (.pointer (some ⟨g2, 0, none⟩))), (3, (.int .i64 k27))]) ∧ Chg [] w w40 ∧ Own (Nw w []) M w40 (([g2]) ++ []) ∧ (RT.rs (RT.int .i64)).val M w40 (.slice pa0 pn0 pc0) op.2 ([]) ∧ BoxV w40 g2 82 [(.int .i64 op.1), (.slice pa0 pn0 pc0)]) (K := (k_spec_l18Monotone M w)) ?_ FU 1 o43 _ _ ?_ hl44 ?_
    · rintro s39 o43 a w40 ⟨σ, rfl, hC, hO, h0, hb2⟩ hs
      refine c_seq ?_
      refine c_seq ?_
      refine c_region ?_
      refine pl_val (.int .i64 s39) (y_move rfl) ?_
      refine pl_val (.pointer (some ⟨g2, 1, none⟩)) (y_faddr rfl Fa82x1) ?_
      refine pl_val (.slice pa0 pn0 pc0) (y_load rfl ((box_load Ag22 Sz22 hb2 [(.int .i64 op.1)] [(.slice pa0 pn0 pc0)] [] rfl rfl (fun _ => rfl)) _ (Chg.refl _ _))) ?_
      refine pl_val (.int .i64 (op.2.length : Int)) (y_len' Sl22 (rs_len h0) rfl) ?_
      refine pl_val (.bool (decide (s39 < (op.2.length : Int)))) (y_lss rfl rfl) ?_
      refine c_nil ?_
      rcases bif_some hs with ⟨hc45, hs⟩ | ⟨hc45, hs⟩
      · skip
        refine c_condT (congrArg Value.bool hc45) ?_
        refine wp_skip ?_
        refine c_seq ?_
        refine wp_block ?_
        refine c_seq ?_
        refine x_start [] Mx rfl ?_
        have hCw46 := Chg.drew w40
        generalize World.drew w40 = w46 at hCw46 ⊢
        have h0 := h0.ext hCw46
        have hb2 := hb2.chg hCw46 (fun h => nomatch h)
        have hC := hC.ext hCw46
        have hO := hO.ext hCw46
        have hS := Chg.refl [] w46
        refine x_p 0 (.int .i64 k27) rfl (by kernel_rfl)  (fun _ => y_move rfl) (fun _ => hS) ?_
        refine x_p 1 (.int .i64 s39) rfl (by kernel_rfl)  (fun _ => y_move rfl) (fun _ => hS) ?_
        refine x_p 2 (.int .i64 (iand .i64 k27 s39)) rfl (by kernel_rfl)  (fun _ => y_and rfl rfl) (fun _ => hS) ?_
        refine x_p 3 (.bool ((iand .i64 k27 s39) == 0)) rfl (by kernel_rfl)  (fun _ => y_eql rfl rfl) (fun _ => hS) ?_
        refine x_p 4 (.bool ((iand .i64 k27 s39) == 0)) rfl (by kernel_rfl)  (fun _ => y_move rfl) (fun _ => hS) ?_
        rcases bif_some hs with ⟨hc47, hs⟩ | ⟨hc47, hs⟩
        · skip
          refine x_py 5 (.pointer (some ⟨g2, 1, none⟩)) rfl (by kernel_rfl) (tg := 23) (by kernel_rfl) (congrArg Value.bool hc47) (fun _ => y_faddr rfl Fa82x1) (fun _ => hS) ?_
          refine x_ly 6 (.slice pa0 pn0 pc0) rfl (by kernel_rfl) (tg := 23) (by kernel_rfl) (congrArg Value.bool hc47) (fun w' hw' => y_load rfl ((box_load Ag22 Sz22 hb2 [(.int .i64 op.1)] [(.slice pa0 pn0 pc0)] [] rfl rfl (fun _ => rfl)) w' hw')) hS ?_
          refine x_py 7 (.int .i64 k27) rfl (by kernel_rfl) (tg := 23) (by kernel_rfl) (congrArg Value.bool hc47) (fun _ => y_move rfl) (fun _ => hS) ?_
          obtain ⟨x48, hx48, hs⟩ := bind_some hs
          obtain ⟨b49, o49, hp49, ha49⟩ := rs_idx Sl22 Sz3 h0 hx48
          refine x_py 8 (.pointer (some ⟨b49, o49, none⟩)) rfl (by kernel_rfl) (tg := 23) (by kernel_rfl) (congrArg Value.bool hc47) (fun _ => hp49 _ _ _ _ _ _ _ _ _ rfl rfl) (fun _ => hS) ?_
          refine x_ly 9 (.int .i64 x48) rfl (by kernel_rfl) (tg := 23) (by kernel_rfl) (congrArg Value.bool hc47) (fun w' hw' => y_load rfl ((at_load_int Ag3 Sz3 ha49) w' hw')) hS ?_
          refine x_py 10 (.pointer (some ⟨g2, 1, none⟩)) rfl (by kernel_rfl) (tg := 23) (by kernel_rfl) (congrArg Value.bool hc47) (fun _ => y_faddr rfl Fa82x1) (fun _ => hS) ?_
          refine x_ly 11 (.slice pa0 pn0 pc0) rfl (by kernel_rfl) (tg := 23) (by kernel_rfl) (congrArg Value.bool hc47) (fun w' hw' => y_load rfl ((box_load Ag22 Sz22 hb2 [(.int .i64 op.1)] [(.slice pa0 pn0 pc0)] [] rfl rfl (fun _ => rfl)) w' hw')) hS ?_
          refine x_py 12 (.int .i64 k27) rfl (by kernel_rfl) (tg := 23) (by kernel_rfl) (congrArg Value.bool hc47) (fun _ => y_move rfl) (fun _ => hS) ?_
          refine x_py 13 (.int .i64 s39) rfl (by kernel_rfl) (tg := 23) (by kernel_rfl) (congrArg Value.bool hc47) (fun _ => y_move rfl) (fun _ => hS) ?_
          refine x_py 14 (.int .i64 (ior .i64 k27 s39)) rfl (by kernel_rfl) (tg := 23) (by kernel_rfl) (congrArg Value.bool hc47) (fun _ => y_or rfl rfl) (fun _ => hS) ?_
          obtain ⟨x50, hx50, hs⟩ := bind_some hs
          obtain ⟨b51, o51, hp51, ha51⟩ := rs_idx Sl22 Sz3 h0 hx50
          refine x_py 15 (.pointer (some ⟨b51, o51, none⟩)) rfl (by kernel_rfl) (tg := 23) (by kernel_rfl) (congrArg Value.bool hc47) (fun _ => hp51 _ _ _ _ _ _ _ _ _ rfl rfl) (fun _ => hS) ?_
          refine x_ly 16 (.int .i64 x50) rfl (by kernel_rfl) (tg := 23) (by kernel_rfl) (congrArg Value.bool hc47) (fun w' hw' => y_load rfl ((at_load_int Ag3 Sz3 ha51) w' hw')) hS ?_
          refine x_py 17 (.bool (decide (x50 < x48))) rfl (by kernel_rfl) (tg := 23) (by kernel_rfl) (congrArg Value.bool hc47) (fun _ => y_gtr rfl rfl) (fun _ => hS) ?_
          refine x_p 18 (.bool (decide (x50 < x48))) rfl (by kernel_rfl)  (fun _ => y_pick_t (congrArg Value.bool hc47) rfl) (fun _ => hS) ?_
          refine x_end (by kernel_rfl) ?_
          clear hS
          rcases bif_some hs with ⟨hc52, hs⟩ | ⟨hc52, hs⟩
          · skip
            refine c_condT (congrArg Value.bool hc52) ?_
            refine c_seq ?_
            refine c_region ?_
            refine pl_val (.bool false) (y_assign rfl) ?_
            refine c_nil ?_
            refine wp_ret ?_
            cases hs
            exact ⟨_, fr_ovl 38 ⟨rfl, trivial⟩, hC⟩
          · skip
            refine c_condF (congrArg Value.bool hc52) ?_
            refine wp_skip ?_
            refine c_region ?_
            refine pl_val (.int .i64 s39) (y_move rfl) ?_
            refine pl_val (.int .i64 (w64 (s39 * 2))) (y_mul rfl rfl) ?_
            refine pl_val (.int .i64 (w64 (s39 * 2))) (y_assign rfl) ?_
            refine c_nil ?_
            cases hs
            exact ⟨_, fr_ovl 38 ⟨rfl, rfl, rfl, trivial⟩, hC, hO, h0, hb2⟩
        · skip
          refine x_pn 5 rfl (by kernel_rfl) (tg := 23) (by kernel_rfl) (congrArg Value.bool hc47) (fun _ => hS) ?_
          refine x_pn 6 rfl (by kernel_rfl) (tg := 23) (by kernel_rfl) (congrArg Value.bool hc47) (fun _ => hS) ?_
          refine x_pn 7 rfl (by kernel_rfl) (tg := 23) (by kernel_rfl) (congrArg Value.bool hc47) (fun _ => hS) ?_
          refine x_pn 8 rfl (by kernel_rfl) (tg := 23) (by kernel_rfl) (congrArg Value.bool hc47) (fun _ => hS) ?_
          refine x_pn 9 rfl (by kernel_rfl) (tg := 23) (by kernel_rfl) (congrArg Value.bool hc47) (fun _ => hS) ?_
          refine x_pn 10 rfl (by kernel_rfl) (tg := 23) (by kernel_rfl) (congrArg Value.bool hc47) (fun _ => hS) ?_
          refine x_pn 11 rfl (by kernel_rfl) (tg := 23) (by kernel_rfl) (congrArg Value.bool hc47) (fun _ => hS) ?_
          refine x_pn 12 rfl (by kernel_rfl) (tg := 23) (by kernel_rfl) (congrArg Value.bool hc47) (fun _ => hS) ?_
          refine x_pn 13 rfl (by kernel_rfl) (tg := 23) (by kernel_rfl) (congrArg Value.bool hc47) (fun _ => hS) ?_
          refine x_pn 14 rfl (by kernel_rfl) (tg := 23) (by kernel_rfl) (congrArg Value.bool hc47) (fun _ => hS) ?_
          refine x_pn 15 rfl (by kernel_rfl) (tg := 23) (by kernel_rfl) (congrArg Value.bool hc47) (fun _ => hS) ?_
          refine x_pn 16 rfl (by kernel_rfl) (tg := 23) (by kernel_rfl) (congrArg Value.bool hc47) (fun _ => hS) ?_
          refine x_pn 17 rfl (by kernel_rfl) (tg := 23) (by kernel_rfl) (congrArg Value.bool hc47) (fun _ => hS) ?_
          refine x_p 18 (.bool false) rfl (by kernel_rfl)  (fun _ => y_pick_f (congrArg Value.bool hc47) rfl) (fun _ => hS) ?_
          refine x_end (by kernel_rfl) ?_
          clear hS
          refine c_condF (by rfl) ?_
          refine wp_skip ?_
          refine c_region ?_
          refine pl_val (.int .i64 s39) (y_move rfl) ?_
          refine pl_val (.int .i64 (w64 (s39 * 2))) (y_mul rfl rfl) ?_
          refine pl_val (.int .i64 (w64 (s39 * 2))) (y_assign rfl) ?_
          refine c_nil ?_
          cases hs
          exact ⟨_, fr_ovl 38 ⟨rfl, rfl, rfl, trivial⟩, hC, hO, h0, hb2⟩
      · skip
        refine c_condF (congrArg Value.bool hc45) ?_
        refine wp_exit ?_
        cases hs
        exact ⟨rfl, _, fr_ovl 38 ⟨rfl, rfl, trivial⟩, hC, hO, h0, hb2⟩
    · skip
      exact ⟨_, fr_ovl 38 ⟨rfl, rfl, rfl, trivial⟩, hC, hO, h0, hb2⟩
    · cases o43 with
      | nx _ => exact True.intro
      | rt r_ =>
        have hs := after_rt hs
        intro a1 w1 hK
        cases hs
        exact hK
      | br s39 =>
        have hs := after_br hs
        rintro a1 w40 ⟨σ, rfl, hC, hO, h0, hb2⟩
        refine c_region ?_
        refine pl_val (.int .i64 k27) (y_move rfl) ?_
        refine pl_val (.int .i64 (w64 (k27 + 1))) (y_add rfl rfl) ?_
        refine pl_val (.int .i64 (w64 (k27 + 1))) (y_assign rfl) ?_
        refine c_nil ?_
        cases hs
        exact ⟨_, fr_ovl 38 ⟨rfl, congrArg (Value.int .i64) hw, trivial⟩, hC, hO, h0, hb2⟩
  · skip
    exact ⟨_, fr_ovl 38 ⟨rfl, rfl, trivial⟩, hC, hO, h0, hb2⟩
  · cases o29 with
    | nx _ => exact True.intro
    | rt r_ =>
      have hs := after_rt hs
      intro a1 w1 hK
      cases hs
      exact hK
    | br s25 =>
      have hs := after_br hs
      rintro a1 w26 ⟨σ, rfl, hC, hO, h0, hb2⟩
      refine c_seq ?_
      refine c_region ?_
      refine pl_val (.bool true) (y_assign rfl) ?_
      refine c_nil ?_
      refine wp_ret ?_
      cases hs
      exact ⟨_, fr_ovl 38 ⟨rfl, trivial⟩, hC⟩

def k_spec_l18Affine (M : Nat → Prop) (w0 : World) (r : Bool) (a : Act) (w : World) : Prop :=
  ∃ (σ : Nat → Value) , a = fr 51 (ovl σ [(2, (.bool r))]) ∧ Chg [] w0 w
def s_spec_l18Affine (op : Int × (List Int)) : Option (Bool) :=
  (iter (S := Int) (R := Bool) (fun s34 =>
  (bif (decide (s34 < (op.2.length : Int))) then (idx op.2 0).bind fun x47 =>
  (idx op.2 s34).bind fun x49 =>
  (forC (S := Unit) (R := Bool) (fun k60 s58 =>
  (bif ((iand .i64 k60 s34) == 0) then (idx op.2 k60).bind fun x67 =>
  (idx op.2 (ior .i64 k60 s34)).bind fun x69 =>
  (bif (!((x67 != x69) == (x47 != x49))) then some (.rt false) else some (.nx ())) else some (.nx ()))) 0 (op.2.length : Int) ()).bind fun o62 => after o62 (fun r_ => some (.rt r_)) (fun s58 =>
  some (.nx (w64 (s34 * 2)))) else some (.br s34))) FU 1).bind fun o38 => after o38 (fun r_ => some r_) (fun s34 =>
  some true)
set_option maxHeartbeats 4000000 in
theorem c_spec_l18Affine {M : Nat → Prop} {w : World} {pa0 : Option Addr} {pn0 pc0 : Nat} (op : Int × (List Int)) (h0 : (RT.rs (RT.int .i64)).val M w (.slice pa0 pn0 pc0) op.2 ([])) (hM : ∀ g, w.heap.size ≤ g → M g) {r : Bool} (hs : s_spec_l18Affine op = some r) :
    Gives Try.prog 96 [(.agg #[(.int .i64 op.1), (.slice pa0 pn0 pc0)])] w (fun v w' => v = (.bool r) ∧ Chg [] w w') := by
  refine calls_fr Try.func96 rfl Try.ntmps96 (Nat.le_of_ble_eq_true rfl) ?_
  have hO := Own.start (N := Nw w []) hM Nw.fut
  have hC := Chg.refl [] w
  unfold s_spec_l18Affine at hs
  refine wp_mono (Q := KPost (k_spec_l18Affine M w r)) ?_ (fun e a w1 h => ?_)
  rotate_left
  · cases e
    case ret =>
      obtain ⟨σ, rfl, hrest⟩ := h
      exact ret1x Try.results96 (res_tmp rfl) ⟨rfl, hrest⟩
    all_goals exact (h : False).elim
  refine c_seq ?_
  refine c_region ?_
  obtain ⟨w2, g2, ew2, eg2, hC2, hb2⟩ := new_block w [(.int .i64 op.1), (.slice pa0 pn0 pc0)] 82
  refine pl_val (w' := w2) (.pointer (some ⟨g2, 0, none⟩)) (y_box rfl (by rw [ew2, eg2]; kernel_rfl)) ?_
  have h0 := h0.ext hC2
  have hC := hC.ext hC2
  have hO := hO.new (X' := [g2]) hC2 (fun q hq => by rw [List.mem_singleton.1 hq, eg2]; exact Nat.le_refl _) (List.nodup_cons.2 ⟨(fun h => nomatch h), List.nodup_nil⟩) (fun q hq => by rw [List.mem_singleton.1 hq]; exact hb2.lt)
  refine pl_val (.bool false) (y_assign rfl) ?_
  refine c_nil ?_
  refine c_seq ?_
  refine c_seq ?_
  refine c_region ?_
  refine pl_val (.int .i64 1) (y_assign rfl) ?_
  refine c_nil ?_
  obtain ⟨o38, hl39, hs⟩ := bind_some hs
  refine wp_block ?_
  refine wp_iter (id := 0) (I := fun s34 a w35 => ∃ (σ : Nat → Value), a = fr 51 (ovl σ [(1, (.pointer (some ⟨g2, 0, none⟩))), (3, (.int .i64 s34))]) ∧ Chg [] w w35 ∧ Own (Nw w []) M w35 (([g2]) ++ []) ∧ (RT.rs (RT.int .i64)).val M w35 (.slice pa0 pn0 pc0) op.2 ([]) ∧ BoxV w35 g2 82 [(.int .i64 op.1), (.slice pa0 pn0 pc0)]) (J := fun s34 a w35 => ∃ (σ : Nat → Value), a = fr 51 (ovl σ []) ∧ Chg [] w w35 ∧ Own (Nw w []) M w35 (([g2]) ++ []) ∧ (RT.rs (RT.int .i64)).val M w35 (.slice pa0 pn0 pc0) op.2 ([]) ∧ BoxV w35 g2 82 [(.int .i64 op.1), (.slice pa0 pn0 pc0)]) (K := (k_spec_l18Affine M w)) ?_ FU 1 o38 _ _ ?_ hl39 ?_
  · rintro s34 o38 a w35 ⟨σ, rfl, hC, hO, h0, hb2⟩ hs
    refine c_seq ?_
    refine c_seq ?_
    refine c_region ?_
    refine pl_val (.int .i64 s34) (y_move rfl) ?_
    refine pl_val (.pointer (some ⟨g2, 1, none⟩)) (y_faddr rfl Fa82x1) ?_
    refine pl_val (.slice pa0 pn0 pc0) (y_load rfl ((box_load Ag22 Sz22 hb2 [(.int .i64 op.1)] [(.slice pa0 pn0 pc0)] [] rfl rfl (fun _ => rfl)) _ (Chg.refl _ _))) ?_
    refine pl_val (.int .i64 (op.2.length : Int)) (y_len' Sl22 (rs_len h0) rfl) ?_
    refine pl_val (.bool (decide (s34 < (op.2.length : Int)))) (y_lss rfl rfl) ?_
    refine c_nil ?_
    rcases bif_some hs with ⟨hc40, hs⟩ | ⟨hc40, hs⟩
    · skip
      refine c_condT (congrArg Value.bool hc40) ?_
      refine wp_skip ?_
      refine c_seq ?_
      refine wp_block ?_
      refine c_seq ?_
      refine x_start [] Mx rfl ?_
      have hCw46 := Chg.drew w35
      generalize World.drew w35 = w46 at hCw46 ⊢
      have h0 := h0.ext hCw46
      have hb2 := hb2.chg hCw46 (fun h => nomatch h)
      have hC := hC.ext hCw46
      have hO := hO.ext hCw46
      have hS := Chg.refl [] w46
      refine x_p 0 (.pointer (some ⟨g2, 1, none⟩)) rfl (by kernel_rfl)  (fun _ => y_faddr rfl Fa82x1) (fun _ => hS) ?_
      refine x_l 1 (.slice pa0 pn0 pc0) rfl (by kernel_rfl)  (fun w' hw' => y_load rfl ((box_load Ag22 Sz22 hb2 [(.int .i64 op.1)] [(.slice pa0 pn0 pc0)] [] rfl rfl (fun _ => rfl)) w' hw')) hS ?_
      obtain ⟨x47, hx47, hs⟩ := bind_some hs
      obtain ⟨b48, o48, hp48, ha48⟩ := rs_idx Sl22 Sz3 h0 hx47
      refine x_p 2 (.pointer (some ⟨b48, o48, none⟩)) rfl (by kernel_rfl)  (fun _ => hp48 _ _ _ _ _ _ _ _ _ rfl rfl) (fun _ => hS) ?_
      refine x_l 3 (.int .i64 x47) rfl (by kernel_rfl)  (fun w' hw' => y_load rfl ((at_load_int Ag3 Sz3 ha48) w' hw')) hS ?_
      refine x_p 4 (.pointer (some ⟨g2, 1, none⟩)) rfl (by kernel_rfl)  (fun _ => y_faddr rfl Fa82x1) (fun _ => hS) ?_
      refine x_l 5 (.slice pa0 pn0 pc0) rfl (by kernel_rfl)  (fun w' hw' => y_load rfl ((box_load Ag22 Sz22 hb2 [(.int .i64 op.1)] [(.slice pa0 pn0 pc0)] [] rfl rfl (fun _ => rfl)) w' hw')) hS ?_
      refine x_p 6 (.int .i64 s34) rfl (by kernel_rfl)  (fun _ => y_move rfl) (fun _ => hS) ?_
      obtain ⟨x49, hx49, hs⟩ := bind_some hs
      obtain ⟨b50, o50, hp50, ha50⟩ := rs_idx Sl22 Sz3 h0 hx49
      refine x_p 7 (.pointer (some ⟨b50, o50, none⟩)) rfl (by kernel_rfl)  (fun _ => hp50 _ _ _ _ _ _ _ _ _ rfl rfl) (fun _ => hS) ?_
      refine x_l 8 (.int .i64 x49) rfl (by kernel_rfl)  (fun w' hw' => y_load rfl ((at_load_int Ag3 Sz3 ha50) w' hw')) hS ?_
      refine x_p 9 (.bool (x47 != x49)) rfl (by kernel_rfl)  (fun _ => y_neq rfl rfl) (fun _ => hS) ?_
      refine x_p 10 (.bool (x47 != x49)) rfl (by kernel_rfl)  (fun _ => y_assign rfl) (fun _ => hS) ?_
      refine x_end (by kernel_rfl) ?_
      clear hS
      refine c_seq ?_
      refine c_region ?_
      refine pl_val (.int .i64 0) (y_assign rfl) ?_
      refine c_nil ?_
      obtain ⟨o62, hl63, hs⟩ := bind_some hs
      refine wp_block ?_
      refine wp_forC (id := 2) (op.2.length : Int) (I := fun k60 s58 a w59 => ∃ (σ : Nat → Value), a = fr 51 (ovl σ [(1, (.pointer (some ⟨g2, 0, none⟩))), (3, (.int .i64 s34)), (4, (.bool (x47 != x49))), (5, (.int .i64 k60))]) ∧ Chg [] w w59 ∧ Own (Nw w []) M w59 (([g2]) ++ []) ∧ (RT.rs (RT.int .i64)).val M w59 (.slice pa0 pn0 pc0) op.2 ([]) ∧ BoxV w59 g2 82 [(.int .i64 op.1), (.slice pa0 pn0 pc0)]) (J := fun s58 a w59 => ∃ (σ : Nat → Value), a = fr 51 (ovl σ [(1, (.pointer (some ⟨g2, 0, none⟩))), (3, (.int .i64 s34))]) ∧ Chg [] w w59 ∧ Own (Nw w []) M w59 (([g2]) ++ []) ∧ (RT.rs (RT.int .i64)).val M w59 (.slice pa0 pn0 pc0) op.2 ([]) ∧ BoxV w59 g2 82 [(.int .i64 op.1), (.slice pa0 pn0 pc0)]) (K := (k_spec_l18Affine M w)) ?_ ?_ 0 () o62 _ _ ?_ hl63 ?_
      · rintro k60 s58 a w59 ⟨σ, rfl, hC, hO, h0, hb2⟩ hlt
        refine c_seq ?_
        refine c_seq ?_
        refine c_region ?_
        refine pl_val (.int .i64 k60) (y_move rfl) ?_
        refine pl_val (.pointer (some ⟨g2, 1, none⟩)) (y_faddr rfl Fa82x1) ?_
        refine pl_val (.slice pa0 pn0 pc0) (y_load rfl ((box_load Ag22 Sz22 hb2 [(.int .i64 op.1)] [(.slice pa0 pn0 pc0)] [] rfl rfl (fun _ => rfl)) _ (Chg.refl _ _))) ?_
        refine pl_val (.int .i64 (op.2.length : Int)) (y_len' Sl22 (rs_len h0) rfl) ?_
        refine pl_val (.bool (decide (k60 < (op.2.length : Int)))) (y_lss rfl rfl) ?_
        refine c_nil ?_
        refine c_condF (congrArg Value.bool (decide_eq_false hlt)) ?_
        refine wp_exit ?_
        exact ⟨rfl, _, fr_ovl 51 ⟨rfl, rfl, trivial⟩, hC, hO, h0, hb2⟩
      · rintro k60 s58 o62 a w59 ⟨σ, rfl, hC, hO, h0, hb2⟩ hlt hw hs
        refine c_seq ?_
        refine c_seq ?_
        refine c_region ?_
        refine pl_val (.int .i64 k60) (y_move rfl) ?_
        refine pl_val (.pointer (some ⟨g2, 1, none⟩)) (y_faddr rfl Fa82x1) ?_
        refine pl_val (.slice pa0 pn0 pc0) (y_load rfl ((box_load Ag22 Sz22 hb2 [(.int .i64 op.1)] [(.slice pa0 pn0 pc0)] [] rfl rfl (fun _ => rfl)) _ (Chg.refl _ _))) ?_
        refine pl_val (.int .i64 (op.2.length : Int)) (y_len' Sl22 (rs_len h0) rfl) ?_
        refine pl_val (.bool (decide (k60 < (op.2.length : Int)))) (y_lss rfl rfl) ?_
        refine c_nil ?_
        refine c_condT (congrArg Value.bool (decide_eq_true hlt)) ?_
        refine wp_skip ?_
        refine c_seq ?_
        refine wp_block ?_
        refine c_seq ?_
        refine x_start [] Mx rfl ?_
        have hCw65 := Chg.drew w59
        generalize World.drew w59 = w65 at hCw65 ⊢
        have h0 := h0.ext hCw65
        have hb2 := hb2.chg hCw65 (fun h => nomatch h)
        have hC := hC.ext hCw65
        have hO := hO.ext hCw65
        have hS := Chg.refl [] w65
        refine x_p 0 (.int .i64 k60) rfl (by kernel_rfl)  (fun _ => y_move rfl) (fun _ => hS) ?_
        refine x_p 1 (.int .i64 s34) rfl (by kernel_rfl)  (fun _ => y_move rfl) (fun _ => hS) ?_
        refine x_p 2 (.int .i64 (iand .i64 k60 s34)) rfl (by kernel_rfl)  (fun _ => y_and rfl rfl) (fun _ => hS) ?_
        refine x_p 3 (.bool ((iand .i64 k60 s34) == 0)) rfl (by kernel_rfl)  (fun _ => y_eql rfl rfl) (fun _ => hS) ?_
        refine x_p 4 (.bool ((iand .i64 k60 s34) == 0)) rfl (by kernel_rfl)  (fun _ => y_move rfl) (fun _ => hS) ?_
        rcases bif_some hs with ⟨hc66, hs⟩ | ⟨hc66, hs⟩
        · skip
          refine x_py 5 (.pointer (some ⟨g2, 1, none⟩)) rfl (by kernel_rfl) (tg := 34) (by kernel_rfl) (congrArg Value.bool hc66) (fun _ => y_faddr rfl Fa82x1) (fun _ => hS) ?_
          refine x_ly 6 (.slice pa0 pn0 pc0) rfl (by kernel_rfl) (tg := 34) (by kernel_rfl) (congrArg Value.bool hc66) (fun w' hw' => y_load rfl ((box_load Ag22 Sz22 hb2 [(.int .i64 op.1)] [(.slice pa0 pn0 pc0)] [] rfl rfl (fun _ => rfl)) w' hw')) hS ?_
          refine x_py 7 (.int .i64 k60) rfl (by kernel_rfl) (tg := 34) (by kernel_rfl) (congrArg Value.bool hc66) (fun _ => y_move rfl) (fun _ => hS) ?_
          obtain ⟨x67, hx67, hs⟩ := bind_some hs
          obtain ⟨b68, o68, hp68, ha68⟩ := rs_idx Sl22 Sz3 h0 hx67
          refine x_py 8 (.pointer (some ⟨b68, o68, none⟩)) rfl (by kernel_rfl) (tg := 34) (by kernel_rfl) (congrArg Value.bool hc66) (fun _ => hp68 _ _ _ _ _ _ _ _ _ rfl rfl) (fun _ => hS) ?_
          refine x_ly 9 (.int .i64 x67) rfl (by kernel_rfl) (tg := 34) (by kernel_rfl) (congrArg Value.bool hc66) (fun w' hw' => y_load rfl ((at_load_int Ag3 Sz3 ha68) w' hw')) hS ?_
          refine x_py 10 (.pointer (some ⟨g2, 1, none⟩)) rfl (by kernel_rfl) (tg := 34) (by kernel_rfl) (congrArg Value.bool hc66) (fun _ => y_faddr rfl Fa82x1) (fun _ => hS) ?_
          refine x_ly 11 (.slice pa0 pn0 pc0) rfl (by kernel_rfl) (tg := 34) (by kernel_rfl) (congrArg Value.bool hc66) (fun w' hw' => y_load rfl ((box_load Ag22 Sz22 hb2 [(.int .i64 op.1)] [(.slice pa0 pn0 pc0)] [] rfl rfl (fun _ => rfl)) w' hw')) hS ?_
          refine x_py 12 (.int .i64 k60) rfl (by kernel_rfl) (tg := 34) (by kernel_rfl) (congrArg Value.bool hc66) (fun _ => y_move rfl) (fun _ => hS) ?_
          refine x_py 13 (.int .i64 s34) rfl (by kernel_rfl) (tg := 34) (by kernel_rfl) (congrArg Value.bool hc66) (fun _ => y_move rfl) (fun _ => hS) ?_
          refine x_py 14 (.int .i64 (ior .i64 k60 s34)) rfl (by kernel_rfl) (tg := 34) (by kernel_rfl) (congrArg Value.bool hc66) (fun _ => y_or rfl rfl) (fun _ => hS) ?_
          obtain ⟨x69, hx69, hs⟩ := bind_some hs
          obtain ⟨b70, o70, hp70, ha70⟩ := rs_idx Sl22 Sz3 h0 hx69
          refine x_py 15 (.pointer (some ⟨b70, o70, none⟩)) rfl (by kernel_rfl) (tg := 34) (by kernel_rfl) (congrArg Value.bool hc66) (fun _ => hp70 _ _ _ _ _ _ _ _ _ rfl rfl) (fun _ => hS) ?_
          refine x_ly 16 (.int .i64 x69) rfl (by kernel_rfl) (tg := 34) (by kernel_rfl) (congrArg Value.bool hc66) (fun w' hw' => y_load rfl ((at_load_int Ag3 Sz3 ha70) w' hw')) hS ?_
          refine x_py 17 (.bool (x67 != x69)) rfl (by kernel_rfl) (tg := 34) (by kernel_rfl) (congrArg Value.bool hc66) (fun _ => y_neq rfl rfl) (fun _ => hS) ?_
          refine x_py 18 (.bool (x47 != x49)) rfl (by kernel_rfl) (tg := 34) (by kernel_rfl) (congrArg Value.bool hc66) (fun _ => y_move rfl) (fun _ => hS) ?_
          refine x_py 19 (.bool (!((x67 != x69) == (x47 != x49)))) rfl (by kernel_rfl) (tg := 34) (by kernel_rfl) (congrArg Value.bool hc66) (fun _ => y_bneq Try.underlying4 rfl rfl) (fun _ => hS) ?_
          refine x_p 20 (.bool (!((x67 != x69) == (x47 != x49)))) rfl (by kernel_rfl)  (fun _ => y_pick_t (congrArg Value.bool hc66) rfl) (fun _ => hS) ?_
          refine x_end (by kernel_rfl) ?_
          clear hS
          rcases bif_some hs with ⟨hc71, hs⟩ | ⟨hc71, hs⟩
          · skip
            refine c_condT (congrArg Value.bool hc71) ?_
            refine c_seq ?_
            refine c_region ?_
            refine pl_val (.bool false) (y_assign rfl) ?_
            refine c_nil ?_
            refine wp_ret ?_
            cases hs
            exact ⟨_, fr_ovl 51 ⟨rfl, trivial⟩, hC⟩
          · skip
            refine c_condF (congrArg Value.bool hc71) ?_
            refine wp_skip ?_
            refine c_region ?_
            refine pl_val (.int .i64 k60) (y_move rfl) ?_
            refine pl_val (.int .i64 (w64 (k60 + 1))) (y_add rfl rfl) ?_
            refine pl_val (.int .i64 (w64 (k60 + 1))) (y_assign rfl) ?_
            refine c_nil ?_
            cases hs
            exact ⟨_, fr_ovl 51 ⟨rfl, rfl, rfl, congrArg (Value.int .i64) hw, trivial⟩, hC, hO, h0, hb2⟩
        · skip
          refine x_pn 5 rfl (by kernel_rfl) (tg := 34) (by kernel_rfl) (congrArg Value.bool hc66) (fun _ => hS) ?_
          refine x_pn 6 rfl (by kernel_rfl) (tg := 34) (by kernel_rfl) (congrArg Value.bool hc66) (fun _ => hS) ?_
          refine x_pn 7 rfl (by kernel_rfl) (tg := 34) (by kernel_rfl) (congrArg Value.bool hc66) (fun _ => hS) ?_
          refine x_pn 8 rfl (by kernel_rfl) (tg := 34) (by kernel_rfl) (congrArg Value.bool hc66) (fun _ => hS) ?_
          refine x_pn 9 rfl (by kernel_rfl) (tg := 34) (by kernel_rfl) (congrArg Value.bool hc66) (fun _ => hS) ?_
          refine x_pn 10 rfl (by kernel_rfl) (tg := 34) (by kernel_rfl) (congrArg Value.bool hc66) (fun _ => hS) ?_
          refine x_pn 11 rfl (by kernel_rfl) (tg := 34) (by kernel_rfl) (congrArg Value.bool hc66) (fun _ => hS) ?_
          refine x_pn 12 rfl (by kernel_rfl) (tg := 34) (by kernel_rfl) (congrArg Value.bool hc66) (fun _ => hS) ?_
          refine x_pn 13 rfl (by kernel_rfl) (tg := 34) (by kernel_rfl) (congrArg Value.bool hc66) (fun _ => hS) ?_
          refine x_pn 14 rfl (by kernel_rfl) (tg := 34) (by kernel_rfl) (congrArg Value.bool hc66) (fun _ => hS) ?_
          refine x_pn 15 rfl (by kernel_rfl) (tg := 34) (by kernel_rfl) (congrArg Value.bool hc66) (fun _ => hS) ?_
          refine x_pn 16 rfl (by kernel_rfl) (tg := 34) (by kernel_rfl) (congrArg Value.bool hc66) (fun _ => hS) ?_
          refine x_pn 17 rfl (by kernel_rfl) (tg := 34) (by kernel_rfl) (congrArg Value.bool hc66) (fun _ => hS) ?_
          refine x_pn 18 rfl (by kernel_rfl) (tg := 34) (by kernel_rfl) (congrArg Value.bool hc66) (fun _ => hS) ?_
          refine x_pn 19 rfl (by kernel_rfl) (tg := 34) (by kernel_rfl) (congrArg Value.bool hc66) (fun _ => hS) ?_
          refine x_p 20 (.bool false) rfl (by kernel_rfl)  (fun _ => y_pick_f (congrArg Value.bool hc66) rfl) (fun _ => hS) ?_
          refine x_end (by kernel_rfl) ?_
          clear hS
          refine c_condF (by rfl) ?_
          refine wp_skip ?_
          refine c_region ?_
          refine pl_val (.int .i64 k60) (y_move rfl) ?_
          refine pl_val (.int .i64 (w64 (k60 + 1))) (y_add rfl rfl) ?_
          refine pl_val (.int .i64 (w64 (k60 + 1))) (y_assign rfl) ?_
          refine c_nil ?_
          cases hs
          exact ⟨_, fr_ovl 51 ⟨rfl, rfl, rfl, congrArg (Value.int .i64) hw, trivial⟩, hC, hO, h0, hb2⟩
      · skip
        exact ⟨_, fr_ovl 51 ⟨rfl, rfl, rfl, rfl, trivial⟩, hC, hO, h0, hb2⟩
      · cases o62 with
        | nx _ => exact True.intro
        | rt r_ =>
          have hs := after_rt hs
          intro a1 w1 hK
          cases hs
          exact hK
        | br s58 =>
          have hs := after_br hs
          rintro a1 w59 ⟨σ, rfl, hC, hO, h0, hb2⟩
          refine c_region ?_
          refine pl_val (.int .i64 s34) (y_move rfl) ?_
          refine pl_val (.int .i64 (w64 (s34 * 2))) (y_mul rfl rfl) ?_
          refine pl_val (.int .i64 (w64 (s34 * 2))) (y_assign rfl) ?_
          refine c_nil ?_
          cases hs
          exact ⟨_, fr_ovl 51 ⟨rfl, rfl, trivial⟩, hC, hO, h0, hb2⟩
    · skip
      refine c_condF (congrArg Value.bool hc40) ?_
      refine wp_exit ?_
      cases hs
      exact ⟨rfl, _, fr_ovl 51 trivial, hC, hO, h0, hb2⟩
  · skip
    exact ⟨_, fr_ovl 51 ⟨rfl, rfl, trivial⟩, hC, hO, h0, hb2⟩
  · cases o38 with
    | nx _ => exact True.intro
    | rt r_ =>
      have hs := after_rt hs
      intro a1 w1 hK
      cases hs
      exact hK
    | br s34 =>
      have hs := after_br hs
      rintro a1 w35 ⟨σ, rfl, hC, hO, h0, hb2⟩
      refine c_seq ?_
      refine c_region ?_
      refine pl_val (.bool true) (y_assign rfl) ?_
      refine c_nil ?_
      refine wp_ret ?_
      cases hs
      exact ⟨_, fr_ovl 51 ⟨rfl, trivial⟩, hC⟩

theorem Bd94 : Bodied Try.prog 94 := bodied Try.func94 (by kernel_rfl) rfl

theorem Sl57 : SlT Try.prog 57 4 := Try.underlying57

theorem Sz4 : SzT Try.prog 4 1 := ⟨_, rfl, rfl⟩

theorem Ag4 : AggT Try.prog 4 false := fun _ => by kernel_rfl

theorem Bd95 : Bodied Try.prog 95 := bodied Try.func95 (by kernel_rfl) rfl

theorem Bd96 : Bodied Try.prog 96 := bodied Try.func96 (by kernel_rfl) rfl

def k_spec_PostClasses (M : Nat → Prop) (w0 : World) (r : (List Bool) × Bool) (a : Act) (w : World) : Prop :=
  ∃ (σ : Nat → Value) (ra0 : Option Addr) (rn0 rc0 : Nat) (rf0 : List Nat), a = fr 104 (ovl σ [(2, (.slice ra0 rn0 rc0)), (3, (.bool r.2))]) ∧ Chg [] w0 w ∧ (RT.os 4 RT.bool).val M w (.slice ra0 rn0 rc0) r.1 rf0 ∧ Own (Nw w0 []) (fun _ => True) w (rf0 ++ ([]))
def s_spec_PostClasses (a_ : Int × (List (Int × (List Int)))) : Option ((List Bool) × Bool) :=
  ((s_spec_l2Good (a_.1, a_.2)).bind fun r7 =>
  (bif (!r7) then some true else some (a_.1 != 2))).bind fun s3 =>
  (bif s3 then some ([], false) else (forC (S := (List Bool)) (R := (List Bool) × Bool) (fun k387 s385 =>
  (idx a_.2 k387).bind fun x393 =>
  ((idx s385 0).bind fun x425 =>
  (bif x425 then (idx x393.2 0).bind fun x428 =>
  (idx s385 0).bind fun x430 =>
  some (List.set s385 (Int.toNat 0) (x428 == 0)) else (idx s385 0).bind fun x433 =>
  some (List.set s385 (Int.toNat 0) false))).bind fun s421 =>
  ((idx s421 1).bind fun x463 =>
  (bif x463 then (idx x393.2 (w64 ((x393.2.length : Int) - 1))).bind fun x466 =>
  (idx s421 1).bind fun x468 =>
  some (List.set s421 (Int.toNat 1) (x466 == 1)) else (idx s421 1).bind fun x471 =>
  some (List.set s421 (Int.toNat 1) false))).bind fun s459 =>
  ((idx s459 2).bind fun x501 =>
  (bif x501 then (s_spec_l18Monotone (x393.1, x393.2)).bind fun r505 =>
  (idx s459 2).bind fun x506 =>
  some (List.set s459 (Int.toNat 2) r505) else (idx s459 2).bind fun x509 =>
  some (List.set s459 (Int.toNat 2) false))).bind fun s497 =>
  (iter (S := Int × (List Bool)) (R := (List Bool) × Bool) (fun s544 =>
  (bif (decide (s544.1 ≤ (w64 ((x393.2.length : Int) - 1)))) then (idx s544.2 3).bind fun x554 =>
  (bif x554 then (idx x393.2 s544.1).bind fun x557 =>
  (idx x393.2 (w64 ((w64 ((x393.2.length : Int) - 1)) - s544.1))).bind fun x559 =>
  (idx s544.2 3).bind fun x561 =>
  some (.nx (w64 (s544.1 + 1), List.set s544.2 (Int.toNat 3) (x557 != x559))) else (idx s544.2 3).bind fun x564 =>
  some (.nx (w64 (s544.1 + 1), List.set s544.2 (Int.toNat 3) false))) else some (.br (s544.1, s544.2)))) FU (0, s497)).bind fun o548 => after o548 (fun r_ => some (.rt r_)) (fun s544 =>
  (idx s544.2 4).bind fun x567 =>
  (bif x567 then (s_spec_l18Affine (x393.1, x393.2)).bind fun r571 =>
  (idx s544.2 4).bind fun x572 =>
  some (.nx (List.set s544.2 (Int.toNat 4) r571)) else (idx s544.2 4).bind fun x575 =>
  some (.nx (List.set s544.2 (Int.toNat 4) false))))) 0 (a_.2.length : Int) ([true, true, true, true, true])).bind fun o389 => after o389 (fun r_ => some r_) (fun s385 =>
  some (s385, true)))
set_option maxHeartbeats 4000000 in
theorem c_spec_PostClasses {M : Nat → Prop} {w : World} {pa0 : Option Addr} {pn0 pc0 : Nat} (a_ : Int × (List (Int × (List Int)))) (h0 : (RT.rs (RT.pr (RT.int .i64) (RT.rs (RT.int .i64)))).val M w (.slice pa0 pn0 pc0) a_.2 ([])) (hM : ∀ g, w.heap.size ≤ g → M g) {r : (List Bool) × Bool} (hs : s_spec_PostClasses a_ = some r) :
    Gives Try.prog 36 [(.agg #[(.int .i64 a_.1), (.slice pa0 pn0 pc0)])] w (fun v w' => ∃ (ra0 : Option Addr) (rn0 rc0 : Nat) (rf0 : List Nat), v = (.tuple #[(.slice ra0 rn0 rc0), (.bool r.2)]) ∧ Chg [] w w' ∧ (RT.os 4 RT.bool).val M w' (.slice ra0 rn0 rc0) r.1 rf0 ∧ Own (Nw w []) (fun _ => True) w' (rf0 ++ ([]))) := by
  refine calls_fr Try.func36 rfl Try.ntmps36 (Nat.le_of_ble_eq_true rfl) ?_
  have hO := Own.start (N := Nw w []) hM Nw.fut
  have hC := Chg.refl [] w
  unfold s_spec_PostClasses at hs
  refine wp_mono (Q := KPost (k_spec_PostClasses M w r)) ?_ (fun e a w1 h => ?_)
  rotate_left
  · cases e
    case ret =>
      obtain ⟨σ, ra0, rn0, rc0, rf0, rfl, hrest⟩ := h
      exact ret2x Try.results36 (res_tmp rfl) (res_tmp rfl) ⟨ra0, rn0, rc0, rf0, rfl, hrest⟩
    all_goals exact (h : False).elim
  refine c_seq ?_
  refine c_region ?_
  obtain ⟨w2, g2, ew2, eg2, hC2, hb2⟩ := new_block w [(.int .i64 a_.1), (.slice pa0 pn0 pc0)] 62
  refine pl_val (w' := w2) (.pointer (some ⟨g2, 0, none⟩)) (y_box rfl (by rw [ew2, eg2]; kernel_rfl)) ?_
  have h0 := h0.ext hC2
  have hC := hC.ext hC2
  have hO := hO.new (X' := [g2]) hC2 (fun q hq => by rw [List.mem_singleton.1 hq, eg2]; exact Nat.le_refl _) (List.nodup_cons.2 ⟨(fun h => nomatch h), List.nodup_nil⟩) (fun q hq => by rw [List.mem_singleton.1 hq]; exact hb2.lt)
  refine pl_val (.slice none 0 0) (y_assign rfl) ?_
  refine pl_val (.bool false) (y_assign rfl) ?_
  refine c_nil ?_
  refine c_seq ?_
  refine c_seq ?_
  obtain ⟨s3, hm5, hs⟩ := bind_some hs
  refine c_mid (I := fun a w4 => ∃ (σ : Nat → Value), a = fr 104 (ovl σ [(1, (.pointer (some ⟨g2, 0, none⟩))), (2, (.slice none 0 0)), (3, (.bool false)), (16, (.bool s3))]) ∧ Chg [] w2 w4) ?_ ?_
  · replace hs := hm5
    have hMid := Chg.refl [] w2
    refine c_region ?_
    refine pl_val (.agg #[(.int .i64 a_.1), (.slice pa0 pn0 pc0)]) (y_load rfl ((box_load Ag62 Sz62 hb2 [] [(.int .i64 a_.1), (.slice pa0 pn0 pc0)] [] rfl rfl (fun h => nomatch h)) _ (Chg.refl _ _))) ?_
    obtain ⟨r7, hr7, hs⟩ := bind_some hs
    refine pl_call Bd94 rfl (c_spec_l2Good (M := M) (a_.1, a_.2) h0 hO.fut hr7) ?_
    rintro _ w6 ⟨rfl, hC6⟩
    have h0 := h0.ext hC6
    have hb2 := hb2.chg hC6 (fun h => nomatch h)
    have hMid := hMid.ext hC6
    have hC := hC.ext hC6
    have hO := hO.ext hC6
    refine pl_val (.bool (!r7)) (y_not rfl) ?_
    refine pl_val (.bool (!r7)) (y_move rfl) ?_
    rcases bif_some hs with ⟨hc8, hs⟩ | ⟨hc8, hs⟩
    · skip
      refine pl_not (tg := 12) (by kernel_rfl) (congrArg Value.bool hc8) ?_
      refine pl_not (tg := 12) (by kernel_rfl) (congrArg Value.bool hc8) ?_
      refine pl_not (tg := 12) (by kernel_rfl) (congrArg Value.bool hc8) ?_
      refine pl_val (.bool true) (y_pick_t (congrArg Value.bool hc8) rfl) ?_
      refine c_nil ?_
      cases hs
      exact ⟨_, fr_ovl 104 ⟨rfl, rfl, rfl, rfl, trivial⟩, hMid⟩
    · skip
      refine pl_yes (.pointer (some ⟨g2, 0, none⟩)) (tg := 12) (by kernel_rfl) (congrArg Value.bool hc8) (y_faddr rfl Fa62x0) ?_
      refine pl_yes (.int .i64 a_.1) (tg := 12) (by kernel_rfl) (congrArg Value.bool hc8) (y_load rfl ((box_load Ag3 Sz3 hb2 [] [(.int .i64 a_.1)] [(.slice pa0 pn0 pc0)] rfl rfl (fun _ => rfl)) _ (Chg.refl _ _))) ?_
      refine pl_yes (.bool (a_.1 != 2)) (tg := 12) (by kernel_rfl) (congrArg Value.bool hc8) (y_neq rfl rfl) ?_
      refine pl_val (.bool (a_.1 != 2)) (y_pick_f (congrArg Value.bool hc8) rfl) ?_
      refine c_nil ?_
      cases hs
      exact ⟨_, fr_ovl 104 ⟨rfl, rfl, rfl, rfl, trivial⟩, hMid⟩
  · rintro a1 w4 ⟨σ, rfl, hCs3⟩
    have h0 := h0.ext hCs3
    have hb2 := hb2.chg hCs3 (fun h => nomatch h)
    have hC := hC.ext hCs3
    have hO := hO.ext hCs3
    rcases bif_some hs with ⟨hc9, hs⟩ | ⟨hc9, hs⟩
    · skip
      refine c_condT (congrArg Value.bool hc9) ?_
      refine c_seq ?_
      refine c_region ?_
      obtain ⟨w10, g10, ew10, eg10, hC10, hb10⟩ := new_block w4 [] 4
      refine pl_val (w' := w10) (.slice (some ⟨g10, 0, none⟩) 0 0) (y_bslice rfl (by rw [ew10, eg10]; kernel_rfl)) ?_
      have h0 := h0.ext hC10
      have hb2 := hb2.chg hC10 (fun h => nomatch h)
      have hC := hC.ext hC10
      have hO := hO.new (X' := [g10]) hC10 (fun q hq => by rw [List.mem_singleton.1 hq, eg10]; exact Nat.le_refl _) (List.nodup_cons.2 ⟨(fun h => nomatch h), List.nodup_nil⟩) (fun q hq => by rw [List.mem_singleton.1 hq]; exact hb10.lt)
      have hv10 := os_of_box (r := RT.bool) (M := M) (css := []) (fps := []) (xs := ([] : List Bool)) hb10 trivial (Nat.zero_le _) (List.nodup_cons.2 ⟨(fun h => nomatch h), List.nodup_nil⟩)
      have hv10 : (RT.os 4 RT.bool).val M w10 (.slice (some ⟨g10, 0, none⟩) 0 0) [] [g10] := hv10
      refine pl_val (.slice (some ⟨g10, 0, none⟩) 0 0) (y_assign rfl) ?_
      refine pl_val (.bool false) (y_assign rfl) ?_
      refine c_nil ?_
      refine wp_ret ?_
      cases hs
      have hO := hO.fr1
      have hO := hO.drop
      exact ⟨_, (some ⟨g10, 0, none⟩), 0, 0, ([g10]), fr_ovl 104 ⟨rfl, rfl, trivial⟩, hC, hv10, hO.top⟩
    · skip
      refine c_condF (congrArg Value.bool hc9) ?_
      refine wp_skip ?_
      refine c_seq ?_
      refine c_region ?_
      obtain ⟨w12, g12, ew12, eg12, hC12, hb12⟩ := new_block w4 [(.bool true), (.bool true), (.bool true), (.bool true), (.bool true)] 4
      refine pl_val (w' := w12) (.slice (some ⟨g12, 0, none⟩) 5 5) (y_bslice rfl (by rw [ew12, eg12]; kernel_rfl)) ?_
      have h0 := h0.ext hC12
      have hb2 := hb2.chg hC12 (fun h => nomatch h)
      have hC := hC.ext hC12
      have hO := hO.new (X' := [g12]) hC12 (fun q hq => by rw [List.mem_singleton.1 hq, eg12]; exact Nat.le_refl _) (List.nodup_cons.2 ⟨(fun h => nomatch h), List.nodup_nil⟩) (fun q hq => by rw [List.mem_singleton.1 hq]; exact hb12.lt)
      have hv12 := os_of_box (r := RT.bool) (M := M) (css := [[(.bool true)], [(.bool true)], [(.bool true)], [(.bool true)], [(.bool true)]]) (fps := [([] : List Nat), ([] : List Nat), ([] : List Nat), ([] : List Nat), ([] : List Nat)]) (xs := ([true, true, true, true, true] : List Bool)) hb12 ⟨⟨rfl, rfl⟩, ⟨⟨rfl, rfl⟩, ⟨⟨rfl, rfl⟩, ⟨⟨rfl, rfl⟩, ⟨⟨rfl, rfl⟩, trivial⟩⟩⟩⟩⟩ (Nat.le_of_ble_eq_true rfl) (List.nodup_cons.2 ⟨(fun h => nomatch h), List.nodup_nil⟩)
      have hv12 : (RT.os 4 RT.bool).val M w12 (.slice (some ⟨g12, 0, none⟩) 5 5) [true, true, true, true, true] [g12] := hv12
      refine pl_val (.slice (some ⟨g12, 0, none⟩) 5 5) (y_assign rfl) ?_
      refine c_nil ?_
      refine c_seq ?_
      refine c_seq ?_
      refine c_region ?_
      refine pl_val (.int .i64 0) (y_assign rfl) ?_
      refine c_nil ?_
      obtain ⟨o389, hl390, hs⟩ := bind_some hs
      refine wp_block ?_
      refine wp_forC (id := 0) (a_.2.length : Int) (I := fun k387 s385 a w386 => ∃ (σ : Nat → Value) (f391 : List Nat), a = fr 104 (ovl σ [(1, (.pointer (some ⟨g2, 0, none⟩))), (4, (.slice (some ⟨g12, 0, none⟩) 5 5)), (5, (.int .i64 k387))]) ∧ Chg [] w w386 ∧ Own (Nw w []) M w386 (f391 ++ (([g2]) ++ [])) ∧ (RT.rs (RT.pr (RT.int .i64) (RT.rs (RT.int .i64)))).val M w386 (.slice pa0 pn0 pc0) a_.2 ([]) ∧ BoxV w386 g2 62 [(.int .i64 a_.1), (.slice pa0 pn0 pc0)] ∧ (RT.os 4 RT.bool).val M w386 (.slice (some ⟨g12, 0, none⟩) 5 5) s385 f391) (J := fun s385 a w386 => ∃ (σ : Nat → Value) (f392 : List Nat), a = fr 104 (ovl σ [(4, (.slice (some ⟨g12, 0, none⟩) 5 5))]) ∧ Chg [] w w386 ∧ Own (Nw w []) M w386 (f392 ++ (([g2]) ++ [])) ∧ (RT.rs (RT.pr (RT.int .i64) (RT.rs (RT.int .i64)))).val M w386 (.slice pa0 pn0 pc0) a_.2 ([]) ∧ BoxV w386 g2 62 [(.int .i64 a_.1), (.slice pa0 pn0 pc0)] ∧ (RT.os 4 RT.bool).val M w386 (.slice (some ⟨g12, 0, none⟩) 5 5) s385 f392) (K := (k_spec_PostClasses M w)) ?_ ?_ 0 ([true, true, true, true, true]) o389 _ _ ?_ hl390 ?_
      · rintro k387 s385 a w386 ⟨σ, f391, rfl, hC, hO, h0, hb2, hv391⟩ hlt
        refine c_seq ?_
        refine c_seq ?_
        refine c_region ?_
        refine pl_val (.int .i64 k387) (y_move rfl) ?_
        refine pl_val (.pointer (some ⟨g2, 1, none⟩)) (y_faddr rfl Fa62x1) ?_
        refine pl_val (.slice pa0 pn0 pc0) (y_load rfl ((box_load Ag60 Sz60 hb2 [(.int .i64 a_.1)] [(.slice pa0 pn0 pc0)] [] rfl rfl (fun _ => rfl)) _ (Chg.refl _ _))) ?_
        refine pl_val (.int .i64 (a_.2.length : Int)) (y_len' Sl60 (rs_len h0) rfl) ?_
        refine pl_val (.bool (decide (k387 < (a_.2.length : Int)))) (y_lss rfl rfl) ?_
        refine c_nil ?_
        refine c_condF (congrArg Value.bool (decide_eq_false hlt)) ?_
        refine wp_exit ?_
        have hO := hO.fr1
        have hO := hO.fr1
        exact ⟨rfl, _, f391, fr_ovl 104 ⟨rfl, trivial⟩, hC, hO, h0, hb2, hv391⟩
      · rintro k387 s385 o389 a w386 ⟨σ, f391, rfl, hC, hO, h0, hb2, hv391⟩ hlt hw hs
        refine c_seq ?_
        refine c_seq ?_
        refine c_region ?_
        refine pl_val (.int .i64 k387) (y_move rfl) ?_
        refine pl_val (.pointer (some ⟨g2, 1, none⟩)) (y_faddr rfl Fa62x1) ?_
        refine pl_val (.slice pa0 pn0 pc0) (y_load rfl ((box_load Ag60 Sz60 hb2 [(.int .i64 a_.1)] [(.slice pa0 pn0 pc0)] [] rfl rfl (fun _ => rfl)) _ (Chg.refl _ _))) ?_
        refine pl_val (.int .i64 (a_.2.length : Int)) (y_len' Sl60 (rs_len h0) rfl) ?_
        refine pl_val (.bool (decide (k387 < (a_.2.length : Int)))) (y_lss rfl rfl) ?_
        refine c_nil ?_
        refine c_condT (congrArg Value.bool (decide_eq_true hlt)) ?_
        refine wp_skip ?_
        refine c_seq ?_
        refine wp_block ?_
        refine c_seq ?_
        refine c_region ?_
        refine pl_val (.pointer (some ⟨g2, 1, none⟩)) (y_faddr rfl Fa62x1) ?_
        refine pl_val (.slice pa0 pn0 pc0) (y_load rfl ((box_load Ag60 Sz60 hb2 [(.int .i64 a_.1)] [(.slice pa0 pn0 pc0)] [] rfl rfl (fun _ => rfl)) _ (Chg.refl _ _))) ?_
        refine pl_val (.int .i64 k387) (y_move rfl) ?_
        obtain ⟨x393, hx393, hs⟩ := bind_some hs
        obtain ⟨b394, o394, hp394, ha394⟩ := rs_idx Sl60 Sz82 h0 hx393
        refine pl_val (.pointer (some ⟨b394, o394, none⟩)) (hp394 _ _ _ _ _ _ _ _ _ rfl rfl) ?_
        obtain ⟨v395, hl395, hv395⟩ := at_load Ag82 Sz82 (by intro h; cases h) ha394
        obtain ⟨cs395, rfl, hr395⟩ := hv395
        obtain ⟨cc395x1, cd395x1, rfl, hh395x1, ht395x1⟩ := pr_open hr395
        obtain rfl := int_rel hh395x1
        obtain ⟨a395x2, n395x2, c395x2, rfl, hv395x2⟩ := rs_rel ht395x1
        refine pl_val (.agg #[(.int .i64 x393.1), (.slice a395x2 n395x2 c395x2)]) (y_load rfl (hl395 _ (Chg.refl _ _))) ?_
        obtain ⟨w397, g397, ew397, eg397, hC397, hb397⟩ := new_block w386 [(.int .i64 0), (.slice none 0 0)] 82
        refine pl_val (w' := w397) (.pointer (some ⟨g397, 0, none⟩)) (y_alloc (by rw [ew397, eg397]; kernel_rfl)) ?_
        have h0 := h0.ext hC397
        have hb2 := hb2.chg hC397 (fun h => nomatch h)
        have hv391 := hv391.ext hC397
        have hv395x2 := hv395x2.ext hC397
        have hC := hC.ext hC397
        have hO := hO.new (X' := [g397]) hC397 (fun q hq => by rw [List.mem_singleton.1 hq, eg397]; exact Nat.le_refl _) (List.nodup_cons.2 ⟨(fun h => nomatch h), List.nodup_nil⟩) (fun q hq => by rw [List.mem_singleton.1 hq]; exact hb397.lt)
        obtain ⟨w398, hst398, hC398, hb398⟩ := box_store (P := Try.prog) hb397 [] [(.int .i64 0), (.slice none 0 0)] [] [(.int .i64 x393.1), (.slice a395x2 n395x2 c395x2)] rfl rfl (by intro u hu; simp only [List.mem_cons, List.not_mem_nil, or_false] at hu; rcases hu with rfl | rfl <;> rfl)
        refine pl_skip (w' := w398) (ys_store rfl rfl (hst398 _ _ rfl Sz82)) ?_
        have h0 := h0.mut hC398 (fun g hg => hO.inM g ((fun _ h => h) g hg)) (fun _ _ h => nomatch h)
        have hb2 := hb2.chg hC398 (fun hg => hO.apart _ ((fun _ h => h) _ hg) (mem_r (mem_l (List.mem_singleton.2 rfl))))
        have hv391 := hv391.mut hC398 (fun g hg => hO.inM g ((fun _ h => h) g hg)) (fun g hg e => hO.apart g ((fun _ h => h) g hg) (mem_l (e)))
        have hv395x2 := hv395x2.mut hC398 (fun g hg => hO.inM g ((fun _ h => h) g hg)) (fun _ _ h => nomatch h)
        have hC := hC.step hC398 (fun g hg => hO.inN g ((fun _ h => h) g hg))
        have hO := hO.ext hC398
        have hb398 : BoxV w398 g397 82 [(.int .i64 x393.1), (.slice a395x2 n395x2 c395x2)] := hb398
        refine c_nil ?_
        refine c_seq ?_
        refine c_region ?_
        refine pl_val (.pointer (some ⟨g397, 1, none⟩)) (y_faddr rfl Fa82x1) ?_
        refine pl_val (.slice a395x2 n395x2 c395x2) (y_load rfl ((box_load Ag22 Sz22 hb398 [(.int .i64 x393.1)] [(.slice a395x2 n395x2 c395x2)] [] rfl rfl (fun _ => rfl)) _ (Chg.refl _ _))) ?_
        refine pl_val (.int .i64 (x393.2.length : Int)) (y_len' Sl22 (rs_len hv395x2) rfl) ?_
        refine pl_val (.int .i64 (w64 ((x393.2.length : Int) - 1))) (y_sub rfl rfl) ?_
        refine pl_val (.int .i64 (w64 ((x393.2.length : Int) - 1))) (y_assign rfl) ?_
        refine c_nil ?_
        refine c_seq ?_
        obtain ⟨s421, hm423, hs⟩ := bind_some hs
        refine c_mid (I := fun a w422 => ∃ (σ : Nat → Value) (f424 : List Nat), a = fr 104 (ovl σ [(1, (.pointer (some ⟨g2, 0, none⟩))), (4, (.slice (some ⟨g12, 0, none⟩) 5 5)), (5, (.int .i64 k387)), (6, (.pointer (some ⟨g397, 0, none⟩))), (7, (.int .i64 (w64 ((x393.2.length : Int) - 1))))]) ∧ Chg [] w w422 ∧ Own (Nw w []) M w422 (([g397]) ++ (f424 ++ (([g2]) ++ []))) ∧ (RT.rs (RT.pr (RT.int .i64) (RT.rs (RT.int .i64)))).val M w422 (.slice pa0 pn0 pc0) a_.2 ([]) ∧ BoxV w422 g2 62 [(.int .i64 a_.1), (.slice pa0 pn0 pc0)] ∧ (RT.os 4 RT.bool).val M w422 (.slice (some ⟨g12, 0, none⟩) 5 5) s421 f424 ∧ (RT.rs (RT.int .i64)).val M w422 (.slice a395x2 n395x2 c395x2) x393.2 ([]) ∧ BoxV w422 g397 82 [(.int .i64 x393.1), (.slice a395x2 n395x2 c395x2)]) ?_ ?_
        · replace hs := hm423
          refine c_region ?_
          refine pl_val (.slice (some ⟨g12, 0, none⟩) 5 5) (y_move rfl) ?_
          refine pl_val (.slice (some ⟨g12, 0, none⟩) 5 5) (y_move rfl) ?_
          obtain ⟨x425, hx425, hs⟩ := bind_some hs
          obtain ⟨g426, f426, hg426, hk426, hp426, ha426, hf426⟩ := os_idx Sl57 Sz4 hv391 hx425
          refine pl_val (.pointer (some ⟨g426, 0 + Int.toNat 0 * 1, none⟩)) (hp426 _ _ _ _ _ _ _ _ _ rfl rfl) ?_
          refine pl_val (.bool x425) (y_load rfl ((at_load_bool Ag4 Sz4 ha426) _ (Chg.refl _ _))) ?_
          refine pl_val (.bool x425) (y_move rfl) ?_
          rcases bif_some hs with ⟨hc427, hs⟩ | ⟨hc427, hs⟩
          · skip
            refine pl_yes (.pointer (some ⟨g397, 1, none⟩)) (tg := 39) (by kernel_rfl) (congrArg Value.bool hc427) (y_faddr rfl Fa82x1) ?_
            refine pl_yes (.slice a395x2 n395x2 c395x2) (tg := 39) (by kernel_rfl) (congrArg Value.bool hc427) (y_load rfl ((box_load Ag22 Sz22 hb398 [(.int .i64 x393.1)] [(.slice a395x2 n395x2 c395x2)] [] rfl rfl (fun _ => rfl)) _ (Chg.refl _ _))) ?_
            obtain ⟨x428, hx428, hs⟩ := bind_some hs
            obtain ⟨b429, o429, hp429, ha429⟩ := rs_idx Sl22 Sz3 hv395x2 hx428
            refine pl_yes (.pointer (some ⟨b429, o429, none⟩)) (tg := 39) (by kernel_rfl) (congrArg Value.bool hc427) (hp429 _ _ _ _ _ _ _ _ _ rfl rfl) ?_
            refine pl_yes (.int .i64 x428) (tg := 39) (by kernel_rfl) (congrArg Value.bool hc427) (y_load rfl ((at_load_int Ag3 Sz3 ha429) _ (Chg.refl _ _))) ?_
            refine pl_yes (.bool (x428 == 0)) (tg := 39) (by kernel_rfl) (congrArg Value.bool hc427) (y_eql rfl rfl) ?_
            refine pl_val (.bool (x428 == 0)) (y_pick_t (congrArg Value.bool hc427) rfl) ?_
            obtain ⟨x430, hx430, hs⟩ := bind_some hs
            obtain ⟨g431, f431, hg431, hk431, hp431, ha431, hf431⟩ := os_idx Sl57 Sz4 hv391 hx430
            refine pl_val (.pointer (some ⟨g431, 0 + Int.toNat 0 * 1, none⟩)) (hp431 _ _ _ _ _ _ _ _ _ rfl rfl) ?_
            have hO := hO.fr1
            obtain ⟨w432, f432, hst432, hC432, hf432, hv432⟩ := os_store (P := Try.prog) (c' := [(.bool (x428 == 0))]) hg431 hv391 hk431 (fun g hg => hO.inM g (os_block hv391 g (by simpa using hg))) ⟨rfl, rfl⟩ List.nodup_nil (fun _ h => nomatch h) (fun _ h => .inl h)
            have hG432 : ∀ q ∈ [g431], q ∈ f391 := fun q hq => os_block hv391 q (by rw [hg431]; exact hq)
            refine pl_skip (w' := w432) (ys_store rfl rfl (hst432 _ _ rfl Sz4)) ?_
            have h0 := h0.mut hC432 (fun g hg => hO.inM g (hG432 g hg)) (fun _ _ h => nomatch h)
            have hb2 := hb2.chg hC432 (fun hg => hO.apart _ (hG432 _ hg) (mem_r (mem_l (List.mem_singleton.2 rfl))))
            have hv395x2 := hv395x2.mut hC432 (fun g hg => hO.inM g (hG432 g hg)) (fun _ _ h => nomatch h)
            have hb398 := hb398.chg hC432 (fun hg => hO.apart _ (hG432 _ hg) (mem_l (List.mem_singleton.2 rfl)))
            have hC := hC.step hC432 (fun g hg => hO.inN g (hG432 g hg))
            have hO := hO.grow hC432 (fun q hq => .inl ((hf432 q hq).resolve_right (fun h => nomatch h))) (os_nodup hv432) hv432.fpl
            refine c_nil ?_
            cases hs
            have hO := hO.fr2
            have hO := hO.fr1
            have hO := hO.fr2
            exact ⟨_, f432, fr_ovl 104 ⟨rfl, rfl, rfl, rfl, rfl, trivial⟩, hC, hO, h0, hb2, hv432, hv395x2, hb398⟩
          · skip
            refine pl_not (tg := 39) (by kernel_rfl) (congrArg Value.bool hc427) ?_
            refine pl_not (tg := 39) (by kernel_rfl) (congrArg Value.bool hc427) ?_
            refine pl_not (tg := 39) (by kernel_rfl) (congrArg Value.bool hc427) ?_
            refine pl_not (tg := 39) (by kernel_rfl) (congrArg Value.bool hc427) ?_
            refine pl_not (tg := 39) (by kernel_rfl) (congrArg Value.bool hc427) ?_
            refine pl_val (.bool false) (y_pick_f (congrArg Value.bool hc427) rfl) ?_
            obtain ⟨x433, hx433, hs⟩ := bind_some hs
            obtain ⟨g434, f434, hg434, hk434, hp434, ha434, hf434⟩ := os_idx Sl57 Sz4 hv391 hx433
            refine pl_val (.pointer (some ⟨g434, 0 + Int.toNat 0 * 1, none⟩)) (hp434 _ _ _ _ _ _ _ _ _ rfl rfl) ?_
            have hO := hO.fr1
            obtain ⟨w435, f435, hst435, hC435, hf435, hv435⟩ := os_store (P := Try.prog) (c' := [(.bool false)]) hg434 hv391 hk434 (fun g hg => hO.inM g (os_block hv391 g (by simpa using hg))) ⟨rfl, rfl⟩ List.nodup_nil (fun _ h => nomatch h) (fun _ h => .inl h)
            have hG435 : ∀ q ∈ [g434], q ∈ f391 := fun q hq => os_block hv391 q (by rw [hg434]; exact hq)
            refine pl_skip (w' := w435) (ys_store rfl rfl (hst435 _ _ rfl Sz4)) ?_
            have h0 := h0.mut hC435 (fun g hg => hO.inM g (hG435 g hg)) (fun _ _ h => nomatch h)
            have hb2 := hb2.chg hC435 (fun hg => hO.apart _ (hG435 _ hg) (mem_r (mem_l (List.mem_singleton.2 rfl))))
            have hv395x2 := hv395x2.mut hC435 (fun g hg => hO.inM g (hG435 g hg)) (fun _ _ h => nomatch h)
            have hb398 := hb398.chg hC435 (fun hg => hO.apart _ (hG435 _ hg) (mem_l (List.mem_singleton.2 rfl)))
            have hC := hC.step hC435 (fun g hg => hO.inN g (hG435 g hg))
            have hO := hO.grow hC435 (fun q hq => .inl ((hf435 q hq).resolve_right (fun h => nomatch h))) (os_nodup hv435) hv435.fpl
            refine c_nil ?_
            cases hs
            have hO := hO.fr2
            have hO := hO.fr1
            have hO := hO.fr2
            exact ⟨_, f435, fr_ovl 104 ⟨rfl, rfl, rfl, rfl, rfl, trivial⟩, hC, hO, h0, hb2, hv435, hv395x2, hb398⟩
        · rintro a1 w422 ⟨σ, f424, rfl, hC, hO, h0, hb2, hv424, hv395x2, hb398⟩
          refine c_seq ?_
          obtain ⟨s459, hm461, hs⟩ := bind_some hs
          refine c_mid (I := fun a w460 => ∃ (σ : Nat → Value) (f462 : List Nat), a = fr 104 (ovl σ [(1, (.pointer (some ⟨g2, 0, none⟩))), (4, (.slice (some ⟨g12, 0, none⟩) 5 5)), (5, (.int .i64 k387)), (6, (.pointer (some ⟨g397, 0, none⟩))), (7, (.int .i64 (w64 ((x393.2.length : Int) - 1))))]) ∧ Chg [] w w460 ∧ Own (Nw w []) M w460 (([g397]) ++ (f462 ++ (([g2]) ++ []))) ∧ (RT.rs (RT.pr (RT.int .i64) (RT.rs (RT.int .i64)))).val M w460 (.slice pa0 pn0 pc0) a_.2 ([]) ∧ BoxV w460 g2 62 [(.int .i64 a_.1), (.slice pa0 pn0 pc0)] ∧ (RT.os 4 RT.bool).val M w460 (.slice (some ⟨g12, 0, none⟩) 5 5) s459 f462 ∧ (RT.rs (RT.int .i64)).val M w460 (.slice a395x2 n395x2 c395x2) x393.2 ([]) ∧ BoxV w460 g397 82 [(.int .i64 x393.1), (.slice a395x2 n395x2 c395x2)]) ?_ ?_
          · replace hs := hm461
            refine c_region ?_
            refine pl_val (.slice (some ⟨g12, 0, none⟩) 5 5) (y_move rfl) ?_
            refine pl_val (.slice (some ⟨g12, 0, none⟩) 5 5) (y_move rfl) ?_
            obtain ⟨x463, hx463, hs⟩ := bind_some hs
            obtain ⟨g464, f464, hg464, hk464, hp464, ha464, hf464⟩ := os_idx Sl57 Sz4 hv424 hx463
            refine pl_val (.pointer (some ⟨g464, 0 + Int.toNat 1 * 1, none⟩)) (hp464 _ _ _ _ _ _ _ _ _ rfl rfl) ?_
            refine pl_val (.bool x463) (y_load rfl ((at_load_bool Ag4 Sz4 ha464) _ (Chg.refl _ _))) ?_
            refine pl_val (.bool x463) (y_move rfl) ?_
            rcases bif_some hs with ⟨hc465, hs⟩ | ⟨hc465, hs⟩
            · skip
              refine pl_yes (.pointer (some ⟨g397, 1, none⟩)) (tg := 51) (by kernel_rfl) (congrArg Value.bool hc465) (y_faddr rfl Fa82x1) ?_
              refine pl_yes (.slice a395x2 n395x2 c395x2) (tg := 51) (by kernel_rfl) (congrArg Value.bool hc465) (y_load rfl ((box_load Ag22 Sz22 hb398 [(.int .i64 x393.1)] [(.slice a395x2 n395x2 c395x2)] [] rfl rfl (fun _ => rfl)) _ (Chg.refl _ _))) ?_
              refine pl_yes (.int .i64 (w64 ((x393.2.length : Int) - 1))) (tg := 51) (by kernel_rfl) (congrArg Value.bool hc465) (y_move rfl) ?_
              obtain ⟨x466, hx466, hs⟩ := bind_some hs
              obtain ⟨b467, o467, hp467, ha467⟩ := rs_idx Sl22 Sz3 hv395x2 hx466
              refine pl_yes (.pointer (some ⟨b467, o467, none⟩)) (tg := 51) (by kernel_rfl) (congrArg Value.bool hc465) (hp467 _ _ _ _ _ _ _ _ _ rfl rfl) ?_
              refine pl_yes (.int .i64 x466) (tg := 51) (by kernel_rfl) (congrArg Value.bool hc465) (y_load rfl ((at_load_int Ag3 Sz3 ha467) _ (Chg.refl _ _))) ?_
              refine pl_yes (.bool (x466 == 1)) (tg := 51) (by kernel_rfl) (congrArg Value.bool hc465) (y_eql rfl rfl) ?_
              refine pl_val (.bool (x466 == 1)) (y_pick_t (congrArg Value.bool hc465) rfl) ?_
              obtain ⟨x468, hx468, hs⟩ := bind_some hs
              obtain ⟨g469, f469, hg469, hk469, hp469, ha469, hf469⟩ := os_idx Sl57 Sz4 hv424 hx468
              refine pl_val (.pointer (some ⟨g469, 0 + Int.toNat 1 * 1, none⟩)) (hp469 _ _ _ _ _ _ _ _ _ rfl rfl) ?_
              have hO := hO.fr1
              obtain ⟨w470, f470, hst470, hC470, hf470, hv470⟩ := os_store (P := Try.prog) (c' := [(.bool (x466 == 1))]) hg469 hv424 hk469 (fun g hg => hO.inM g (os_block hv424 g (by simpa using hg))) ⟨rfl, rfl⟩ List.nodup_nil (fun _ h => nomatch h) (fun _ h => .inl h)
              have hG470 : ∀ q ∈ [g469], q ∈ f424 := fun q hq => os_block hv424 q (by rw [hg469]; exact hq)
              refine pl_skip (w' := w470) (ys_store rfl rfl (hst470 _ _ rfl Sz4)) ?_
              have h0 := h0.mut hC470 (fun g hg => hO.inM g (hG470 g hg)) (fun _ _ h => nomatch h)
              have hb2 := hb2.chg hC470 (fun hg => hO.apart _ (hG470 _ hg) (mem_r (mem_l (List.mem_singleton.2 rfl))))
              have hv395x2 := hv395x2.mut hC470 (fun g hg => hO.inM g (hG470 g hg)) (fun _ _ h => nomatch h)
              have hb398 := hb398.chg hC470 (fun hg => hO.apart _ (hG470 _ hg) (mem_l (List.mem_singleton.2 rfl)))
              have hC := hC.step hC470 (fun g hg => hO.inN g (hG470 g hg))
              have hO := hO.grow hC470 (fun q hq => .inl ((hf470 q hq).resolve_right (fun h => nomatch h))) (os_nodup hv470) hv470.fpl
              refine c_nil ?_
              cases hs
              have hO := hO.fr2
              have hO := hO.fr1
              have hO := hO.fr2
              exact ⟨_, f470, fr_ovl 104 ⟨rfl, rfl, rfl, rfl, rfl, trivial⟩, hC, hO, h0, hb2, hv470, hv395x2, hb398⟩
            · skip
              refine pl_not (tg := 51) (by kernel_rfl) (congrArg Value.bool hc465) ?_
              refine pl_not (tg := 51) (by kernel_rfl) (congrArg Value.bool hc465) ?_
              refine pl_not (tg := 51) (by kernel_rfl) (congrArg Value.bool hc465) ?_
              refine pl_not (tg := 51) (by kernel_rfl) (congrArg Value.bool hc465) ?_
              refine pl_not (tg := 51) (by kernel_rfl) (congrArg Value.bool hc465) ?_
              refine pl_not (tg := 51) (by kernel_rfl) (congrArg Value.bool hc465) ?_
              refine pl_val (.bool false) (y_pick_f (congrArg Value.bool hc465) rfl) ?_
              obtain ⟨x471, hx471, hs⟩ := bind_some hs
              obtain ⟨g472, f472, hg472, hk472, hp472, ha472, hf472⟩ := os_idx Sl57 Sz4 hv424 hx471
              refine pl_val (.pointer (some ⟨g472, 0 + Int.toNat 1 * 1, none⟩)) (hp472 _ _ _ _ _ _ _ _ _ rfl rfl) ?_
              have hO := hO.fr1
              obtain ⟨w473, f473, hst473, hC473, hf473, hv473⟩ := os_store (P := Try.prog) (c' := [(.bool false)]) hg472 hv424 hk472 (fun g hg => hO.inM g (os_block hv424 g (by simpa using hg))) ⟨rfl, rfl⟩ List.nodup_nil (fun _ h => nomatch h) (fun _ h => .inl h)
              have hG473 : ∀ q ∈ [g472], q ∈ f424 := fun q hq => os_block hv424 q (by rw [hg472]; exact hq)
              refine pl_skip (w' := w473) (ys_store rfl rfl (hst473 _ _ rfl Sz4)) ?_
              have h0 := h0.mut hC473 (fun g hg => hO.inM g (hG473 g hg)) (fun _ _ h => nomatch h)
              have hb2 := hb2.chg hC473 (fun hg => hO.apart _ (hG473 _ hg) (mem_r (mem_l (List.mem_singleton.2 rfl))))
              have hv395x2 := hv395x2.mut hC473 (fun g hg => hO.inM g (hG473 g hg)) (fun _ _ h => nomatch h)
              have hb398 := hb398.chg hC473 (fun hg => hO.apart _ (hG473 _ hg) (mem_l (List.mem_singleton.2 rfl)))
              have hC := hC.step hC473 (fun g hg => hO.inN g (hG473 g hg))
              have hO := hO.grow hC473 (fun q hq => .inl ((hf473 q hq).resolve_right (fun h => nomatch h))) (os_nodup hv473) hv473.fpl
              refine c_nil ?_
              cases hs
              have hO := hO.fr2
              have hO := hO.fr1
              have hO := hO.fr2
              exact ⟨_, f473, fr_ovl 104 ⟨rfl, rfl, rfl, rfl, rfl, trivial⟩, hC, hO, h0, hb2, hv473, hv395x2, hb398⟩
          · rintro a1 w460 ⟨σ, f462, rfl, hC, hO, h0, hb2, hv462, hv395x2, hb398⟩
            refine c_seq ?_
            obtain ⟨s497, hm499, hs⟩ := bind_some hs
            refine c_mid (I := fun a w498 => ∃ (σ : Nat → Value) (f500 : List Nat), a = fr 104 (ovl σ [(1, (.pointer (some ⟨g2, 0, none⟩))), (4, (.slice (some ⟨g12, 0, none⟩) 5 5)), (5, (.int .i64 k387)), (6, (.pointer (some ⟨g397, 0, none⟩))), (7, (.int .i64 (w64 ((x393.2.length : Int) - 1))))]) ∧ Chg [] w w498 ∧ Own (Nw w []) M w498 (([g397]) ++ (f500 ++ (([g2]) ++ []))) ∧ (RT.rs (RT.pr (RT.int .i64) (RT.rs (RT.int .i64)))).val M w498 (.slice pa0 pn0 pc0) a_.2 ([]) ∧ BoxV w498 g2 62 [(.int .i64 a_.1), (.slice pa0 pn0 pc0)] ∧ (RT.os 4 RT.bool).val M w498 (.slice (some ⟨g12, 0, none⟩) 5 5) s497 f500 ∧ (RT.rs (RT.int .i64)).val M w498 (.slice a395x2 n395x2 c395x2) x393.2 ([]) ∧ BoxV w498 g397 82 [(.int .i64 x393.1), (.slice a395x2 n395x2 c395x2)]) ?_ ?_
            · replace hs := hm499
              refine c_region ?_
              refine pl_val (.slice (some ⟨g12, 0, none⟩) 5 5) (y_move rfl) ?_
              refine pl_val (.slice (some ⟨g12, 0, none⟩) 5 5) (y_move rfl) ?_
              obtain ⟨x501, hx501, hs⟩ := bind_some hs
              obtain ⟨g502, f502, hg502, hk502, hp502, ha502, hf502⟩ := os_idx Sl57 Sz4 hv462 hx501
              refine pl_val (.pointer (some ⟨g502, 0 + Int.toNat 2 * 1, none⟩)) (hp502 _ _ _ _ _ _ _ _ _ rfl rfl) ?_
              refine pl_val (.bool x501) (y_load rfl ((at_load_bool Ag4 Sz4 ha502) _ (Chg.refl _ _))) ?_
              refine pl_val (.bool x501) (y_move rfl) ?_
              rcases bif_some hs with ⟨hc503, hs⟩ | ⟨hc503, hs⟩
              · skip
                refine pl_yes (.agg #[(.int .i64 x393.1), (.slice a395x2 n395x2 c395x2)]) (tg := 64) (by kernel_rfl) (congrArg Value.bool hc503) (y_load rfl ((box_load Ag82 Sz82 hb398 [] [(.int .i64 x393.1), (.slice a395x2 n395x2 c395x2)] [] rfl rfl (fun h => nomatch h)) _ (Chg.refl _ _))) ?_
                obtain ⟨r505, hr505, hs⟩ := bind_some hs
                refine pl_cally (tg := 64) (by kernel_rfl) (congrArg Value.bool hc503) Bd95 rfl (c_spec_l18Monotone (M := M) (x393.1, x393.2) hv395x2 hO.fut hr505) ?_
                rintro _ w504 ⟨rfl, hC504⟩
                have h0 := h0.ext hC504
                have hb2 := hb2.chg hC504 (fun h => nomatch h)
                have hv462 := hv462.ext hC504
                have hv395x2 := hv395x2.ext hC504
                have hb398 := hb398.chg hC504 (fun h => nomatch h)
                have hC := hC.ext hC504
                have hO := hO.ext hC504
                refine pl_val (.bool r505) (y_pick_t (congrArg Value.bool hc503) rfl) ?_
                obtain ⟨x506, hx506, hs⟩ := bind_some hs
                obtain ⟨g507, f507, hg507, hk507, hp507, ha507, hf507⟩ := os_idx Sl57 Sz4 hv462 hx506
                refine pl_val (.pointer (some ⟨g507, 0 + Int.toNat 2 * 1, none⟩)) (hp507 _ _ _ _ _ _ _ _ _ rfl rfl) ?_
                have hO := hO.fr1
                obtain ⟨w508, f508, hst508, hC508, hf508, hv508⟩ := os_store (P := Try.prog) (c' := [(.bool r505)]) hg507 hv462 hk507 (fun g hg => hO.inM g (os_block hv462 g (by simpa using hg))) ⟨rfl, rfl⟩ List.nodup_nil (fun _ h => nomatch h) (fun _ h => .inl h)
                have hG508 : ∀ q ∈ [g507], q ∈ f462 := fun q hq => os_block hv462 q (by rw [hg507]; exact hq)
                refine pl_skip (w' := w508) (ys_store rfl rfl (hst508 _ _ rfl Sz4)) ?_
                have h0 := h0.mut hC508 (fun g hg => hO.inM g (hG508 g hg)) (fun _ _ h => nomatch h)
                have hb2 := hb2.chg hC508 (fun hg => hO.apart _ (hG508 _ hg) (mem_r (mem_l (List.mem_singleton.2 rfl))))
                have hv395x2 := hv395x2.mut hC508 (fun g hg => hO.inM g (hG508 g hg)) (fun _ _ h => nomatch h)
                have hb398 := hb398.chg hC508 (fun hg => hO.apart _ (hG508 _ hg) (mem_l (List.mem_singleton.2 rfl)))
                have hC := hC.step hC508 (fun g hg => hO.inN g (hG508 g hg))
                have hO := hO.grow hC508 (fun q hq => .inl ((hf508 q hq).resolve_right (fun h => nomatch h))) (os_nodup hv508) hv508.fpl
                refine c_nil ?_
                cases hs
                have hO := hO.fr2
                have hO := hO.fr1
                have hO := hO.fr2
                exact ⟨_, f508, fr_ovl 104 ⟨rfl, rfl, rfl, rfl, rfl, trivial⟩, hC, hO, h0, hb2, hv508, hv395x2, hb398⟩
              · skip
                refine pl_not (tg := 64) (by kernel_rfl) (congrArg Value.bool hc503) ?_
                refine pl_not (tg := 64) (by kernel_rfl) (congrArg Value.bool hc503) ?_
                refine pl_val (.bool false) (y_pick_f (congrArg Value.bool hc503) rfl) ?_
                obtain ⟨x509, hx509, hs⟩ := bind_some hs
                obtain ⟨g510, f510, hg510, hk510, hp510, ha510, hf510⟩ := os_idx Sl57 Sz4 hv462 hx509
                refine pl_val (.pointer (some ⟨g510, 0 + Int.toNat 2 * 1, none⟩)) (hp510 _ _ _ _ _ _ _ _ _ rfl rfl) ?_
                have hO := hO.fr1
                obtain ⟨w511, f511, hst511, hC511, hf511, hv511⟩ := os_store (P := Try.prog) (c' := [(.bool false)]) hg510 hv462 hk510 (fun g hg => hO.inM g (os_block hv462 g (by simpa using hg))) ⟨rfl, rfl⟩ List.nodup_nil (fun _ h => nomatch h) (fun _ h => .inl h)
                have hG511 : ∀ q ∈ [g510], q ∈ f462 := fun q hq => os_block hv462 q (by rw [hg510]; exact hq)
                refine pl_skip (w' := w511) (ys_store rfl rfl (hst511 _ _ rfl Sz4)) ?_
                have h0 := h0.mut hC511 (fun g hg => hO.inM g (hG511 g hg)) (fun _ _ h => nomatch h)
                have hb2 := hb2.chg hC511 (fun hg => hO.apart _ (hG511 _ hg) (mem_r (mem_l (List.mem_singleton.2 rfl))))
                have hv395x2 := hv395x2.mut hC511 (fun g hg => hO.inM g (hG511 g hg)) (fun _ _ h => nomatch h)
                have hb398 := hb398.chg hC511 (fun hg => hO.apart _ (hG511 _ hg) (mem_l (List.mem_singleton.2 rfl)))
                have hC := hC.step hC511 (fun g hg => hO.inN g (hG511 g hg))
                have hO := hO.grow hC511 (fun q hq => .inl ((hf511 q hq).resolve_right (fun h => nomatch h))) (os_nodup hv511) hv511.fpl
                refine c_nil ?_
                cases hs
                have hO := hO.fr2
                have hO := hO.fr1
                have hO := hO.fr2
                exact ⟨_, f511, fr_ovl 104 ⟨rfl, rfl, rfl, rfl, rfl, trivial⟩, hC, hO, h0, hb2, hv511, hv395x2, hb398⟩
            · rintro a1 w498 ⟨σ, f500, rfl, hC, hO, h0, hb2, hv500, hv395x2, hb398⟩
              refine c_seq ?_
              refine c_seq ?_
              refine c_region ?_
              refine pl_val (.int .i64 0) (y_assign rfl) ?_
              refine c_nil ?_
              obtain ⟨o548, hl549, hs⟩ := bind_some hs
              refine wp_block ?_
              refine wp_iter (id := 2) (I := fun s544 a w545 => ∃ (σ : Nat → Value) (f550 : List Nat), a = fr 104 (ovl σ [(1, (.pointer (some ⟨g2, 0, none⟩))), (4, (.slice (some ⟨g12, 0, none⟩) 5 5)), (5, (.int .i64 k387)), (6, (.pointer (some ⟨g397, 0, none⟩))), (7, (.int .i64 (w64 ((x393.2.length : Int) - 1)))), (8, (.int .i64 s544.1))]) ∧ Chg [] w w545 ∧ Own (Nw w []) M w545 (([g397]) ++ (f550 ++ (([g2]) ++ []))) ∧ (RT.rs (RT.pr (RT.int .i64) (RT.rs (RT.int .i64)))).val M w545 (.slice pa0 pn0 pc0) a_.2 ([]) ∧ BoxV w545 g2 62 [(.int .i64 a_.1), (.slice pa0 pn0 pc0)] ∧ (RT.os 4 RT.bool).val M w545 (.slice (some ⟨g12, 0, none⟩) 5 5) s544.2 f550 ∧ (RT.rs (RT.int .i64)).val M w545 (.slice a395x2 n395x2 c395x2) x393.2 ([]) ∧ BoxV w545 g397 82 [(.int .i64 x393.1), (.slice a395x2 n395x2 c395x2)]) (J := fun s544 a w545 => ∃ (σ : Nat → Value) (f551 : List Nat), a = fr 104 (ovl σ [(1, (.pointer (some ⟨g2, 0, none⟩))), (4, (.slice (some ⟨g12, 0, none⟩) 5 5)), (5, (.int .i64 k387)), (6, (.pointer (some ⟨g397, 0, none⟩)))]) ∧ Chg [] w w545 ∧ Own (Nw w []) M w545 (([g397]) ++ (f551 ++ (([g2]) ++ []))) ∧ (RT.rs (RT.pr (RT.int .i64) (RT.rs (RT.int .i64)))).val M w545 (.slice pa0 pn0 pc0) a_.2 ([]) ∧ BoxV w545 g2 62 [(.int .i64 a_.1), (.slice pa0 pn0 pc0)] ∧ (RT.os 4 RT.bool).val M w545 (.slice (some ⟨g12, 0, none⟩) 5 5) s544.2 f551 ∧ (RT.rs (RT.int .i64)).val M w545 (.slice a395x2 n395x2 c395x2) x393.2 ([]) ∧ BoxV w545 g397 82 [(.int .i64 x393.1), (.slice a395x2 n395x2 c395x2)]) (K := (k_spec_PostClasses M w)) ?_ FU (0, s497) o548 _ _ ?_ hl549 ?_
              · rintro s544 o548 a w545 ⟨σ, f550, rfl, hC, hO, h0, hb2, hv550, hv395x2, hb398⟩ hs
                refine c_seq ?_
                refine c_seq ?_
                refine c_region ?_
                refine pl_val (.int .i64 s544.1) (y_move rfl) ?_
                refine pl_val (.int .i64 (w64 ((x393.2.length : Int) - 1))) (y_move rfl) ?_
                refine pl_val (.bool (decide (s544.1 ≤ (w64 ((x393.2.length : Int) - 1))))) (y_leq rfl rfl) ?_
                refine c_nil ?_
                rcases bif_some hs with ⟨hc552, hs⟩ | ⟨hc552, hs⟩
                · skip
                  refine c_condT (congrArg Value.bool hc552) ?_
                  refine wp_skip ?_
                  refine c_seq ?_
                  refine wp_block ?_
                  refine x_start [20] Mx rfl ?_
                  have hCw553 := Chg.drew w545
                  generalize World.drew w545 = w553 at hCw553 ⊢
                  have h0 := h0.ext hCw553
                  have hb2 := hb2.chg hCw553 (fun h => nomatch h)
                  have hv550 := hv550.ext hCw553
                  have hv395x2 := hv395x2.ext hCw553
                  have hb398 := hb398.chg hCw553 (fun h => nomatch h)
                  have hC := hC.ext hCw553
                  have hO := hO.ext hCw553
                  have hS := Chg.refl [] w553
                  refine x_p 0 (.slice (some ⟨g12, 0, none⟩) 5 5) rfl (by kernel_rfl)  (fun _ => y_move rfl) (fun _ => hS) ?_
                  refine x_p 1 (.slice (some ⟨g12, 0, none⟩) 5 5) rfl (by kernel_rfl)  (fun _ => y_move rfl) (fun _ => hS) ?_
                  obtain ⟨x554, hx554, hs⟩ := bind_some hs
                  obtain ⟨g555, f555, hg555, hk555, hp555, ha555, hf555⟩ := os_idx Sl57 Sz4 hv550 hx554
                  refine x_p 2 (.pointer (some ⟨g555, 0 + Int.toNat 3 * 1, none⟩)) rfl (by kernel_rfl)  (fun _ => hp555 _ _ _ _ _ _ _ _ _ rfl rfl) (fun _ => hS) ?_
                  refine x_l 3 (.bool x554) rfl (by kernel_rfl)  (fun w' hw' => y_load rfl ((at_load_bool Ag4 Sz4 ha555) w' hw')) hS ?_
                  refine x_p 4 (.bool x554) rfl (by kernel_rfl)  (fun _ => y_move rfl) (fun _ => hS) ?_
                  rcases bif_some hs with ⟨hc556, hs⟩ | ⟨hc556, hs⟩
                  · skip
                    refine x_py 5 (.pointer (some ⟨g397, 1, none⟩)) rfl (by kernel_rfl) (tg := 78) (by kernel_rfl) (congrArg Value.bool hc556) (fun _ => y_faddr rfl Fa82x1) (fun _ => hS) ?_
                    refine x_ly 6 (.slice a395x2 n395x2 c395x2) rfl (by kernel_rfl) (tg := 78) (by kernel_rfl) (congrArg Value.bool hc556) (fun w' hw' => y_load rfl ((box_load Ag22 Sz22 hb398 [(.int .i64 x393.1)] [(.slice a395x2 n395x2 c395x2)] [] rfl rfl (fun _ => rfl)) w' hw')) hS ?_
                    refine x_py 7 (.int .i64 s544.1) rfl (by kernel_rfl) (tg := 78) (by kernel_rfl) (congrArg Value.bool hc556) (fun _ => y_move rfl) (fun _ => hS) ?_
                    obtain ⟨x557, hx557, hs⟩ := bind_some hs
                    obtain ⟨b558, o558, hp558, ha558⟩ := rs_idx Sl22 Sz3 hv395x2 hx557
                    refine x_py 8 (.pointer (some ⟨b558, o558, none⟩)) rfl (by kernel_rfl) (tg := 78) (by kernel_rfl) (congrArg Value.bool hc556) (fun _ => hp558 _ _ _ _ _ _ _ _ _ rfl rfl) (fun _ => hS) ?_
                    refine x_ly 9 (.int .i64 x557) rfl (by kernel_rfl) (tg := 78) (by kernel_rfl) (congrArg Value.bool hc556) (fun w' hw' => y_load rfl ((at_load_int Ag3 Sz3 ha558) w' hw')) hS ?_
                    refine x_py 10 (.pointer (some ⟨g397, 1, none⟩)) rfl (by kernel_rfl) (tg := 78) (by kernel_rfl) (congrArg Value.bool hc556) (fun _ => y_faddr rfl Fa82x1) (fun _ => hS) ?_
                    refine x_ly 11 (.slice a395x2 n395x2 c395x2) rfl (by kernel_rfl) (tg := 78) (by kernel_rfl) (congrArg Value.bool hc556) (fun w' hw' => y_load rfl ((box_load Ag22 Sz22 hb398 [(.int .i64 x393.1)] [(.slice a395x2 n395x2 c395x2)] [] rfl rfl (fun _ => rfl)) w' hw')) hS ?_
                    refine x_py 12 (.int .i64 (w64 ((x393.2.length : Int) - 1))) rfl (by kernel_rfl) (tg := 78) (by kernel_rfl) (congrArg Value.bool hc556) (fun _ => y_move rfl) (fun _ => hS) ?_
                    refine x_py 13 (.int .i64 s544.1) rfl (by kernel_rfl) (tg := 78) (by kernel_rfl) (congrArg Value.bool hc556) (fun _ => y_move rfl) (fun _ => hS) ?_
                    refine x_py 14 (.int .i64 (w64 ((w64 ((x393.2.length : Int) - 1)) - s544.1))) rfl (by kernel_rfl) (tg := 78) (by kernel_rfl) (congrArg Value.bool hc556) (fun _ => y_sub rfl rfl) (fun _ => hS) ?_
                    obtain ⟨x559, hx559, hs⟩ := bind_some hs
                    obtain ⟨b560, o560, hp560, ha560⟩ := rs_idx Sl22 Sz3 hv395x2 hx559
                    refine x_py 15 (.pointer (some ⟨b560, o560, none⟩)) rfl (by kernel_rfl) (tg := 78) (by kernel_rfl) (congrArg Value.bool hc556) (fun _ => hp560 _ _ _ _ _ _ _ _ _ rfl rfl) (fun _ => hS) ?_
                    refine x_ly 16 (.int .i64 x559) rfl (by kernel_rfl) (tg := 78) (by kernel_rfl) (congrArg Value.bool hc556) (fun w' hw' => y_load rfl ((at_load_int Ag3 Sz3 ha560) w' hw')) hS ?_
                    refine x_py 17 (.bool (x557 != x559)) rfl (by kernel_rfl) (tg := 78) (by kernel_rfl) (congrArg Value.bool hc556) (fun _ => y_neq rfl rfl) (fun _ => hS) ?_
                    refine x_p 18 (.bool (x557 != x559)) rfl (by kernel_rfl)  (fun _ => y_pick_t (congrArg Value.bool hc556) rfl) (fun _ => hS) ?_
                    obtain ⟨x561, hx561, hs⟩ := bind_some hs
                    obtain ⟨g562, f562, hg562, hk562, hp562, ha562, hf562⟩ := os_idx Sl57 Sz4 hv550 hx561
                    refine x_p 19 (.pointer (some ⟨g562, 0 + Int.toNat 3 * 1, none⟩)) rfl (by kernel_rfl)  (fun _ => hp562 _ _ _ _ _ _ _ _ _ rfl rfl) (fun _ => hS) ?_
                    refine x_one (i := 20) (by kernel_rfl) ?_
                    have hO := hO.fr1
                    obtain ⟨w563, f563, hst563, hC563, hf563, hv563⟩ := os_store (P := Try.prog) (c' := [(.bool (x557 != x559))]) hg562 hv550 hk562 (fun g hg => hO.inM g (os_block hv550 g (by simpa using hg))) ⟨rfl, rfl⟩ List.nodup_nil (fun _ h => nomatch h) (fun _ h => .inl h)
                    have hG563 : ∀ q ∈ [g562], q ∈ f550 := fun q hq => os_block hv550 q (by rw [hg562]; exact hq)
                    refine xk_skip (w' := w563) (b := true) rfl (ys_store rfl rfl (hst563 _ _ rfl Sz4)) rfl (fun h => nomatch h) ?_
                    have h0 := h0.mut hC563 (fun g hg => hO.inM g (hG563 g hg)) (fun _ _ h => nomatch h)
                    have hb2 := hb2.chg hC563 (fun hg => hO.apart _ (hG563 _ hg) (mem_r (mem_l (List.mem_singleton.2 rfl))))
                    have hv395x2 := hv395x2.mut hC563 (fun g hg => hO.inM g (hG563 g hg)) (fun _ _ h => nomatch h)
                    have hb398 := hb398.chg hC563 (fun hg => hO.apart _ (hG563 _ hg) (mem_l (List.mem_singleton.2 rfl)))
                    have hC := hC.step hC563 (fun g hg => hO.inN g (hG563 g hg))
                    have hO := hO.grow hC563 (fun q hq => .inl ((hf563 q hq).resolve_right (fun h => nomatch h))) (os_nodup hv563) hv563.fpl
                    refine x_end (by kernel_rfl) ?_
                    clear hS
                    refine c_region ?_
                    refine pl_val (.int .i64 s544.1) (y_move rfl) ?_
                    refine pl_val (.int .i64 (w64 (s544.1 + 1))) (y_add rfl rfl) ?_
                    refine pl_val (.int .i64 (w64 (s544.1 + 1))) (y_assign rfl) ?_
                    refine c_nil ?_
                    cases hs
                    have hO := hO.fr2
                    have hO := hO.fr1
                    have hO := hO.fr2
                    exact ⟨_, f563, fr_ovl 104 ⟨rfl, rfl, rfl, rfl, rfl, rfl, trivial⟩, hC, hO, h0, hb2, hv563, hv395x2, hb398⟩
                  · skip
                    refine x_pn 5 rfl (by kernel_rfl) (tg := 78) (by kernel_rfl) (congrArg Value.bool hc556) (fun _ => hS) ?_
                    refine x_pn 6 rfl (by kernel_rfl) (tg := 78) (by kernel_rfl) (congrArg Value.bool hc556) (fun _ => hS) ?_
                    refine x_pn 7 rfl (by kernel_rfl) (tg := 78) (by kernel_rfl) (congrArg Value.bool hc556) (fun _ => hS) ?_
                    refine x_pn 8 rfl (by kernel_rfl) (tg := 78) (by kernel_rfl) (congrArg Value.bool hc556) (fun _ => hS) ?_
                    refine x_pn 9 rfl (by kernel_rfl) (tg := 78) (by kernel_rfl) (congrArg Value.bool hc556) (fun _ => hS) ?_
                    refine x_pn 10 rfl (by kernel_rfl) (tg := 78) (by kernel_rfl) (congrArg Value.bool hc556) (fun _ => hS) ?_
                    refine x_pn 11 rfl (by kernel_rfl) (tg := 78) (by kernel_rfl) (congrArg Value.bool hc556) (fun _ => hS) ?_
                    refine x_pn 12 rfl (by kernel_rfl) (tg := 78) (by kernel_rfl) (congrArg Value.bool hc556) (fun _ => hS) ?_
                    refine x_pn 13 rfl (by kernel_rfl) (tg := 78) (by kernel_rfl) (congrArg Value.bool hc556) (fun _ => hS) ?_
                    refine x_pn 14 rfl (by kernel_rfl) (tg := 78) (by kernel_rfl) (congrArg Value.bool hc556) (fun _ => hS) ?_
                    refine x_pn 15 rfl (by kernel_rfl) (tg := 78) (by kernel_rfl) (congrArg Value.bool hc556) (fun _ => hS) ?_
                    refine x_pn 16 rfl (by kernel_rfl) (tg := 78) (by kernel_rfl) (congrArg Value.bool hc556) (fun _ => hS) ?_
                    refine x_pn 17 rfl (by kernel_rfl) (tg := 78) (by kernel_rfl) (congrArg Value.bool hc556) (fun _ => hS) ?_
                    refine x_p 18 (.bool false) rfl (by kernel_rfl)  (fun _ => y_pick_f (congrArg Value.bool hc556) rfl) (fun _ => hS) ?_
                    obtain ⟨x564, hx564, hs⟩ := bind_some hs
                    obtain ⟨g565, f565, hg565, hk565, hp565, ha565, hf565⟩ := os_idx Sl57 Sz4 hv550 hx564
                    refine x_p 19 (.pointer (some ⟨g565, 0 + Int.toNat 3 * 1, none⟩)) rfl (by kernel_rfl)  (fun _ => hp565 _ _ _ _ _ _ _ _ _ rfl rfl) (fun _ => hS) ?_
                    refine x_one (i := 20) (by kernel_rfl) ?_
                    have hO := hO.fr1
                    obtain ⟨w566, f566, hst566, hC566, hf566, hv566⟩ := os_store (P := Try.prog) (c' := [(.bool false)]) hg565 hv550 hk565 (fun g hg => hO.inM g (os_block hv550 g (by simpa using hg))) ⟨rfl, rfl⟩ List.nodup_nil (fun _ h => nomatch h) (fun _ h => .inl h)
                    have hG566 : ∀ q ∈ [g565], q ∈ f550 := fun q hq => os_block hv550 q (by rw [hg565]; exact hq)
                    refine xk_skip (w' := w566) (b := true) rfl (ys_store rfl rfl (hst566 _ _ rfl Sz4)) rfl (fun h => nomatch h) ?_
                    have h0 := h0.mut hC566 (fun g hg => hO.inM g (hG566 g hg)) (fun _ _ h => nomatch h)
                    have hb2 := hb2.chg hC566 (fun hg => hO.apart _ (hG566 _ hg) (mem_r (mem_l (List.mem_singleton.2 rfl))))
                    have hv395x2 := hv395x2.mut hC566 (fun g hg => hO.inM g (hG566 g hg)) (fun _ _ h => nomatch h)
                    have hb398 := hb398.chg hC566 (fun hg => hO.apart _ (hG566 _ hg) (mem_l (List.mem_singleton.2 rfl)))
                    have hC := hC.step hC566 (fun g hg => hO.inN g (hG566 g hg))
                    have hO := hO.grow hC566 (fun q hq => .inl ((hf566 q hq).resolve_right (fun h => nomatch h))) (os_nodup hv566) hv566.fpl
                    refine x_end (by kernel_rfl) ?_
                    clear hS
                    refine c_region ?_
                    refine pl_val (.int .i64 s544.1) (y_move rfl) ?_
                    refine pl_val (.int .i64 (w64 (s544.1 + 1))) (y_add rfl rfl) ?_
                    refine pl_val (.int .i64 (w64 (s544.1 + 1))) (y_assign rfl) ?_
                    refine c_nil ?_
                    cases hs
                    have hO := hO.fr2
                    have hO := hO.fr1
                    have hO := hO.fr2
                    exact ⟨_, f566, fr_ovl 104 ⟨rfl, rfl, rfl, rfl, rfl, rfl, trivial⟩, hC, hO, h0, hb2, hv566, hv395x2, hb398⟩
                · skip
                  refine c_condF (congrArg Value.bool hc552) ?_
                  refine wp_exit ?_
                  cases hs
                  have hO := hO.fr2
                  have hO := hO.fr2
                  have hO := hO.fr2
                  exact ⟨rfl, _, f550, fr_ovl 104 ⟨rfl, rfl, rfl, rfl, trivial⟩, hC, hO, h0, hb2, hv550, hv395x2, hb398⟩
              · skip
                have hO := hO.fr2
                have hO := hO.fr2
                have hO := hO.fr2
                exact ⟨_, f500, fr_ovl 104 ⟨rfl, rfl, rfl, rfl, rfl, rfl, trivial⟩, hC, hO, h0, hb2, hv500, hv395x2, hb398⟩
              · cases o548 with
                | nx _ => exact True.intro
                | rt r_ =>
                  have hs := after_rt hs
                  intro a1 w1 hK
                  cases hs
                  exact hK
                | br s544 =>
                  have hs := after_br hs
                  rintro a1 w545 ⟨σ, f551, rfl, hC, hO, h0, hb2, hv551, hv395x2, hb398⟩
                  refine c_region ?_
                  refine pl_val (.slice (some ⟨g12, 0, none⟩) 5 5) (y_move rfl) ?_
                  refine pl_val (.slice (some ⟨g12, 0, none⟩) 5 5) (y_move rfl) ?_
                  obtain ⟨x567, hx567, hs⟩ := bind_some hs
                  obtain ⟨g568, f568, hg568, hk568, hp568, ha568, hf568⟩ := os_idx Sl57 Sz4 hv551 hx567
                  refine pl_val (.pointer (some ⟨g568, 0 + Int.toNat 4 * 1, none⟩)) (hp568 _ _ _ _ _ _ _ _ _ rfl rfl) ?_
                  refine pl_val (.bool x567) (y_load rfl ((at_load_bool Ag4 Sz4 ha568) _ (Chg.refl _ _))) ?_
                  refine pl_val (.bool x567) (y_move rfl) ?_
                  rcases bif_some hs with ⟨hc569, hs⟩ | ⟨hc569, hs⟩
                  · skip
                    refine pl_yes (.agg #[(.int .i64 x393.1), (.slice a395x2 n395x2 c395x2)]) (tg := 98) (by kernel_rfl) (congrArg Value.bool hc569) (y_load rfl ((box_load Ag82 Sz82 hb398 [] [(.int .i64 x393.1), (.slice a395x2 n395x2 c395x2)] [] rfl rfl (fun h => nomatch h)) _ (Chg.refl _ _))) ?_
                    obtain ⟨r571, hr571, hs⟩ := bind_some hs
                    refine pl_cally (tg := 98) (by kernel_rfl) (congrArg Value.bool hc569) Bd96 rfl (c_spec_l18Affine (M := M) (x393.1, x393.2) hv395x2 hO.fut hr571) ?_
                    rintro _ w570 ⟨rfl, hC570⟩
                    have h0 := h0.ext hC570
                    have hb2 := hb2.chg hC570 (fun h => nomatch h)
                    have hv551 := hv551.ext hC570
                    have hv395x2 := hv395x2.ext hC570
                    have hb398 := hb398.chg hC570 (fun h => nomatch h)
                    have hC := hC.ext hC570
                    have hO := hO.ext hC570
                    refine pl_val (.bool r571) (y_pick_t (congrArg Value.bool hc569) rfl) ?_
                    obtain ⟨x572, hx572, hs⟩ := bind_some hs
                    obtain ⟨g573, f573, hg573, hk573, hp573, ha573, hf573⟩ := os_idx Sl57 Sz4 hv551 hx572
                    refine pl_val (.pointer (some ⟨g573, 0 + Int.toNat 4 * 1, none⟩)) (hp573 _ _ _ _ _ _ _ _ _ rfl rfl) ?_
                    have hO := hO.fr1
                    obtain ⟨w574, f574, hst574, hC574, hf574, hv574⟩ := os_store (P := Try.prog) (c' := [(.bool r571)]) hg573 hv551 hk573 (fun g hg => hO.inM g (os_block hv551 g (by simpa using hg))) ⟨rfl, rfl⟩ List.nodup_nil (fun _ h => nomatch h) (fun _ h => .inl h)
                    have hG574 : ∀ q ∈ [g573], q ∈ f551 := fun q hq => os_block hv551 q (by rw [hg573]; exact hq)
                    refine pl_skip (w' := w574) (ys_store rfl rfl (hst574 _ _ rfl Sz4)) ?_
                    have h0 := h0.mut hC574 (fun g hg => hO.inM g (hG574 g hg)) (fun _ _ h => nomatch h)
                    have hb2 := hb2.chg hC574 (fun hg => hO.apart _ (hG574 _ hg) (mem_r (mem_l (List.mem_singleton.2 rfl))))
                    have hv395x2 := hv395x2.mut hC574 (fun g hg => hO.inM g (hG574 g hg)) (fun _ _ h => nomatch h)
                    have hb398 := hb398.chg hC574 (fun hg => hO.apart _ (hG574 _ hg) (mem_l (List.mem_singleton.2 rfl)))
                    have hC := hC.step hC574 (fun g hg => hO.inN g (hG574 g hg))
                    have hO := hO.grow hC574 (fun q hq => .inl ((hf574 q hq).resolve_right (fun h => nomatch h))) (os_nodup hv574) hv574.fpl
                    refine c_nil ?_
                    refine c_region ?_
                    refine pl_val (.int .i64 k387) (y_move rfl) ?_
                    refine pl_val (.int .i64 (w64 (k387 + 1))) (y_add rfl rfl) ?_
                    refine pl_val (.int .i64 (w64 (k387 + 1))) (y_assign rfl) ?_
                    refine c_nil ?_
                    cases hs
                    have hO := hO.fr1
                    have hO := hO.drop
                    have hO := hO.fr1
                    have hO := hO.fr1
                    exact ⟨_, f574, fr_ovl 104 ⟨rfl, rfl, congrArg (Value.int .i64) hw, trivial⟩, hC, hO, h0, hb2, hv574⟩
                  · skip
                    refine pl_not (tg := 98) (by kernel_rfl) (congrArg Value.bool hc569) ?_
                    refine pl_not (tg := 98) (by kernel_rfl) (congrArg Value.bool hc569) ?_
                    refine pl_val (.bool false) (y_pick_f (congrArg Value.bool hc569) rfl) ?_
                    obtain ⟨x575, hx575, hs⟩ := bind_some hs
                    obtain ⟨g576, f576, hg576, hk576, hp576, ha576, hf576⟩ := os_idx Sl57 Sz4 hv551 hx575
                    refine pl_val (.pointer (some ⟨g576, 0 + Int.toNat 4 * 1, none⟩)) (hp576 _ _ _ _ _ _ _ _ _ rfl rfl) ?_
                    have hO := hO.fr1
                    obtain ⟨w577, f577, hst577, hC577, hf577, hv577⟩ := os_store (P := Try.prog) (c' := [(.bool false)]) hg576 hv551 hk576 (fun g hg => hO.inM g (os_block hv551 g (by simpa using hg))) ⟨rfl, rfl⟩ List.nodup_nil (fun _ h => nomatch h) (fun _ h => .inl h)
                    have hG577 : ∀ q ∈ [g576], q ∈ f551 := fun q hq => os_block hv551 q (by rw [hg576]; exact hq)
                    refine pl_skip (w' := w577) (ys_store rfl rfl (hst577 _ _ rfl Sz4)) ?_
                    have h0 := h0.mut hC577 (fun g hg => hO.inM g (hG577 g hg)) (fun _ _ h => nomatch h)
                    have hb2 := hb2.chg hC577 (fun hg => hO.apart _ (hG577 _ hg) (mem_r (mem_l (List.mem_singleton.2 rfl))))
                    have hv395x2 := hv395x2.mut hC577 (fun g hg => hO.inM g (hG577 g hg)) (fun _ _ h => nomatch h)
                    have hb398 := hb398.chg hC577 (fun hg => hO.apart _ (hG577 _ hg) (mem_l (List.mem_singleton.2 rfl)))
                    have hC := hC.step hC577 (fun g hg => hO.inN g (hG577 g hg))
                    have hO := hO.grow hC577 (fun q hq => .inl ((hf577 q hq).resolve_right (fun h => nomatch h))) (os_nodup hv577) hv577.fpl
                    refine c_nil ?_
                    refine c_region ?_
                    refine pl_val (.int .i64 k387) (y_move rfl) ?_
                    refine pl_val (.int .i64 (w64 (k387 + 1))) (y_add rfl rfl) ?_
                    refine pl_val (.int .i64 (w64 (k387 + 1))) (y_assign rfl) ?_
                    refine c_nil ?_
                    cases hs
                    have hO := hO.fr1
                    have hO := hO.drop
                    have hO := hO.fr1
                    have hO := hO.fr1
                    exact ⟨_, f577, fr_ovl 104 ⟨rfl, rfl, congrArg (Value.int .i64) hw, trivial⟩, hC, hO, h0, hb2, hv577⟩
      · skip
        have hO := hO.fr1
        have hO := hO.fr1
        exact ⟨_, [g12], fr_ovl 104 ⟨rfl, rfl, rfl, trivial⟩, hC, hO, h0, hb2, hv12⟩
      · cases o389 with
        | nx _ => exact True.intro
        | rt r_ =>
          have hs := after_rt hs
          intro a1 w1 hK
          cases hs
          exact hK
        | br s385 =>
          have hs := after_br hs
          rintro a1 w386 ⟨σ, f392, rfl, hC, hO, h0, hb2, hv392⟩
          refine c_seq ?_
          refine c_region ?_
          refine pl_val (.slice (some ⟨g12, 0, none⟩) 5 5) (y_move rfl) ?_
          refine pl_val (.slice (some ⟨g12, 0, none⟩) 5 5) (y_assign rfl) ?_
          refine pl_val (.bool true) (y_assign rfl) ?_
          refine c_nil ?_
          refine wp_ret ?_
          cases hs
          have hO := hO.fr1
          have hO := hO.drop
          exact ⟨_, (some ⟨g12, 0, none⟩), 5, 5, f392, fr_ovl 104 ⟨rfl, rfl, trivial⟩, hC, hv392, hO.top⟩

def k_impl_power (M : Nat → Prop) (w0 : World) (r : Int) (a : Act) (w : World) : Prop :=
  ∃ (σ : Nat → Value) , a = fr 14 (ovl σ [(4, (.int .i64 r))]) ∧ Chg [] w0 w
def s_impl_power (n : Int) (k : Int) : Option (Int) :=
  (iter (S := Int × Int) (R := Int) (fun s2 =>
  (bif (decide (0 < s2.1)) then some (.nx (w64 (s2.1 - 1), w64 (s2.2 * n))) else some (.br (s2.1, s2.2)))) FU (k, 1)).bind fun o6 => after o6 (fun r_ => some r_) (fun s2 =>
  some s2.2)
set_option maxHeartbeats 4000000 in
theorem c_impl_power {M : Nat → Prop} {w : World}  (n : Int) (k : Int)  (hM : ∀ g, w.heap.size ≤ g → M g) {r : Int} (hs : s_impl_power n k = some r) :
    Gives Try.prog 165 [(.int .i64 n), (.int .i64 k)] w (fun v w' => v = (.int .i64 r) ∧ Chg [] w w') := by
  refine calls_fr Try.func165 rfl Try.ntmps165 (Nat.le_of_ble_eq_true rfl) ?_
  have hO := Own.start (N := Nw w []) hM Nw.fut
  have hC := Chg.refl [] w
  unfold s_impl_power at hs
  refine wp_mono (Q := KPost (k_impl_power M w r)) ?_ (fun e a w1 h => ?_)
  rotate_left
  · cases e
    case ret =>
      obtain ⟨σ, rfl, hrest⟩ := h
      exact ret1x Try.results165 (res_tmp rfl) ⟨rfl, hrest⟩
    all_goals exact (h : False).elim
  refine c_seq ?_
  refine c_region ?_
  refine pl_val (.int .i64 0) (y_assign rfl) ?_
  refine c_nil ?_
  refine c_seq ?_
  refine c_region ?_
  refine pl_val (.int .i64 1) (y_assign rfl) ?_
  refine c_nil ?_
  refine c_seq ?_
  obtain ⟨o6, hl7, hs⟩ := bind_some hs
  refine wp_block ?_
  refine wp_iter (id := 0) (I := fun s2 a w3 => ∃ (σ : Nat → Value), a = fr 14 (ovl σ [(0, (.int .i64 n)), (1, (.int .i64 s2.1)), (5, (.int .i64 s2.2))]) ∧ Chg [] w w3 ∧ Own (Nw w []) M w3 ([])) (J := fun s2 a w3 => ∃ (σ : Nat → Value), a = fr 14 (ovl σ [(5, (.int .i64 s2.2))]) ∧ Chg [] w w3 ∧ Own (Nw w []) M w3 ([])) (K := (k_impl_power M w)) ?_ FU (k, 1) o6 _ _ ?_ hl7 ?_
  · rintro s2 o6 a w3 ⟨σ, rfl, hC, hO⟩ hs
    refine c_seq ?_
    refine c_seq ?_
    refine c_region ?_
    refine pl_val (.int .i64 s2.1) (y_move rfl) ?_
    refine pl_val (.bool (decide (0 < s2.1))) (y_gtr rfl rfl) ?_
    refine c_nil ?_
    rcases bif_some hs with ⟨hc8, hs⟩ | ⟨hc8, hs⟩
    · skip
      refine c_condT (congrArg Value.bool hc8) ?_
      refine wp_skip ?_
      refine c_seq ?_
      refine wp_block ?_
      refine c_region ?_
      refine pl_val (.int .i64 s2.2) (y_move rfl) ?_
      refine pl_val (.int .i64 n) (y_move rfl) ?_
      refine pl_val (.int .i64 (w64 (s2.2 * n))) (y_mul rfl rfl) ?_
      refine pl_val (.int .i64 (w64 (s2.2 * n))) (y_assign rfl) ?_
      refine c_nil ?_
      refine c_region ?_
      refine pl_val (.int .i64 s2.1) (y_move rfl) ?_
      refine pl_val (.int .i64 (w64 (s2.1 - 1))) (y_sub rfl rfl) ?_
      refine pl_val (.int .i64 (w64 (s2.1 - 1))) (y_assign rfl) ?_
      refine c_nil ?_
      cases hs
      exact ⟨_, fr_ovl 14 ⟨rfl, rfl, rfl, trivial⟩, hC, hO⟩
    · skip
      refine c_condF (congrArg Value.bool hc8) ?_
      refine wp_exit ?_
      cases hs
      exact ⟨rfl, _, fr_ovl 14 ⟨rfl, trivial⟩, hC, hO⟩
  · skip
    exact ⟨_, fr_ovl 14 ⟨rfl, rfl, rfl, trivial⟩, hC, hO⟩
  · cases o6 with
    | nx _ => exact True.intro
    | rt r_ =>
      have hs := after_rt hs
      intro a1 w1 hK
      cases hs
      exact hK
    | br s2 =>
      have hs := after_br hs
      rintro a1 w3 ⟨σ, rfl, hC, hO⟩
      refine c_seq ?_
      refine c_region ?_
      refine pl_val (.int .i64 s2.2) (y_move rfl) ?_
      refine pl_val (.int .i64 s2.2) (y_assign rfl) ?_
      refine c_nil ?_
      refine wp_ret ?_
      cases hs
      exact ⟨_, fr_ovl 14 ⟨rfl, trivial⟩, hC⟩

def k_impl_inSize (M : Nat → Prop) (w0 : World) (r : Bool) (a : Act) (w : World) : Prop :=
  ∃ (σ : Nat → Value) , a = fr 21 (ovl σ [(4, (.bool r))]) ∧ Chg [] w0 w
def s_impl_inSize (list : List Int) (n : Int) : Option (Bool) :=
  (forR (S := Unit) (R := Bool) (fun _ x8 s5 =>
  (bif (decide (x8 < 0)) then some (.rt false) else (bif (decide (n ≤ x8)) then some (.rt false) else some (.nx ())))) 0 list ()).bind fun o9 => after o9 (fun r_ => some r_) (fun s5 =>
  some true)
set_option maxHeartbeats 4000000 in
theorem c_impl_inSize {M : Nat → Prop} {w : World} {pa0 : Option Addr} {pn0 pc0 : Nat} (list : List Int) (n : Int) (h0 : (RT.rs (RT.int .i64)).val M w (.slice pa0 pn0 pc0) list ([])) (hM : ∀ g, w.heap.size ≤ g → M g) {r : Bool} (hs : s_impl_inSize list n = some r) :
    Gives Try.prog 113 [(.slice pa0 pn0 pc0), (.int .i64 n)] w (fun v w' => v = (.bool r) ∧ Chg [] w w') := by
  refine calls_fr Try.func113 rfl Try.ntmps113 (Nat.le_of_ble_eq_true rfl) ?_
  have hO := Own.start (N := Nw w []) hM Nw.fut
  have hC := Chg.refl [] w
  unfold s_impl_inSize at hs
  refine wp_mono (Q := KPost (k_impl_inSize M w r)) ?_ (fun e a w1 h => ?_)
  rotate_left
  · cases e
    case ret =>
      obtain ⟨σ, rfl, hrest⟩ := h
      exact ret1x Try.results113 (res_tmp rfl) ⟨rfl, hrest⟩
    all_goals exact (h : False).elim
  refine c_seq ?_
  refine c_region ?_
  refine pl_val (.bool false) (y_assign rfl) ?_
  refine c_nil ?_
  refine c_seq ?_
  refine c_seq ?_
  refine c_region ?_
  refine pl_val (.slice pa0 pn0 pc0) (y_move rfl) ?_
  refine pl_val (.int .i64 (list.length : Int)) (y_len' Sl22 (rs_len h0) rfl) ?_
  refine pl_val (.int .i64 0) (y_move rfl) ?_
  refine c_nil ?_
  obtain ⟨o9, hl10, hs⟩ := bind_some hs
  refine wp_block ?_
  refine wp_forR (id := 0) (I := fun i_ xs_ s5 a w6 => ∃ k7 : Nat, i_ = (k7 : Int) ∧ List.drop k7 list = xs_ ∧ (∃ (σ : Nat → Value), a = fr 21 (ovl σ [(1, (.int .i64 n)), (7, (.slice pa0 pn0 pc0)), (8, (.int .i64 (list.length : Int))), (9, (.int .i64 (k7 : Int)))]) ∧ Chg [] w w6 ∧ Own (Nw w []) M w6 ([]) ∧ (RT.rs (RT.int .i64)).val M w6 (.slice pa0 pn0 pc0) list ([]))) (J := fun s5 a w6 => ∃ (σ : Nat → Value), a = fr 21 (ovl σ []) ∧ Chg [] w w6 ∧ Own (Nw w []) M w6 ([]) ∧ (RT.rs (RT.int .i64)).val M w6 (.slice pa0 pn0 pc0) list ([])) (K := (k_impl_inSize M w)) ?_ ?_ list 0 () o9 _ _ ?_ hl10 ?_
  · rintro _ s5 a w6 ⟨k7, rfl, hd, σ, rfl, hC, hO, h0⟩
    have hlt := drop_nil_ge hd
    refine c_seq ?_
    refine c_region ?_
    refine pl_val (.bool (decide ((k7 : Int) < (list.length : Int)))) (y_lss rfl rfl) ?_
    refine c_nil ?_
    refine c_seq ?_
    refine c_condF (congrArg Value.bool (decide_eq_false hlt)) ?_
    refine wp_exit ?_
    exact ⟨rfl, _, fr_ovl 21 trivial, hC, hO, h0⟩
  · rintro _ x8 xs_ s5 o9 a w6 ⟨k7, rfl, hd, σ, rfl, hC, hO, h0⟩ hs
    have hlt := drop_cons_lt hd
    have hxk7 := drop_cons_idx hd
    refine c_seq ?_
    refine c_region ?_
    refine pl_val (.bool (decide ((k7 : Int) < (list.length : Int)))) (y_lss rfl rfl) ?_
    refine c_nil ?_
    refine c_seq ?_
    refine c_condT (congrArg Value.bool (decide_eq_true hlt)) ?_
    refine wp_skip ?_
    refine c_seq ?_
    refine wp_block ?_
    refine c_seq ?_
    refine c_region ?_
    obtain ⟨b11, o11, hp11, ha11⟩ := rs_idx Sl22 Sz3 h0 hxk7
    refine pl_val (.pointer (some ⟨b11, o11, none⟩)) (hp11 _ _ _ _ _ _ _ _ _ rfl rfl) ?_
    refine pl_val (.int .i64 x8) (y_load rfl ((at_load_int Ag3 Sz3 ha11) _ (Chg.refl _ _))) ?_
    refine pl_val (.int .i64 x8) (y_assign rfl) ?_
    refine c_nil ?_
    refine c_seq ?_
    refine c_region ?_
    refine pl_val (.int .i64 x8) (y_move rfl) ?_
    refine pl_val (.bool (decide (x8 < 0))) (y_lss rfl rfl) ?_
    refine pl_val (.bool (decide (x8 < 0))) (y_move rfl) ?_
    rcases bif_some hs with ⟨hc12, hs⟩ | ⟨hc12, hs⟩
    · skip
      refine pl_not (tg := 15) (by kernel_rfl) (congrArg Value.bool hc12) ?_
      refine pl_not (tg := 15) (by kernel_rfl) (congrArg Value.bool hc12) ?_
      refine pl_not (tg := 15) (by kernel_rfl) (congrArg Value.bool hc12) ?_
      refine pl_val (.bool true) (y_pick_t (congrArg Value.bool hc12) rfl) ?_
      refine c_nil ?_
      refine c_condT (by rfl) ?_
      refine c_seq ?_
      refine c_region ?_
      refine pl_val (.bool false) (y_assign rfl) ?_
      refine c_nil ?_
      refine wp_ret ?_
      cases hs
      exact ⟨_, fr_ovl 21 ⟨rfl, trivial⟩, hC⟩
    · skip
      refine pl_yes (.int .i64 x8) (tg := 15) (by kernel_rfl) (congrArg Value.bool hc12) (y_move rfl) ?_
      refine pl_yes (.int .i64 n) (tg := 15) (by kernel_rfl) (congrArg Value.bool hc12) (y_move rfl) ?_
      refine pl_yes (.bool (decide (n ≤ x8))) (tg := 15) (by kernel_rfl) (congrArg Value.bool hc12) (y_geq rfl rfl) ?_
      refine pl_val (.bool (decide (n ≤ x8))) (y_pick_f (congrArg Value.bool hc12) rfl) ?_
      refine c_nil ?_
      rcases bif_some hs with ⟨hc13, hs⟩ | ⟨hc13, hs⟩
      · skip
        refine c_condT (congrArg Value.bool hc13) ?_
        refine c_seq ?_
        refine c_region ?_
        refine pl_val (.bool false) (y_assign rfl) ?_
        refine c_nil ?_
        refine wp_ret ?_
        cases hs
        exact ⟨_, fr_ovl 21 ⟨rfl, trivial⟩, hC⟩
      · skip
        refine c_condF (congrArg Value.bool hc13) ?_
        refine wp_skip ?_
        refine c_region ?_
        refine pl_val (.int .i64 (w64 ((k7 : Int) + 1))) (y_add rfl rfl) ?_
        refine pl_val (.int .i64 (w64 ((k7 : Int) + 1))) (y_move rfl) ?_
        refine c_nil ?_
        cases hs
        exact ⟨_, rfl, drop_cons_next hd, _, fr_ovl 21 ⟨rfl, rfl, rfl, congrArg (Value.int .i64) (w64_succ hlt (Int.natCast_nonneg _) (rs_max h0)), trivial⟩, hC, hO, h0⟩
  · skip
    exact ⟨0, rfl, rfl, _, fr_ovl 21 ⟨rfl, rfl, rfl, rfl, trivial⟩, hC, hO, h0⟩
  · cases o9 with
    | nx _ => exact True.intro
    | rt r_ =>
      have hs := after_rt hs
      intro a1 w1 hK
      cases hs
      exact hK
    | br s5 =>
      have hs := after_br hs
      rintro a1 w6 ⟨σ, rfl, hC, hO, h0⟩
      refine c_seq ?_
      refine c_region ?_
      refine pl_val (.bool true) (y_assign rfl) ?_
      refine c_nil ?_
      refine wp_ret ?_
      cases hs
      exact ⟨_, fr_ovl 21 ⟨rfl, trivial⟩, hC⟩

theorem Bd165 : Bodied Try.prog 165 := bodied Try.func165 (by kernel_rfl) rfl

theorem Bd113 : Bodied Try.prog 113 := bodied Try.func113 (by kernel_rfl) rfl

end Go.Proofs
