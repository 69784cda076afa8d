/- What functions of the program compute, as plain functions, and that a call gives just that. Conditions: those named in each theorem. -/
import Derived.Test.YtceenhnjdnggjaaGFoc
import Derived.Test.YtceenhnjdnggjaaRows
set_option linter.unusedVariables false
namespace Go.Proofs
open Go.G Go.RowKit
set_option maxRecDepth 100000

theorem Sl22 : SlT Try.prog 22 3 := Try.underlying22

def k_laws_szIntS (M : Nat → Prop) (w0 : World) (r : Int) (a : Act) (w : World) : Prop :=
  ∃ (σ : Nat → Value) , a = fr 12 (ovl σ [(4, (.int .i64 r))]) ∧ Chg [] w0 w
def s_laws_szIntS (a_ : List Int) (left : Int) : Option (Int) :=
  (bif (decide ((w64 (left - (a_.length : Int))) < 0)) then some (-1) else some (w64 (left - (a_.length : Int))))
set_option maxHeartbeats 4000000 in
theorem c_laws_szIntS {M : Nat → Prop} {w : World} {pa0 : Option Addr} {pn0 pc0 : Nat} (a_ : List Int) (left : Int) (h0 : (RT.rs (RT.int .i64)).val M w (.slice pa0 pn0 pc0) a_ ([])) (hM : ∀ g, w.heap.size ≤ g → M g) {r : Int} (hs : s_laws_szIntS a_ left = some r) :
    Gives Try.prog 108 [(.slice pa0 pn0 pc0), (.int .i64 left)] w (fun v w' => v = (.int .i64 r) ∧ Chg [] w w') := by
  refine calls_fr Try.func108 rfl Try.ntmps108 (Nat.le_of_ble_eq_true rfl) ?_
  have hO := Own.start (N := Nw w []) hM Nw.fut
  have hC := Chg.refl [] w
  unfold s_laws_szIntS at hs
  refine wp_mono (Q := KPost (k_laws_szIntS M w r)) ?_ (fun e a w1 h => ?_)
  rotate_left
  · cases e
    case ret =>
      obtain ⟨σ, rfl, hrest⟩ := h
      exact ret1x Try.results108 (res_tmp rfl) ⟨rfl, hrest⟩
    all_goals exact (h : False).elim
  refine c_seq ?_
  refine c_region ?_
  refine pl_val (.int .i64 0) (y_assign rfl) ?_
  refine c_nil ?_
  refine c_seq ?_
  refine c_region ?_
  refine pl_val (.int .i64 left) (y_move rfl) ?_
  refine pl_val (.slice pa0 pn0 pc0) (y_move rfl) ?_
  refine pl_val (.int .i64 (a_.length : Int)) (y_len' Sl22 (rs_len h0) rfl) ?_
  refine pl_val (.int .i64 (w64 (left - (a_.length : Int)))) (y_sub rfl rfl) ?_
  refine pl_val (.int .i64 (w64 (left - (a_.length : Int)))) (y_assign rfl) ?_
  refine c_nil ?_
  refine c_seq ?_
  refine c_seq ?_
  refine c_region ?_
  refine pl_val (.int .i64 (w64 (left - (a_.length : Int)))) (y_move rfl) ?_
  refine pl_val (.bool (decide ((w64 (left - (a_.length : Int))) < 0))) (y_lss rfl rfl) ?_
  refine c_nil ?_
  rcases bif_some hs with ⟨hc2, hs⟩ | ⟨hc2, hs⟩
  · skip
    refine c_condT (congrArg Value.bool hc2) ?_
    refine c_seq ?_
    refine c_region ?_
    refine pl_val (.int .i64 (-1)) (y_assign rfl) ?_
    refine c_nil ?_
    refine wp_ret ?_
    cases hs
    exact ⟨_, fr_ovl 12 ⟨rfl, trivial⟩, hC⟩
  · skip
    refine c_condF (congrArg Value.bool hc2) ?_
    refine wp_skip ?_
    refine c_seq ?_
    refine c_region ?_
    refine pl_val (.int .i64 (w64 (left - (a_.length : Int)))) (y_move rfl) ?_
    refine pl_val (.int .i64 (w64 (left - (a_.length : Int)))) (y_assign rfl) ?_
    refine c_nil ?_
    refine wp_ret ?_
    cases hs
    exact ⟨_, fr_ovl 12 ⟨rfl, trivial⟩, hC⟩

theorem Fa156x1 : ∀ (a : Addr) (w : World), (Instr.fieldAt 156 (.pointer (some a)) 1).run Try.prog w = .ok (.pointer (some (a.add 1))) w := fun _ _ => by kernel_rfl

theorem Ag22 : AggT Try.prog 22 false := fun _ => by kernel_rfl

theorem Sz22 : SzT Try.prog 22 1 := ⟨_, rfl, rfl⟩

theorem Bd108 : Bodied Try.prog 108 := bodied Try.func108 (by kernel_rfl) rfl

def k_laws_szOp (M : Nat → Prop) (w0 : World) (r : Int) (a : Act) (w : World) : Prop :=
  ∃ (σ : Nat → Value) , a = fr 12 (ovl σ [(4, (.int .i64 r))]) ∧ Chg [] w0 w
def s_laws_szOp (a_ : Int × (List Int)) (left : Int) : Option (Int) :=
  (s_laws_szIntS a_.2 left).bind fun r4 =>
  (bif (decide (r4 < 0)) then some (-1) else some r4)
set_option maxHeartbeats 4000000 in
theorem c_laws_szOp {M : Nat → Prop} {w : World} {pa0 : Option Addr} {pn0 pc0 : Nat} (a_ : Int × (List Int)) (left : Int) (h0 : (RT.rs (RT.int .i64)).val M w (.slice pa0 pn0 pc0) a_.2 ([])) (hM : ∀ g, w.heap.size ≤ g → M g) {r : Int} (hs : s_laws_szOp a_ left = some r) :
    Gives Try.prog 152 [(.agg #[(.int .i64 a_.1), (.slice pa0 pn0 pc0)]), (.int .i64 left)] w (fun v w' => v = (.int .i64 r) ∧ Chg [] w w') := by
  refine calls_fr Try.func152 rfl Try.ntmps152 (Nat.le_of_ble_eq_true rfl) ?_
  have hO := Own.start (N := Nw w []) hM Nw.fut
  have hC := Chg.refl [] w
  unfold s_laws_szOp at hs
  refine wp_mono (Q := KPost (k_laws_szOp M w r)) ?_ (fun e a w1 h => ?_)
  rotate_left
  · cases e
    case ret =>
      obtain ⟨σ, rfl, hrest⟩ := h
      exact ret1x Try.results152 (res_tmp rfl) ⟨rfl, hrest⟩
    all_goals exact (h : False).elim
  refine c_seq ?_
  refine c_region ?_
  obtain ⟨w2, g2, ew2, eg2, hC2, hb2⟩ := new_block w [(.int .i64 a_.1), (.slice pa0 pn0 pc0)] 156
  refine pl_val (w' := w2) (.pointer (some ⟨g2, 0, none⟩)) (y_box rfl (by rw [ew2, eg2]; kernel_rfl)) ?_
  have h0 := h0.ext hC2
  have hC := hC.ext hC2
  have hO := hO.new (X' := [g2]) hC2 (fun q hq => by rw [List.mem_singleton.1 hq, eg2]; exact Nat.le_refl _) (List.nodup_cons.2 ⟨(fun h => nomatch h), List.nodup_nil⟩) (fun q hq => by rw [List.mem_singleton.1 hq]; exact hb2.lt)
  refine pl_val (.int .i64 0) (y_assign rfl) ?_
  refine c_nil ?_
  refine c_seq ?_
  refine c_region ?_
  refine pl_val (.pointer (some ⟨g2, 1, none⟩)) (y_faddr rfl Fa156x1) ?_
  refine pl_val (.slice pa0 pn0 pc0) (y_load rfl ((box_load Ag22 Sz22 hb2 [(.int .i64 a_.1)] [(.slice pa0 pn0 pc0)] [] rfl rfl (fun _ => rfl)) _ (Chg.refl _ _))) ?_
  refine pl_val (.int .i64 left) (y_move rfl) ?_
  obtain ⟨r4, hr4, hs⟩ := bind_some hs
  refine pl_call Bd108 rfl (c_laws_szIntS (M := M) a_.2 left h0 hO.fut hr4) ?_
  rintro _ w3 ⟨rfl, hC3⟩
  have h0 := h0.ext hC3
  have hb2 := hb2.chg hC3 (fun h => nomatch h)
  have hC := hC.ext hC3
  have hO := hO.ext hC3
  refine pl_val (.int .i64 r4) (y_assign rfl) ?_
  refine c_nil ?_
  refine c_seq ?_
  refine c_seq ?_
  refine c_region ?_
  refine pl_val (.int .i64 r4) (y_move rfl) ?_
  refine pl_val (.bool (decide (r4 < 0))) (y_lss rfl rfl) ?_
  refine c_nil ?_
  rcases bif_some hs with ⟨hc5, hs⟩ | ⟨hc5, hs⟩
  · skip
    refine c_condT (congrArg Value.bool hc5) ?_
    refine c_seq ?_
    refine c_region ?_
    refine pl_val (.int .i64 (-1)) (y_assign rfl) ?_
    refine c_nil ?_
    refine wp_ret ?_
    cases hs
    exact ⟨_, fr_ovl 12 ⟨rfl, trivial⟩, hC⟩
  · skip
    refine c_condF (congrArg Value.bool hc5) ?_
    refine wp_skip ?_
    refine c_seq ?_
    refine c_region ?_
    refine pl_val (.int .i64 r4) (y_move rfl) ?_
    refine pl_val (.int .i64 r4) (y_assign rfl) ?_
    refine c_nil ?_
    refine wp_ret ?_
    cases hs
    exact ⟨_, fr_ovl 12 ⟨rfl, trivial⟩, hC⟩

theorem Sl53 : SlT Try.prog 53 156 := Try.underlying53

theorem Sz156 : SzT Try.prog 156 2 := ⟨_, rfl, rfl⟩

theorem Ag156 : AggT Try.prog 156 true := fun _ => by kernel_rfl

theorem Bd152 : Bodied Try.prog 152 := bodied Try.func152 (by kernel_rfl) rfl

def k_laws_szOpS (M : Nat → Prop) (w0 : World) (r : Int) (a : Act) (w : World) : Prop :=
  ∃ (σ : Nat → Value) , a = fr 27 (ovl σ [(4, (.int .i64 r))]) ∧ Chg [] w0 w
def s_laws_szOpS (a_ : List (Int × (List Int))) (left : Int) : Option (Int) :=
  (bif (decide ((w64 (left - (a_.length : Int))) < 0)) then some (-1) else (forC (S := Int) (R := Int) (fun k12 s10 =>
  (idx a_ k12).bind fun x16 =>
  (s_laws_szOp (x16.1, x16.2) s10).bind fun r21 =>
  (bif (decide (r21 < 0)) then some (.rt (-1)) else some (.nx r21))) 0 (a_.length : Int) (w64 (left - (a_.length : Int)))).bind fun o14 => after o14 (fun r_ => some r_) (fun s10 =>
  some s10))
set_option maxHeartbeats 4000000 in
theorem c_laws_szOpS {M : Nat → Prop} {w : World} {pa0 : Option Addr} {pn0 pc0 : Nat} (a_ : List (Int × (List Int))) (left : Int) (h0 : (RT.rs (RT.pr (RT.int .i64) (RT.rs (RT.int .i64)))).val M w (.slice pa0 pn0 pc0) a_ ([])) (hM : ∀ g, w.heap.size ≤ g → M g) {r : Int} (hs : s_laws_szOpS a_ left = some r) :
    Gives Try.prog 93 [(.slice pa0 pn0 pc0), (.int .i64 left)] w (fun v w' => v = (.int .i64 r) ∧ Chg [] w w') := by
  refine calls_fr Try.func93 rfl Try.ntmps93 (Nat.le_of_ble_eq_true rfl) ?_
  have hO := Own.start (N := Nw w []) hM Nw.fut
  have hC := Chg.refl [] w
  unfold s_laws_szOpS at hs
  refine wp_mono (Q := KPost (k_laws_szOpS M w r)) ?_ (fun e a w1 h => ?_)
  rotate_left
  · cases e
    case ret =>
      obtain ⟨σ, rfl, hrest⟩ := h
      exact ret1x Try.results93 (res_tmp rfl) ⟨rfl, hrest⟩
    all_goals exact (h : False).elim
  refine c_seq ?_
  refine c_region ?_
  refine pl_val (.int .i64 0) (y_assign rfl) ?_
  refine c_nil ?_
  refine c_seq ?_
  refine c_region ?_
  refine pl_val (.int .i64 left) (y_move rfl) ?_
  refine pl_val (.slice pa0 pn0 pc0) (y_move rfl) ?_
  refine pl_val (.int .i64 (a_.length : Int)) (y_len' Sl53 (rs_len h0) rfl) ?_
  refine pl_val (.int .i64 (w64 (left - (a_.length : Int)))) (y_sub rfl rfl) ?_
  refine pl_val (.int .i64 (w64 (left - (a_.length : Int)))) (y_assign rfl) ?_
  refine c_nil ?_
  refine c_seq ?_
  refine c_seq ?_
  refine c_region ?_
  refine pl_val (.int .i64 (w64 (left - (a_.length : Int)))) (y_move rfl) ?_
  refine pl_val (.bool (decide ((w64 (left - (a_.length : Int))) < 0))) (y_lss rfl rfl) ?_
  refine c_nil ?_
  rcases bif_some hs with ⟨hc2, hs⟩ | ⟨hc2, hs⟩
  · skip
    refine c_condT (congrArg Value.bool hc2) ?_
    refine c_seq ?_
    refine c_region ?_
    refine pl_val (.int .i64 (-1)) (y_assign rfl) ?_
    refine c_nil ?_
    refine wp_ret ?_
    cases hs
    exact ⟨_, fr_ovl 27 ⟨rfl, trivial⟩, hC⟩
  · skip
    refine c_condF (congrArg Value.bool hc2) ?_
    refine wp_skip ?_
    refine c_seq ?_
    refine c_seq ?_
    refine c_region ?_
    refine pl_val (.int .i64 0) (y_assign rfl) ?_
    refine c_nil ?_
    obtain ⟨o14, hl15, hs⟩ := bind_some hs
    refine wp_block ?_
    refine wp_forC (id := 0) (a_.length : Int) (I := fun k12 s10 a w11 => ∃ (σ : Nat → Value), a = fr 27 (ovl σ [(0, (.slice pa0 pn0 pc0)), (1, (.int .i64 s10)), (5, (.int .i64 k12))]) ∧ Chg [] w w11 ∧ Own (Nw w []) M w11 ([]) ∧ (RT.rs (RT.pr (RT.int .i64) (RT.rs (RT.int .i64)))).val M w11 (.slice pa0 pn0 pc0) a_ ([])) (J := fun s10 a w11 => ∃ (σ : Nat → Value), a = fr 27 (ovl σ [(1, (.int .i64 s10))]) ∧ Chg [] w w11 ∧ Own (Nw w []) M w11 ([]) ∧ (RT.rs (RT.pr (RT.int .i64) (RT.rs (RT.int .i64)))).val M w11 (.slice pa0 pn0 pc0) a_ ([])) (K := (k_laws_szOpS M w)) ?_ ?_ 0 (w64 (left - (a_.length : Int))) o14 _ _ ?_ hl15 ?_
    · rintro k12 s10 a w11 ⟨σ, rfl, hC, hO, h0⟩ hlt
      refine c_seq ?_
      refine c_seq ?_
      refine c_region ?_
      refine pl_val (.int .i64 k12) (y_move rfl) ?_
      refine pl_val (.slice pa0 pn0 pc0) (y_move rfl) ?_
      refine pl_val (.int .i64 (a_.length : Int)) (y_len' Sl53 (rs_len h0) rfl) ?_
      refine pl_val (.bool (decide (k12 < (a_.length : Int)))) (y_lss rfl rfl) ?_
      refine c_nil ?_
      refine c_condF (congrArg Value.bool (decide_eq_false hlt)) ?_
      refine wp_exit ?_
      exact ⟨rfl, _, fr_ovl 27 ⟨rfl, trivial⟩, hC, hO, h0⟩
    · rintro k12 s10 o14 a w11 ⟨σ, rfl, hC, hO, h0⟩ hlt hw hs
      refine c_seq ?_
      refine c_seq ?_
      refine c_region ?_
      refine pl_val (.int .i64 k12) (y_move rfl) ?_
      refine pl_val (.slice pa0 pn0 pc0) (y_move rfl) ?_
      refine pl_val (.int .i64 (a_.length : Int)) (y_len' Sl53 (rs_len h0) rfl) ?_
      refine pl_val (.bool (decide (k12 < (a_.length : Int)))) (y_lss rfl rfl) ?_
      refine c_nil ?_
      refine c_condT (congrArg Value.bool (decide_eq_true hlt)) ?_
      refine wp_skip ?_
      refine c_seq ?_
      refine wp_block ?_
      refine c_seq ?_
      refine c_region ?_
      refine pl_val (.slice pa0 pn0 pc0) (y_move rfl) ?_
      refine pl_val (.int .i64 k12) (y_move rfl) ?_
      obtain ⟨x16, hx16, hs⟩ := bind_some hs
      obtain ⟨b17, o17, hp17, ha17⟩ := rs_idx Sl53 Sz156 h0 hx16
      refine pl_val (.pointer (some ⟨b17, o17, none⟩)) (hp17 _ _ _ _ _ _ _ _ _ rfl rfl) ?_
      obtain ⟨v18, hl18, hv18⟩ := at_load Ag156 Sz156 (by intro h; cases h) ha17
      obtain ⟨cs18, rfl, hr18⟩ := hv18
      obtain ⟨cc18x1, cd18x1, rfl, hh18x1, ht18x1⟩ := pr_open hr18
      obtain rfl := int_rel hh18x1
      obtain ⟨a18x2, n18x2, c18x2, rfl, hv18x2⟩ := rs_rel ht18x1
      refine pl_val (.agg #[(.int .i64 x16.1), (.slice a18x2 n18x2 c18x2)]) (y_load rfl (hl18 _ (Chg.refl _ _))) ?_
      refine pl_val (.int .i64 s10) (y_move rfl) ?_
      obtain ⟨r21, hr21, hs⟩ := bind_some hs
      refine pl_call Bd152 rfl (c_laws_szOp (M := M) (x16.1, x16.2) s10 hv18x2 hO.fut hr21) ?_
      rintro _ w20 ⟨rfl, hC20⟩
      have h0 := h0.ext hC20
      have hv18x2 := hv18x2.ext hC20
      have hC := hC.ext hC20
      have hO := hO.ext hC20
      refine pl_val (.int .i64 r21) (y_assign rfl) ?_
      refine c_nil ?_
      refine c_seq ?_
      refine c_region ?_
      refine pl_val (.int .i64 r21) (y_move rfl) ?_
      refine pl_val (.bool (decide (r21 < 0))) (y_lss rfl rfl) ?_
      refine c_nil ?_
      rcases bif_some hs with ⟨hc22, hs⟩ | ⟨hc22, hs⟩
      · skip
        refine c_condT (congrArg Value.bool hc22) ?_
        refine c_seq ?_
        refine c_region ?_
        refine pl_val (.int .i64 (-1)) (y_assign rfl) ?_
        refine c_nil ?_
        refine wp_ret ?_
        cases hs
        exact ⟨_, fr_ovl 27 ⟨rfl, trivial⟩, hC⟩
      · skip
        refine c_condF (congrArg Value.bool hc22) ?_
        refine wp_skip ?_
        refine c_region ?_
        refine pl_val (.int .i64 k12) (y_move rfl) ?_
        refine pl_val (.int .i64 (w64 (k12 + 1))) (y_add rfl rfl) ?_
        refine pl_val (.int .i64 (w64 (k12 + 1))) (y_assign rfl) ?_
        refine c_nil ?_
        cases hs
        exact ⟨_, fr_ovl 27 ⟨rfl, rfl, congrArg (Value.int .i64) hw, trivial⟩, hC, hO, h0⟩
    · skip
      exact ⟨_, fr_ovl 27 ⟨rfl, rfl, rfl, trivial⟩, hC, hO, h0⟩
    · cases o14 with
      | nx _ => exact True.intro
      | rt r_ =>
        have hs := after_rt hs
        intro a1 w1 hK
        cases hs
        exact hK
      | br s10 =>
        have hs := after_br hs
        rintro a1 w11 ⟨σ, rfl, hC, hO, h0⟩
        refine c_seq ?_
        refine c_region ?_
        refine pl_val (.int .i64 s10) (y_move rfl) ?_
        refine pl_val (.int .i64 s10) (y_assign rfl) ?_
        refine c_nil ?_
        refine wp_ret ?_
        cases hs
        exact ⟨_, fr_ovl 27 ⟨rfl, trivial⟩, hC⟩

theorem Fa55x1 : ∀ (a : Addr) (w : World), (Instr.fieldAt 55 (.pointer (some a)) 1).run Try.prog w = .ok (.pointer (some (a.add 1))) w := fun _ _ => by kernel_rfl

theorem Ag53 : AggT Try.prog 53 false := fun _ => by kernel_rfl

theorem Sz53 : SzT Try.prog 53 1 := ⟨_, rfl, rfl⟩

theorem Bd93 : Bodied Try.prog 93 := bodied Try.func93 (by kernel_rfl) rfl

def k_laws_szAlgebra (M : Nat → Prop) (w0 : World) (r : Int) (a : Act) (w : World) : Prop :=
  ∃ (σ : Nat → Value) , a = fr 12 (ovl σ [(4, (.int .i64 r))]) ∧ Chg [] w0 w
def s_laws_szAlgebra (a_ : Int × (List (Int × (List Int)))) (left : Int) : Option (Int) :=
  (s_laws_szOpS a_.2 left).bind fun r4 =>
  (bif (decide (r4 < 0)) then some (-1) else some r4)
set_option maxHeartbeats 4000000 in
theorem c_laws_szAlgebra {M : Nat → Prop} {w : World} {pa0 : Option Addr} {pn0 pc0 : Nat} (a_ : Int × (List (Int × (List Int)))) (left : Int) (h0 : (RT.rs (RT.pr (RT.int .i64) (RT.rs (RT.int .i64)))).val M w (.slice pa0 pn0 pc0) a_.2 ([])) (hM : ∀ g, w.heap.size ≤ g → M g) {r : Int} (hs : s_laws_szAlgebra a_ left = some r) :
    Gives Try.prog 35 [(.agg #[(.int .i64 a_.1), (.slice pa0 pn0 pc0)]), (.int .i64 left)] w (fun v w' => v = (.int .i64 r) ∧ Chg [] w w') := by
  refine calls_fr Try.func35 rfl Try.ntmps35 (Nat.le_of_ble_eq_true rfl) ?_
  have hO := Own.start (N := Nw w []) hM Nw.fut
  have hC := Chg.refl [] w
  unfold s_laws_szAlgebra at hs
  refine wp_mono (Q := KPost (k_laws_szAlgebra M w r)) ?_ (fun e a w1 h => ?_)
  rotate_left
  · cases e
    case ret =>
      obtain ⟨σ, rfl, hrest⟩ := h
      exact ret1x Try.results35 (res_tmp rfl) ⟨rfl, hrest⟩
    all_goals exact (h : False).elim
  refine c_seq ?_
  refine c_region ?_
  obtain ⟨w2, g2, ew2, eg2, hC2, hb2⟩ := new_block w [(.int .i64 a_.1), (.slice pa0 pn0 pc0)] 55
  refine pl_val (w' := w2) (.pointer (some ⟨g2, 0, none⟩)) (y_box rfl (by rw [ew2, eg2]; kernel_rfl)) ?_
  have h0 := h0.ext hC2
  have hC := hC.ext hC2
  have hO := hO.new (X' := [g2]) hC2 (fun q hq => by rw [List.mem_singleton.1 hq, eg2]; exact Nat.le_refl _) (List.nodup_cons.2 ⟨(fun h => nomatch h), List.nodup_nil⟩) (fun q hq => by rw [List.mem_singleton.1 hq]; exact hb2.lt)
  refine pl_val (.int .i64 0) (y_assign rfl) ?_
  refine c_nil ?_
  refine c_seq ?_
  refine c_region ?_
  refine pl_val (.pointer (some ⟨g2, 1, none⟩)) (y_faddr rfl Fa55x1) ?_
  refine pl_val (.slice pa0 pn0 pc0) (y_load rfl ((box_load Ag53 Sz53 hb2 [(.int .i64 a_.1)] [(.slice pa0 pn0 pc0)] [] rfl rfl (fun _ => rfl)) _ (Chg.refl _ _))) ?_
  refine pl_val (.int .i64 left) (y_move rfl) ?_
  obtain ⟨r4, hr4, hs⟩ := bind_some hs
  refine pl_call Bd93 rfl (c_laws_szOpS (M := M) a_.2 left h0 hO.fut hr4) ?_
  rintro _ w3 ⟨rfl, hC3⟩
  have h0 := h0.ext hC3
  have hb2 := hb2.chg hC3 (fun h => nomatch h)
  have hC := hC.ext hC3
  have hO := hO.ext hC3
  refine pl_val (.int .i64 r4) (y_assign rfl) ?_
  refine c_nil ?_
  refine c_seq ?_
  refine c_seq ?_
  refine c_region ?_
  refine pl_val (.int .i64 r4) (y_move rfl) ?_
  refine pl_val (.bool (decide (r4 < 0))) (y_lss rfl rfl) ?_
  refine c_nil ?_
  rcases bif_some hs with ⟨hc5, hs⟩ | ⟨hc5, hs⟩
  · skip
    refine c_condT (congrArg Value.bool hc5) ?_
    refine c_seq ?_
    refine c_region ?_
    refine pl_val (.int .i64 (-1)) (y_assign rfl) ?_
    refine c_nil ?_
    refine wp_ret ?_
    cases hs
    exact ⟨_, fr_ovl 12 ⟨rfl, trivial⟩, hC⟩
  · skip
    refine c_condF (congrArg Value.bool hc5) ?_
    refine wp_skip ?_
    refine c_seq ?_
    refine c_region ?_
    refine pl_val (.int .i64 r4) (y_move rfl) ?_
    refine pl_val (.int .i64 r4) (y_assign rfl) ?_
    refine c_nil ?_
    refine wp_ret ?_
    cases hs
    exact ⟨_, fr_ovl 12 ⟨rfl, trivial⟩, hC⟩

theorem Sl29 : SlT Try.prog 29 22 := Try.underlying29

def k_laws_szIntSS (M : Nat → Prop) (w0 : World) (r : Int) (a : Act) (w : World) : Prop :=
  ∃ (σ : Nat → Value) , a = fr 27 (ovl σ [(4, (.int .i64 r))]) ∧ Chg [] w0 w
def s_laws_szIntSS (a_ : List (List Int)) (left : Int) : Option (Int) :=
  (bif (decide ((w64 (left - (a_.length : Int))) < 0)) then some (-1) else (forC (S := Int) (R := Int) (fun k12 s10 =>
  (idx a_ k12).bind fun x16 =>
  (s_laws_szIntS x16 s10).bind fun r21 =>
  (bif (decide (r21 < 0)) then some (.rt (-1)) else some (.nx r21))) 0 (a_.length : Int) (w64 (left - (a_.length : Int)))).bind fun o14 => after o14 (fun r_ => some r_) (fun s10 =>
  some s10))
set_option maxHeartbeats 4000000 in
theorem c_laws_szIntSS {M : Nat → Prop} {w : World} {pa0 : Option Addr} {pn0 pc0 : Nat} (a_ : List (List Int)) (left : Int) (h0 : (RT.rs (RT.rs (RT.int .i64))).val M w (.slice pa0 pn0 pc0) a_ ([])) (hM : ∀ g, w.heap.size ≤ g → M g) {r : Int} (hs : s_laws_szIntSS a_ left = some r) :
    Gives Try.prog 48 [(.slice pa0 pn0 pc0), (.int .i64 left)] w (fun v w' => v = (.int .i64 r) ∧ Chg [] w w') := by
  refine calls_fr Try.func48 rfl Try.ntmps48 (Nat.le_of_ble_eq_true rfl) ?_
  have hO := Own.start (N := Nw w []) hM Nw.fut
  have hC := Chg.refl [] w
  unfold s_laws_szIntSS at hs
  refine wp_mono (Q := KPost (k_laws_szIntSS M w r)) ?_ (fun e a w1 h => ?_)
  rotate_left
  · cases e
    case ret =>
      obtain ⟨σ, rfl, hrest⟩ := h
      exact ret1x Try.results48 (res_tmp rfl) ⟨rfl, hrest⟩
    all_goals exact (h : False).elim
  refine c_seq ?_
  refine c_region ?_
  refine pl_val (.int .i64 0) (y_assign rfl) ?_
  refine c_nil ?_
  refine c_seq ?_
  refine c_region ?_
  refine pl_val (.int .i64 left) (y_move rfl) ?_
  refine pl_val (.slice pa0 pn0 pc0) (y_move rfl) ?_
  refine pl_val (.int .i64 (a_.length : Int)) (y_len' Sl29 (rs_len h0) rfl) ?_
  refine pl_val (.int .i64 (w64 (left - (a_.length : Int)))) (y_sub rfl rfl) ?_
  refine pl_val (.int .i64 (w64 (left - (a_.length : Int)))) (y_assign rfl) ?_
  refine c_nil ?_
  refine c_seq ?_
  refine c_seq ?_
  refine c_region ?_
  refine pl_val (.int .i64 (w64 (left - (a_.length : Int)))) (y_move rfl) ?_
  refine pl_val (.bool (decide ((w64 (left - (a_.length : Int))) < 0))) (y_lss rfl rfl) ?_
  refine c_nil ?_
  rcases bif_some hs with ⟨hc2, hs⟩ | ⟨hc2, hs⟩
  · skip
    refine c_condT (congrArg Value.bool hc2) ?_
    refine c_seq ?_
    refine c_region ?_
    refine pl_val (.int .i64 (-1)) (y_assign rfl) ?_
    refine c_nil ?_
    refine wp_ret ?_
    cases hs
    exact ⟨_, fr_ovl 27 ⟨rfl, trivial⟩, hC⟩
  · skip
    refine c_condF (congrArg Value.bool hc2) ?_
    refine wp_skip ?_
    refine c_seq ?_
    refine c_seq ?_
    refine c_region ?_
    refine pl_val (.int .i64 0) (y_assign rfl) ?_
    refine c_nil ?_
    obtain ⟨o14, hl15, hs⟩ := bind_some hs
    refine wp_block ?_
    refine wp_forC (id := 0) (a_.length : Int) (I := fun k12 s10 a w11 => ∃ (σ : Nat → Value), a = fr 27 (ovl σ [(0, (.slice pa0 pn0 pc0)), (1, (.int .i64 s10)), (5, (.int .i64 k12))]) ∧ Chg [] w w11 ∧ Own (Nw w []) M w11 ([]) ∧ (RT.rs (RT.rs (RT.int .i64))).val M w11 (.slice pa0 pn0 pc0) a_ ([])) (J := fun s10 a w11 => ∃ (σ : Nat → Value), a = fr 27 (ovl σ [(1, (.int .i64 s10))]) ∧ Chg [] w w11 ∧ Own (Nw w []) M w11 ([]) ∧ (RT.rs (RT.rs (RT.int .i64))).val M w11 (.slice pa0 pn0 pc0) a_ ([])) (K := (k_laws_szIntSS M w)) ?_ ?_ 0 (w64 (left - (a_.length : Int))) o14 _ _ ?_ hl15 ?_
    · rintro k12 s10 a w11 ⟨σ, rfl, hC, hO, h0⟩ hlt
      refine c_seq ?_
      refine c_seq ?_
      refine c_region ?_
      refine pl_val (.int .i64 k12) (y_move rfl) ?_
      refine pl_val (.slice pa0 pn0 pc0) (y_move rfl) ?_
      refine pl_val (.int .i64 (a_.length : Int)) (y_len' Sl29 (rs_len h0) rfl) ?_
      refine pl_val (.bool (decide (k12 < (a_.length : Int)))) (y_lss rfl rfl) ?_
      refine c_nil ?_
      refine c_condF (congrArg Value.bool (decide_eq_false hlt)) ?_
      refine wp_exit ?_
      exact ⟨rfl, _, fr_ovl 27 ⟨rfl, trivial⟩, hC, hO, h0⟩
    · rintro k12 s10 o14 a w11 ⟨σ, rfl, hC, hO, h0⟩ hlt hw hs
      refine c_seq ?_
      refine c_seq ?_
      refine c_region ?_
      refine pl_val (.int .i64 k12) (y_move rfl) ?_
      refine pl_val (.slice pa0 pn0 pc0) (y_move rfl) ?_
      refine pl_val (.int .i64 (a_.length : Int)) (y_len' Sl29 (rs_len h0) rfl) ?_
      refine pl_val (.bool (decide (k12 < (a_.length : Int)))) (y_lss rfl rfl) ?_
      refine c_nil ?_
      refine c_condT (congrArg Value.bool (decide_eq_true hlt)) ?_
      refine wp_skip ?_
      refine c_seq ?_
      refine wp_block ?_
      refine c_seq ?_
      refine c_region ?_
      refine pl_val (.slice pa0 pn0 pc0) (y_move rfl) ?_
      refine pl_val (.int .i64 k12) (y_move rfl) ?_
      obtain ⟨x16, hx16, hs⟩ := bind_some hs
      obtain ⟨b17, o17, hp17, ha17⟩ := rs_idx Sl29 Sz22 h0 hx16
      refine pl_val (.pointer (some ⟨b17, o17, none⟩)) (hp17 _ _ _ _ _ _ _ _ _ rfl rfl) ?_
      obtain ⟨v18, hl18, hv18⟩ := at_load Ag22 Sz22 (fun _ => rfl) ha17
      obtain ⟨a18, n18, c18, rfl⟩ := rs_sl hv18
      refine pl_val (.slice a18 n18 c18) (y_load rfl (hl18 _ (Chg.refl _ _))) ?_
      refine pl_val (.int .i64 s10) (y_move rfl) ?_
      obtain ⟨r21, hr21, hs⟩ := bind_some hs
      refine pl_call Bd108 rfl (c_laws_szIntS (M := M) x16 s10 hv18 hO.fut hr21) ?_
      rintro _ w20 ⟨rfl, hC20⟩
      have h0 := h0.ext hC20
      have hv18 := hv18.ext hC20
      have hC := hC.ext hC20
      have hO := hO.ext hC20
      refine pl_val (.int .i64 r21) (y_assign rfl) ?_
      refine c_nil ?_
      refine c_seq ?_
      refine c_region ?_
      refine pl_val (.int .i64 r21) (y_move rfl) ?_
      refine pl_val (.bool (decide (r21 < 0))) (y_lss rfl rfl) ?_
      refine c_nil ?_
      rcases bif_some hs with ⟨hc22, hs⟩ | ⟨hc22, hs⟩
      · skip
        refine c_condT (congrArg Value.bool hc22) ?_
        refine c_seq ?_
        refine c_region ?_
        refine pl_val (.int .i64 (-1)) (y_assign rfl) ?_
        refine c_nil ?_
        refine wp_ret ?_
        cases hs
        exact ⟨_, fr_ovl 27 ⟨rfl, trivial⟩, hC⟩
      · skip
        refine c_condF (congrArg Value.bool hc22) ?_
        refine wp_skip ?_
        refine c_region ?_
        refine pl_val (.int .i64 k12) (y_move rfl) ?_
        refine pl_val (.int .i64 (w64 (k12 + 1))) (y_add rfl rfl) ?_
        refine pl_val (.int .i64 (w64 (k12 + 1))) (y_assign rfl) ?_
        refine c_nil ?_
        cases hs
        exact ⟨_, fr_ovl 27 ⟨rfl, rfl, congrArg (Value.int .i64) hw, trivial⟩, hC, hO, h0⟩
    · skip
      exact ⟨_, fr_ovl 27 ⟨rfl, rfl, rfl, trivial⟩, hC, hO, h0⟩
    · cases o14 with
      | nx _ => exact True.intro
      | rt r_ =>
        have hs := after_rt hs
        intro a1 w1 hK
        cases hs
        exact hK
      | br s10 =>
        have hs := after_br hs
        rintro a1 w11 ⟨σ, rfl, hC, hO, h0⟩
        refine c_seq ?_
        refine c_region ?_
        refine pl_val (.int .i64 s10) (y_move rfl) ?_
        refine pl_val (.int .i64 s10) (y_assign rfl) ?_
        refine c_nil ?_
        refine wp_ret ?_
        cases hs
        exact ⟨_, fr_ovl 27 ⟨rfl, trivial⟩, hC⟩

theorem Rw22 : RowT Try.prog 22 3 1 [(.int .i64 0)] := ⟨Try.underlying22, ⟨_, _, rfl, rfl, rfl, rfl, by decide⟩, rfl, by decide⟩

theorem Sz3 : SzT Try.prog 3 1 := ⟨_, rfl, rfl⟩

theorem Ag3 : AggT Try.prog 3 false := fun _ => by kernel_rfl

def k_laws_toIntS (M : Nat → Prop) (w0 : World) (r : (List Int)) (a : Act) (w : World) : Prop :=
  ∃ (σ : Nat → Value) (ra0 : Option Addr) (rn0 rc0 : Nat) (rf0 : List Nat), a = fr 22 (ovl σ [(2, (.slice ra0 rn0 rc0))]) ∧ Chg [] w0 w ∧ (RT.os 3 (RT.int .i64)).val M w (.slice ra0 rn0 rc0) r rf0 ∧ Own (Nw w0 []) (fun _ => True) w (rf0 ++ ([]))
def s_laws_toIntS (a_ : List Int) : Option ((List Int)) :=
  (mks (a_.length : Int) (0 : Int)).bind fun y3 =>
  (forC (S := (List Int)) (R := (List Int)) (fun k18 s16 =>
  (idx a_ k18).bind fun x24 =>
  (idx s16 k18).bind fun x26 =>
  some (.nx (List.set s16 (Int.toNat k18) x24))) 0 (a_.length : Int) y3).bind fun o20 => after o20 (fun r_ => some r_) (fun s16 =>
  some s16)
set_option maxHeartbeats 4000000 in
theorem c_laws_toIntS {M : Nat → Prop} {w : World} {pa0 : Option Addr} {pn0 pc0 : Nat} (a_ : List Int) (h0 : (RT.rs (RT.int .i64)).val M w (.slice pa0 pn0 pc0) a_ ([])) (hM : ∀ g, w.heap.size ≤ g → M g) {r : (List Int)} (hs : s_laws_toIntS a_ = some r) :
    Gives Try.prog 16 [(.slice pa0 pn0 pc0)] w (fun v w' => ∃ (ra0 : Option Addr) (rn0 rc0 : Nat) (rf0 : List Nat), v = (.slice ra0 rn0 rc0) ∧ Chg [] w w' ∧ (RT.os 3 (RT.int .i64)).val M w' (.slice ra0 rn0 rc0) r rf0 ∧ Own (Nw w []) (fun _ => True) w' (rf0 ++ ([]))) := by
  refine calls_fr Try.func16 rfl Try.ntmps16 (Nat.le_of_ble_eq_true rfl) ?_
  have hO := Own.start (N := Nw w []) hM Nw.fut
  have hC := Chg.refl [] w
  unfold s_laws_toIntS at hs
  refine wp_mono (Q := KPost (k_laws_toIntS M w r)) ?_ (fun e a w1 h => ?_)
  rotate_left
  · cases e
    case ret =>
      obtain ⟨σ, ra0, rn0, rc0, rf0, rfl, hrest⟩ := h
      exact ret1x Try.results16 (res_tmp rfl) ⟨ra0, rn0, rc0, rf0, rfl, hrest⟩
    all_goals exact (h : False).elim
  refine c_seq ?_
  refine c_region ?_
  refine pl_val (.slice none 0 0) (y_assign rfl) ?_
  refine c_nil ?_
  refine c_seq ?_
  refine c_region ?_
  refine pl_val (.slice pa0 pn0 pc0) (y_move rfl) ?_
  refine pl_val (.int .i64 (a_.length : Int)) (y_len' Sl22 (rs_len h0) rfl) ?_
  obtain ⟨y3, hy3, hs⟩ := bind_some hs
  obtain ⟨a2, n2, c2, w2, f2, hm2, hC2, hfr2, hv2⟩ := mk_os (M := M) (w := w) (r := (RT.int .i64)) Rw22 hy3 (fun _ _ => ⟨rfl, rfl⟩)
  refine pl_val (w' := w2) (.slice a2 n2 c2) (y_make rfl rfl hm2) ?_
  have h0 := h0.ext hC2
  have hC := hC.ext hC2
  have hO := hO.new hC2 hfr2 (os_nodup hv2) hv2.fpl
  refine pl_val (.slice a2 n2 c2) (y_assign rfl) ?_
  refine c_nil ?_
  refine c_seq ?_
  refine c_seq ?_
  refine c_region ?_
  refine pl_val (.int .i64 0) (y_assign rfl) ?_
  refine c_nil ?_
  obtain ⟨o20, hl21, hs⟩ := bind_some hs
  refine wp_block ?_
  refine wp_forC (id := 0) (a_.length : Int) (I := fun k18 s16 a w17 => ∃ (σ : Nat → Value) (f22 : List Nat), a = fr 22 (ovl σ [(0, (.slice pa0 pn0 pc0)), (3, (.slice a2 n2 c2)), (4, (.int .i64 k18))]) ∧ Chg [] w w17 ∧ Own (Nw w []) M w17 (f22 ++ []) ∧ (RT.rs (RT.int .i64)).val M w17 (.slice pa0 pn0 pc0) a_ ([]) ∧ (RT.os 3 (RT.int .i64)).val M w17 (.slice a2 n2 c2) s16 f22) (J := fun s16 a w17 => ∃ (σ : Nat → Value) (f23 : List Nat), a = fr 22 (ovl σ [(3, (.slice a2 n2 c2))]) ∧ Chg [] w w17 ∧ Own (Nw w []) M w17 (f23 ++ []) ∧ (RT.rs (RT.int .i64)).val M w17 (.slice pa0 pn0 pc0) a_ ([]) ∧ (RT.os 3 (RT.int .i64)).val M w17 (.slice a2 n2 c2) s16 f23) (K := (k_laws_toIntS M w)) ?_ ?_ 0 y3 o20 _ _ ?_ hl21 ?_
  · rintro k18 s16 a w17 ⟨σ, f22, rfl, hC, hO, h0, hv22⟩ hlt
    refine c_seq ?_
    refine c_seq ?_
    refine c_region ?_
    refine pl_val (.int .i64 k18) (y_move rfl) ?_
    refine pl_val (.slice pa0 pn0 pc0) (y_move rfl) ?_
    refine pl_val (.int .i64 (a_.length : Int)) (y_len' Sl22 (rs_len h0) rfl) ?_
    refine pl_val (.bool (decide (k18 < (a_.length : Int)))) (y_lss rfl rfl) ?_
    refine c_nil ?_
    refine c_condF (congrArg Value.bool (decide_eq_false hlt)) ?_
    refine wp_exit ?_
    exact ⟨rfl, _, f22, fr_ovl 22 ⟨rfl, trivial⟩, hC, hO, h0, hv22⟩
  · rintro k18 s16 o20 a w17 ⟨σ, f22, rfl, hC, hO, h0, hv22⟩ hlt hw hs
    refine c_seq ?_
    refine c_seq ?_
    refine c_region ?_
    refine pl_val (.int .i64 k18) (y_move rfl) ?_
    refine pl_val (.slice pa0 pn0 pc0) (y_move rfl) ?_
    refine pl_val (.int .i64 (a_.length : Int)) (y_len' Sl22 (rs_len h0) rfl) ?_
    refine pl_val (.bool (decide (k18 < (a_.length : Int)))) (y_lss rfl rfl) ?_
    refine c_nil ?_
    refine c_condT (congrArg Value.bool (decide_eq_true hlt)) ?_
    refine wp_skip ?_
    refine c_seq ?_
    refine wp_block ?_
    refine c_region ?_
    refine pl_val (.slice a2 n2 c2) (y_move rfl) ?_
    refine pl_val (.int .i64 k18) (y_move rfl) ?_
    refine pl_val (.slice pa0 pn0 pc0) (y_move rfl) ?_
    refine pl_val (.int .i64 k18) (y_move rfl) ?_
    obtain ⟨x24, hx24, hs⟩ := bind_some hs
    obtain ⟨b25, o25, hp25, ha25⟩ := rs_idx Sl22 Sz3 h0 hx24
    refine pl_val (.pointer (some ⟨b25, o25, none⟩)) (hp25 _ _ _ _ _ _ _ _ _ rfl rfl) ?_
    refine pl_val (.int .i64 x24) (y_load rfl ((at_load_int Ag3 Sz3 ha25) _ (Chg.refl _ _))) ?_
    obtain ⟨x26, hx26, hs⟩ := bind_some hs
    obtain ⟨g27, f27, hg27, hk27, hp27, ha27, hf27⟩ := os_idx Sl22 Sz3 hv22 hx26
    refine pl_val (.pointer (some ⟨g27, 0 + Int.toNat k18 * 1, none⟩)) (hp27 _ _ _ _ _ _ _ _ _ rfl rfl) ?_
    obtain ⟨w28, f28, hst28, hC28, hf28, hv28⟩ := os_store (P := Try.prog) (c' := [(.int .i64 x24)]) hg27 hv22 hk27 (fun g hg => hO.inM g (os_block hv22 g (by simpa using hg))) ⟨rfl, rfl⟩ List.nodup_nil (fun _ h => nomatch h) (fun _ h => .inl h)
    have hG28 : ∀ q ∈ [g27], q ∈ f22 := fun q hq => os_block hv22 q (by rw [hg27]; exact hq)
    refine pl_skip (w' := w28) (ys_store rfl rfl (hst28 _ _ rfl Sz3)) ?_
    have h0 := h0.mut hC28 (fun g hg => hO.inM g (hG28 g hg)) (fun _ _ h => nomatch h)
    have hC := hC.step hC28 (fun g hg => hO.inN g (hG28 g hg))
    have hO := hO.grow hC28 (fun q hq => .inl ((hf28 q hq).resolve_right (fun h => nomatch h))) (os_nodup hv28) hv28.fpl
    refine c_nil ?_
    refine c_region ?_
    refine pl_val (.int .i64 k18) (y_move rfl) ?_
    refine pl_val (.int .i64 (w64 (k18 + 1))) (y_add rfl rfl) ?_
    refine pl_val (.int .i64 (w64 (k18 + 1))) (y_assign rfl) ?_
    refine c_nil ?_
    cases hs
    exact ⟨_, f28, fr_ovl 22 ⟨rfl, rfl, congrArg (Value.int .i64) hw, trivial⟩, hC, hO, h0, hv28⟩
  · skip
    exact ⟨_, f2, fr_ovl 22 ⟨rfl, rfl, rfl, trivial⟩, hC, hO, h0, hv2⟩
  · cases o20 with
    | nx _ => exact True.intro
    | rt r_ =>
      have hs := after_rt hs
      intro a1 w1 hK
      cases hs
      exact hK
    | br s16 =>
      have hs := after_br hs
      rintro a1 w17 ⟨σ, f23, rfl, hC, hO, h0, hv23⟩
      refine c_seq ?_
      refine c_region ?_
      refine pl_val (.slice a2 n2 c2) (y_move rfl) ?_
      refine pl_val (.slice a2 n2 c2) (y_assign rfl) ?_
      refine c_nil ?_
      refine wp_ret ?_
      cases hs
      exact ⟨_, a2, n2, c2, f23, fr_ovl 22 ⟨rfl, trivial⟩, hC, hv23, hO.top⟩

theorem Ag82 : AggT Try.prog 82 true := fun _ => by kernel_rfl

theorem Sz82 : SzT Try.prog 82 2 := ⟨_, rfl, rfl⟩

theorem Fa156x0 : ∀ (a : Addr) (w : World), (Instr.fieldAt 156 (.pointer (some a)) 0).run Try.prog w = .ok (.pointer (some (a.add 0))) w := fun _ _ => by kernel_rfl

theorem Fa82x0 : ∀ (a : Addr) (w : World), (Instr.fieldAt 82 (.pointer (some a)) 0).run Try.prog w = .ok (.pointer (some (a.add 0))) w := fun _ _ => by kernel_rfl

theorem Bd16 : Bodied Try.prog 16 := bodied Try.func16 (by kernel_rfl) rfl

theorem Fa82x1 : ∀ (a : Addr) (w : World), (Instr.fieldAt 82 (.pointer (some a)) 1).run Try.prog w = .ok (.pointer (some (a.add 1))) w := fun _ _ => by kernel_rfl

def k_laws_toOp (M : Nat → Prop) (w0 : World) (r : (Int × (List Int))) (a : Act) (w : World) : Prop :=
  ∃ (σ : Nat → Value) (rg2 : Nat) (ra0 : Option Addr) (rn0 rc0 : Nat) (rf0 : List Nat), a = fr 12 (ovl σ [(2, (.pointer (some ⟨rg2, 0, none⟩)))]) ∧ BoxV w rg2 82 [(.int .i64 r.1), (.slice ra0 rn0 rc0)] ∧ Chg [] w0 w ∧ (RT.os 3 (RT.int .i64)).val M w (.slice ra0 rn0 rc0) r.2 rf0 ∧ Own (Nw w0 []) (fun _ => True) w (rf0 ++ ([]))
def s_laws_toOp (a_ : Int × (List Int)) : Option ((Int × (List Int))) :=
  (s_laws_toIntS a_.2).bind fun r7 =>
  some (a_.1, r7)
set_option maxHeartbeats 4000000 in
theorem c_laws_toOp {M : Nat → Prop} {w : World} {pa0 : Option Addr} {pn0 pc0 : Nat} (a_ : Int × (List Int)) (h0 : (RT.rs (RT.int .i64)).val M w (.slice pa0 pn0 pc0) a_.2 ([])) (hM : ∀ g, w.heap.size ≤ g → M g) {r : (Int × (List Int))} (hs : s_laws_toOp a_ = some r) :
    Gives Try.prog 154 [(.agg #[(.int .i64 a_.1), (.slice pa0 pn0 pc0)])] w (fun v w' => ∃ (ra0 : Option Addr) (rn0 rc0 : Nat) (rf0 : List Nat), v = (.agg #[(.int .i64 r.1), (.slice ra0 rn0 rc0)]) ∧ Chg [] w w' ∧ (RT.os 3 (RT.int .i64)).val M w' (.slice ra0 rn0 rc0) r.2 rf0 ∧ Own (Nw w []) (fun _ => True) w' (rf0 ++ ([]))) := by
  refine calls_fr Try.func154 rfl Try.ntmps154 (Nat.le_of_ble_eq_true rfl) ?_
  have hO := Own.start (N := Nw w []) hM Nw.fut
  have hC := Chg.refl [] w
  unfold s_laws_toOp at hs
  refine wp_mono (Q := KPost (k_laws_toOp M w r)) ?_ (fun e a w1 h => ?_)
  rotate_left
  · cases e
    case ret =>
      obtain ⟨σ, rg2, ra0, rn0, rc0, rf0, rfl, hbrg2, hrest⟩ := h
      exact ret1x Try.results154 (res_cell rfl (box_load Ag82 Sz82 hbrg2 [] _ [] rfl rfl (fun h => nomatch h))) ⟨ra0, rn0, rc0, rf0, rfl, hrest⟩
    all_goals exact (h : False).elim
  refine c_seq ?_
  refine c_region ?_
  obtain ⟨w2, g2, ew2, eg2, hC2, hb2⟩ := new_block w [(.int .i64 a_.1), (.slice pa0 pn0 pc0)] 156
  refine pl_val (w' := w2) (.pointer (some ⟨g2, 0, none⟩)) (y_box rfl (by rw [ew2, eg2]; kernel_rfl)) ?_
  have h0 := h0.ext hC2
  have hC := hC.ext hC2
  have hO := hO.new (X' := [g2]) hC2 (fun q hq => by rw [List.mem_singleton.1 hq, eg2]; exact Nat.le_refl _) (List.nodup_cons.2 ⟨(fun h => nomatch h), List.nodup_nil⟩) (fun q hq => by rw [List.mem_singleton.1 hq]; exact hb2.lt)
  obtain ⟨w3, g3, ew3, eg3, hC3, hb3⟩ := new_block w2 [(.int .i64 0), (.slice none 0 0)] 82
  refine pl_val (w' := w3) (.pointer (some ⟨g3, 0, none⟩)) (y_alloc (by rw [ew3, eg3]; kernel_rfl)) ?_
  have h0 := h0.ext hC3
  have hb2 := hb2.chg hC3 (fun h => nomatch h)
  have hC := hC.ext hC3
  have hO := hO.new (X' := [g3]) hC3 (fun q hq => by rw [List.mem_singleton.1 hq, eg3]; exact Nat.le_refl _) (List.nodup_cons.2 ⟨(fun h => nomatch h), List.nodup_nil⟩) (fun q hq => by rw [List.mem_singleton.1 hq]; exact hb3.lt)
  refine c_nil ?_
  refine c_seq ?_
  refine c_region ?_
  obtain ⟨w4, g4, ew4, eg4, hC4, hb4⟩ := new_block w3 [(.int .i64 0), (.slice none 0 0)] 82
  refine pl_val (w' := w4) (.pointer (some ⟨g4, 0, none⟩)) (y_alloc (by rw [ew4, eg4]; kernel_rfl)) ?_
  have h0 := h0.ext hC4
  have hb2 := hb2.chg hC4 (fun h => nomatch h)
  have hb3 := hb3.chg hC4 (fun h => nomatch h)
  have hC := hC.ext hC4
  have hO := hO.new (X' := [g4]) hC4 (fun q hq => by rw [List.mem_singleton.1 hq, eg4]; exact Nat.le_refl _) (List.nodup_cons.2 ⟨(fun h => nomatch h), List.nodup_nil⟩) (fun q hq => by rw [List.mem_singleton.1 hq]; exact hb4.lt)
  refine c_nil ?_
  refine c_seq ?_
  refine c_region ?_
  refine pl_val (.pointer (some ⟨g2, 0, none⟩)) (y_faddr rfl Fa156x0) ?_
  refine pl_val (.int .i64 a_.1) (y_load rfl ((box_load Ag3 Sz3 hb2 [] [(.int .i64 a_.1)] [(.slice pa0 pn0 pc0)] rfl rfl (fun _ => rfl)) _ (Chg.refl _ _))) ?_
  refine pl_val (.pointer (some ⟨g4, 0, none⟩)) (y_faddr rfl Fa82x0) ?_
  obtain ⟨w5, hst5, hC5, hb5⟩ := box_store (P := Try.prog) hb4 [] [(.int .i64 0)] [(.slice none 0 0)] [(.int .i64 a_.1)] rfl rfl (by intro u hu; simp only [List.mem_cons, List.not_mem_nil, or_false] at hu; rcases hu with rfl <;> rfl)
  refine pl_skip (w' := w5) (ys_store rfl rfl (hst5 _ _ rfl Sz3)) ?_
  have h0 := h0.mut hC5 (fun g hg => hO.inM g ((fun _ h => h) g hg)) (fun _ _ h => nomatch h)
  have hb2 := hb2.chg hC5 (fun hg => hO.apart _ ((fun _ h => h) _ hg) (mem_r (mem_l (List.mem_singleton.2 rfl))))
  have hb3 := hb3.chg hC5 (fun hg => hO.apart _ ((fun _ h => h) _ hg) (mem_l (List.mem_singleton.2 rfl)))
  have hC := hC.step hC5 (fun g hg => hO.inN g ((fun _ h => h) g hg))
  have hO := hO.ext hC5
  have hb5 : BoxV w5 g4 82 [(.int .i64 a_.1), (.slice none 0 0)] := hb5
  refine c_nil ?_
  refine c_seq ?_
  refine c_region ?_
  refine pl_val (.pointer (some ⟨g2, 1, none⟩)) (y_faddr rfl Fa156x1) ?_
  refine pl_val (.slice pa0 pn0 pc0) (y_load rfl ((box_load Ag22 Sz22 hb2 [(.int .i64 a_.1)] [(.slice pa0 pn0 pc0)] [] rfl rfl (fun _ => rfl)) _ (Chg.refl _ _))) ?_
  obtain ⟨r7, hr7, hs⟩ := bind_some hs
  refine pl_call Bd16 rfl (c_laws_toIntS (M := M) a_.2 h0 hO.fut hr7) ?_
  rintro _ w6 ⟨a6x0, n6x0, c6x0, f6x0, rfl, hC6, hv6x0, hOc6⟩
  have h0 := h0.ext hC6
  have hb2 := hb2.chg hC6 (fun h => nomatch h)
  have hb3 := hb3.chg hC6 (fun h => nomatch h)
  have hb5 := hb5.chg hC6 (fun h => nomatch h)
  have hC := hC.ext hC6
  have hO := Own.join0 hO hC6 hOc6
  have hO := hO.perm (R := f6x0 ++ (([g4]) ++ (([g3]) ++ (([g2]) ++ ([]))))) (by simp)
  refine pl_val (.pointer (some ⟨g4, 1, none⟩)) (y_faddr rfl Fa82x1) ?_
  obtain ⟨w9, hst9, hC9, hb9⟩ := box_store (P := Try.prog) hb5 [(.int .i64 a_.1)] [(.slice none 0 0)] [] [(.slice a6x0 n6x0 c6x0)] rfl rfl (by intro u hu; simp only [List.mem_cons, List.not_mem_nil, or_false] at hu; rcases hu with rfl <;> rfl)
  refine pl_skip (w' := w9) (ys_store rfl rfl (hst9 _ _ rfl Sz22)) ?_
  have hO := hO.fr1
  have h0 := h0.mut hC9 (fun g hg => hO.inM g ((fun _ h => h) g hg)) (fun _ _ h => nomatch h)
  have hb2 := hb2.chg hC9 (fun hg => hO.apart _ ((fun _ h => h) _ hg) (mem_r (mem_r (mem_l (List.mem_singleton.2 rfl)))))
  have hb3 := hb3.chg hC9 (fun hg => hO.apart _ ((fun _ h => h) _ hg) (mem_r (mem_l (List.mem_singleton.2 rfl))))
  have hv6x0 := hv6x0.mut hC9 (fun g hg => hO.inM g ((fun _ h => h) g hg)) (fun g hg e => hO.apart g ((fun _ h => h) g hg) (mem_l (e)))
  have hC := hC.step hC9 (fun g hg => hO.inN g ((fun _ h => h) g hg))
  have hO := hO.ext hC9
  have hb9 : BoxV w9 g4 82 [(.int .i64 a_.1), (.slice a6x0 n6x0 c6x0)] := hb9
  refine c_nil ?_
  refine c_seq ?_
  refine c_region ?_
  refine pl_val (.agg #[(.int .i64 a_.1), (.slice a6x0 n6x0 c6x0)]) (y_load rfl ((box_load Ag82 Sz82 hb9 [] [(.int .i64 a_.1), (.slice a6x0 n6x0 c6x0)] [] rfl rfl (fun h => nomatch h)) _ (Chg.refl _ _))) ?_
  obtain ⟨w10, hst10, hC10, hb10⟩ := box_store (P := Try.prog) hb3 [] [(.int .i64 0), (.slice none 0 0)] [] [(.int .i64 a_.1), (.slice a6x0 n6x0 c6x0)] rfl rfl (by intro u hu; simp only [List.mem_cons, List.not_mem_nil, or_false] at hu; rcases hu with rfl | rfl <;> rfl)
  refine pl_skip (w' := w10) (ys_store rfl rfl (hst10 _ _ rfl Sz82)) ?_
  have hO := hO.fr2
  have hb2 := hb2.chg hC10 (fun hg => hO.apart _ ((fun _ h => h) _ hg) (mem_r (mem_r (mem_l (List.mem_singleton.2 rfl)))))
  have hb9 := hb9.chg hC10 (fun hg => hO.apart _ ((fun _ h => h) _ hg) (mem_l (List.mem_singleton.2 rfl)))
  have hv6x0 := hv6x0.mut hC10 (fun g hg => hO.inM g ((fun _ h => h) g hg)) (fun g hg e => hO.apart g ((fun _ h => h) g hg) (mem_r (mem_l (e))))
  have hC := hC.step hC10 (fun g hg => hO.inN g ((fun _ h => h) g hg))
  have hO := hO.ext hC10
  have hb10 : BoxV w10 g3 82 [(.int .i64 a_.1), (.slice a6x0 n6x0 c6x0)] := hb10
  refine c_nil ?_
  refine wp_ret ?_
  cases hs
  have hO := hO.drop
  have hO := hO.drop
  have hO := hO.fr1
  have hO := hO.drop
  exact ⟨_, g3, a6x0, n6x0, c6x0, f6x0, fr_ovl 12 ⟨rfl, trivial⟩, hb10, hC, hv6x0, hO.top⟩

theorem Rw60 : RowT Try.prog 60 82 2 [(.int .i64 0), (.slice none 0 0)] := ⟨Try.underlying60, ⟨_, _, rfl, rfl, rfl, rfl, by decide⟩, rfl, by decide⟩

theorem Bd154 : Bodied Try.prog 154 := bodied Try.func154 (by kernel_rfl) rfl

theorem Sl60 : SlT Try.prog 60 82 := Try.underlying60

def k_laws_toOpS (M : Nat → Prop) (w0 : World) (r : (List (Int × (List Int)))) (a : Act) (w : World) : Prop :=
  ∃ (σ : Nat → Value) (ra0 : Option Addr) (rn0 rc0 : Nat) (rf0 : List Nat), a = fr 23 (ovl σ [(2, (.slice ra0 rn0 rc0))]) ∧ Chg [] w0 w ∧ (RT.os 82 (RT.pr (RT.int .i64) (RT.os 3 (RT.int .i64)))).val M w (.slice ra0 rn0 rc0) r rf0 ∧ Own (Nw w0 []) (fun _ => True) w (rf0 ++ ([]))
def s_laws_toOpS (a_ : List (Int × (List Int))) : Option ((List (Int × (List Int)))) :=
  (mks (a_.length : Int) ((0, []) : Int × (List Int))).bind fun y3 =>
  (forC (S := (List (Int × (List Int)))) (R := (List (Int × (List Int)))) (fun k28 s26 =>
  (idx a_ k28).bind fun x34 =>
  (s_laws_toOp (x34.1, x34.2)).bind fun r39 =>
  (idx s26 k28).bind fun x41 =>
  some (.nx (List.set s26 (Int.toNat k28) (r39.1, r39.2)))) 0 (a_.length : Int) y3).bind fun o30 => after o30 (fun r_ => some r_) (fun s26 =>
  some s26)
set_option maxHeartbeats 4000000 in
theorem c_laws_toOpS {M : Nat → Prop} {w : World} {pa0 : Option Addr} {pn0 pc0 : Nat} (a_ : List (Int × (List Int))) (h0 : (RT.rs (RT.pr (RT.int .i64) (RT.rs (RT.int .i64)))).val M w (.slice pa0 pn0 pc0) a_ ([])) (hM : ∀ g, w.heap.size ≤ g → M g) {r : (List (Int × (List Int)))} (hs : s_laws_toOpS a_ = some r) :
    Gives Try.prog 97 [(.slice pa0 pn0 pc0)] w (fun v w' => ∃ (ra0 : Option Addr) (rn0 rc0 : Nat) (rf0 : List Nat), v = (.slice ra0 rn0 rc0) ∧ Chg [] w w' ∧ (RT.os 82 (RT.pr (RT.int .i64) (RT.os 3 (RT.int .i64)))).val M w' (.slice ra0 rn0 rc0) r rf0 ∧ Own (Nw w []) (fun _ => True) w' (rf0 ++ ([]))) := by
  refine calls_fr Try.func97 rfl Try.ntmps97 (Nat.le_of_ble_eq_true rfl) ?_
  have hO := Own.start (N := Nw w []) hM Nw.fut
  have hC := Chg.refl [] w
  unfold s_laws_toOpS at hs
  refine wp_mono (Q := KPost (k_laws_toOpS M w r)) ?_ (fun e a w1 h => ?_)
  rotate_left
  · cases e
    case ret =>
      obtain ⟨σ, ra0, rn0, rc0, rf0, rfl, hrest⟩ := h
      exact ret1x Try.results97 (res_tmp rfl) ⟨ra0, rn0, rc0, rf0, rfl, hrest⟩
    all_goals exact (h : False).elim
  refine c_seq ?_
  refine c_region ?_
  refine pl_val (.slice none 0 0) (y_assign rfl) ?_
  refine c_nil ?_
  refine c_seq ?_
  refine c_region ?_
  refine pl_val (.slice pa0 pn0 pc0) (y_move rfl) ?_
  refine pl_val (.int .i64 (a_.length : Int)) (y_len' Sl53 (rs_len h0) rfl) ?_
  obtain ⟨y3, hy3, hs⟩ := bind_some hs
  obtain ⟨a2, n2, c2, w2, f2, hm2, hC2, hfr2, hv2⟩ := mk_os (M := M) (w := w) (r := (RT.pr (RT.int .i64) (RT.os 3 (RT.int .i64)))) Rw60 hy3 (fun _ _ => ⟨_, _, [], [], rfl, rfl, ⟨rfl, rfl⟩, (os_unval os_nil)⟩)
  refine pl_val (w' := w2) (.slice a2 n2 c2) (y_make rfl rfl hm2) ?_
  have h0 := h0.ext hC2
  have hC := hC.ext hC2
  have hO := hO.new hC2 hfr2 (os_nodup hv2) hv2.fpl
  refine pl_val (.slice a2 n2 c2) (y_assign rfl) ?_
  refine c_nil ?_
  refine c_seq ?_
  refine c_seq ?_
  refine c_region ?_
  refine pl_val (.int .i64 0) (y_assign rfl) ?_
  refine c_nil ?_
  obtain ⟨o30, hl31, hs⟩ := bind_some hs
  refine wp_block ?_
  refine wp_forC (id := 0) (a_.length : Int) (I := fun k28 s26 a w27 => ∃ (σ : Nat → Value) (f32 : List Nat), a = fr 23 (ovl σ [(0, (.slice pa0 pn0 pc0)), (3, (.slice a2 n2 c2)), (4, (.int .i64 k28))]) ∧ Chg [] w w27 ∧ Own (Nw w []) M w27 (f32 ++ []) ∧ (RT.rs (RT.pr (RT.int .i64) (RT.rs (RT.int .i64)))).val M w27 (.slice pa0 pn0 pc0) a_ ([]) ∧ (RT.os 82 (RT.pr (RT.int .i64) (RT.os 3 (RT.int .i64)))).val M w27 (.slice a2 n2 c2) s26 f32) (J := fun s26 a w27 => ∃ (σ : Nat → Value) (f33 : List Nat), a = fr 23 (ovl σ [(3, (.slice a2 n2 c2))]) ∧ Chg [] w w27 ∧ Own (Nw w []) M w27 (f33 ++ []) ∧ (RT.rs (RT.pr (RT.int .i64) (RT.rs (RT.int .i64)))).val M w27 (.slice pa0 pn0 pc0) a_ ([]) ∧ (RT.os 82 (RT.pr (RT.int .i64) (RT.os 3 (RT.int .i64)))).val M w27 (.slice a2 n2 c2) s26 f33) (K := (k_laws_toOpS M w)) ?_ ?_ 0 y3 o30 _ _ ?_ hl31 ?_
  · rintro k28 s26 a w27 ⟨σ, f32, rfl, hC, hO, h0, hv32⟩ hlt
    refine c_seq ?_
    refine c_seq ?_
    refine c_region ?_
    refine pl_val (.int .i64 k28) (y_move rfl) ?_
    refine pl_val (.slice pa0 pn0 pc0) (y_move rfl) ?_
    refine pl_val (.int .i64 (a_.length : Int)) (y_len' Sl53 (rs_len h0) rfl) ?_
    refine pl_val (.bool (decide (k28 < (a_.length : Int)))) (y_lss rfl rfl) ?_
    refine c_nil ?_
    refine c_condF (congrArg Value.bool (decide_eq_false hlt)) ?_
    refine wp_exit ?_
    exact ⟨rfl, _, f32, fr_ovl 23 ⟨rfl, trivial⟩, hC, hO, h0, hv32⟩
  · rintro k28 s26 o30 a w27 ⟨σ, f32, rfl, hC, hO, h0, hv32⟩ hlt hw hs
    refine c_seq ?_
    refine c_seq ?_
    refine c_region ?_
    refine pl_val (.int .i64 k28) (y_move rfl) ?_
    refine pl_val (.slice pa0 pn0 pc0) (y_move rfl) ?_
    refine pl_val (.int .i64 (a_.length : Int)) (y_len' Sl53 (rs_len h0) rfl) ?_
    refine pl_val (.bool (decide (k28 < (a_.length : Int)))) (y_lss rfl rfl) ?_
    refine c_nil ?_
    refine c_condT (congrArg Value.bool (decide_eq_true hlt)) ?_
    refine wp_skip ?_
    refine c_seq ?_
    refine wp_block ?_
    refine c_region ?_
    refine pl_val (.slice a2 n2 c2) (y_move rfl) ?_
    refine pl_val (.int .i64 k28) (y_move rfl) ?_
    refine pl_val (.slice pa0 pn0 pc0) (y_move rfl) ?_
    refine pl_val (.int .i64 k28) (y_move rfl) ?_
    obtain ⟨x34, hx34, hs⟩ := bind_some hs
    obtain ⟨b35, o35, hp35, ha35⟩ := rs_idx Sl53 Sz156 h0 hx34
    refine pl_val (.pointer (some ⟨b35, o35, none⟩)) (hp35 _ _ _ _ _ _ _ _ _ rfl rfl) ?_
    obtain ⟨v36, hl36, hv36⟩ := at_load Ag156 Sz156 (by intro h; cases h) ha35
    obtain ⟨cs36, rfl, hr36⟩ := hv36
    obtain ⟨cc36x1, cd36x1, rfl, hh36x1, ht36x1⟩ := pr_open hr36
    obtain rfl := int_rel hh36x1
    obtain ⟨a36x2, n36x2, c36x2, rfl, hv36x2⟩ := rs_rel ht36x1
    refine pl_val (.agg #[(.int .i64 x34.1), (.slice a36x2 n36x2 c36x2)]) (y_load rfl (hl36 _ (Chg.refl _ _))) ?_
    obtain ⟨r39, hr39, hs⟩ := bind_some hs
    refine pl_call Bd154 rfl (c_laws_toOp (M := M) (x34.1, x34.2) hv36x2 hO.fut hr39) ?_
    rintro _ w38 ⟨a38x0, n38x0, c38x0, f38x0, rfl, hC38, hv38x0, hOc38⟩
    have h0 := h0.ext hC38
    have hv32 := hv32.ext hC38
    have hv36x2 := hv36x2.ext hC38
    have hC := hC.ext hC38
    have hO := Own.join0 hO hC38 hOc38
    have hO := hO.perm (R := f38x0 ++ (f32 ++ ([]))) (by simp)
    obtain ⟨x41, hx41, hs⟩ := bind_some hs
    obtain ⟨g42, f42, hg42, hk42, hp42, ha42, hf42⟩ := os_idx Sl60 Sz82 hv32 hx41
    have hb42 := own_row (Frz.pr Frz.int (Frz.os Frz.int)) ha42 hf42
    refine pl_val (.pointer (some ⟨g42, 0 + Int.toNat k28 * 2, none⟩)) (hp42 _ _ _ _ _ _ _ _ _ rfl rfl) ?_
    have hO := hO.fr1
    obtain ⟨w43, f43, hst43, hC43, hf43, hv43⟩ := os_store (P := Try.prog) (c' := [(.int .i64 r39.1), (.slice a38x0 n38x0 c38x0)]) hg42 hv32 hk42 (fun g hg => hO.inM g (os_block hv32 g (by simpa using hg))) ⟨_, _, _, _, rfl, rfl, ⟨rfl, rfl⟩, (os_unval hv38x0)⟩ (hO.drop.perm (R := (([] : List Nat) ++ f38x0) ++ ([])) (by simp)).nd (fun g hg hq => hO.apart g hq (by simp only [List.mem_append, List.not_mem_nil, false_or, or_false] at hg ⊢; simp [hg])) (fun _ h => .inl h)
    have hG43 : ∀ q ∈ [g42], q ∈ f32 := fun q hq => os_block hv32 q (by rw [hg42]; exact hq)
    refine pl_skip (w' := w43) (ys_store rfl rfl (hst43 _ _ rfl Sz82)) ?_
    have hO := hO.fr1
    have hO := hO.fr1
    have h0 := h0.mut hC43 (fun g hg => hO.inM g (hG43 g hg)) (fun _ _ h => nomatch h)
    have hv36x2 := hv36x2.mut hC43 (fun g hg => hO.inM g (hG43 g hg)) (fun _ _ h => nomatch h)
    have hC := hC.step hC43 (fun g hg => hO.inN g (hG43 g hg))
    have hO := hO.perm (R := f32 ++ ((([] : List Nat) ++ f38x0) ++ ([]))) (by simp)
    have hO := hO.eat hC43 (fun q hq => (hf43 q hq).elim .inl (fun h => .inr (.inl h))) (os_nodup hv43) hv43.fpl
    refine c_nil ?_
    refine c_region ?_
    refine pl_val (.int .i64 k28) (y_move rfl) ?_
    refine pl_val (.int .i64 (w64 (k28 + 1))) (y_add rfl rfl) ?_
    refine pl_val (.int .i64 (w64 (k28 + 1))) (y_assign rfl) ?_
    refine c_nil ?_
    cases hs
    exact ⟨_, f43, fr_ovl 23 ⟨rfl, rfl, congrArg (Value.int .i64) hw, trivial⟩, hC, hO, h0, hv43⟩
  · skip
    exact ⟨_, f2, fr_ovl 23 ⟨rfl, rfl, rfl, trivial⟩, hC, hO, h0, hv2⟩
  · cases o30 with
    | nx _ => exact True.intro
    | rt r_ =>
      have hs := after_rt hs
      intro a1 w1 hK
      cases hs
      exact hK
    | br s26 =>
      have hs := after_br hs
      rintro a1 w27 ⟨σ, f33, rfl, hC, hO, h0, hv33⟩
      refine c_seq ?_
      refine c_region ?_
      refine pl_val (.slice a2 n2 c2) (y_move rfl) ?_
      refine pl_val (.slice a2 n2 c2) (y_assign rfl) ?_
      refine c_nil ?_
      refine wp_ret ?_
      cases hs
      exact ⟨_, a2, n2, c2, f33, fr_ovl 23 ⟨rfl, trivial⟩, hC, hv33, hO.top⟩

theorem Ag62 : AggT Try.prog 62 true := fun _ => by kernel_rfl

theorem Sz62 : SzT Try.prog 62 2 := ⟨_, rfl, rfl⟩

theorem Fa55x0 : ∀ (a : Addr) (w : World), (Instr.fieldAt 55 (.pointer (some a)) 0).run Try.prog w = .ok (.pointer (some (a.add 0))) w := fun _ _ => by kernel_rfl

theorem Fa62x0 : ∀ (a : Addr) (w : World), (Instr.fieldAt 62 (.pointer (some a)) 0).run Try.prog w = .ok (.pointer (some (a.add 0))) w := fun _ _ => by kernel_rfl

theorem Bd97 : Bodied Try.prog 97 := bodied Try.func97 (by kernel_rfl) rfl

theorem Fa62x1 : ∀ (a : Addr) (w : World), (Instr.fieldAt 62 (.pointer (some a)) 1).run Try.prog w = .ok (.pointer (some (a.add 1))) w := fun _ _ => by kernel_rfl

theorem Sz60 : SzT Try.prog 60 1 := ⟨_, rfl, rfl⟩

def k_laws_toAlgebra (M : Nat → Prop) (w0 : World) (r : (Int × (List (Int × (List Int))))) (a : Act) (w : World) : Prop :=
  ∃ (σ : Nat → Value) (rg2 : Nat) (ra0 : Option Addr) (rn0 rc0 : Nat) (rf0 : List Nat), a = fr 12 (ovl σ [(2, (.pointer (some ⟨rg2, 0, none⟩)))]) ∧ BoxV w rg2 62 [(.int .i64 r.1), (.slice ra0 rn0 rc0)] ∧ Chg [] w0 w ∧ (RT.os 82 (RT.pr (RT.int .i64) (RT.os 3 (RT.int .i64)))).val M w (.slice ra0 rn0 rc0) r.2 rf0 ∧ Own (Nw w0 []) (fun _ => True) w (rf0 ++ ([]))
def s_laws_toAlgebra (a_ : Int × (List (Int × (List Int)))) : Option ((Int × (List (Int × (List Int))))) :=
  (s_laws_toOpS a_.2).bind fun r7 =>
  some (a_.1, r7)
set_option maxHeartbeats 4000000 in
theorem c_laws_toAlgebra {M : Nat → Prop} {w : World} {pa0 : Option Addr} {pn0 pc0 : Nat} (a_ : Int × (List (Int × (List Int)))) (h0 : (RT.rs (RT.pr (RT.int .i64) (RT.rs (RT.int .i64)))).val M w (.slice pa0 pn0 pc0) a_.2 ([])) (hM : ∀ g, w.heap.size ≤ g → M g) {r : (Int × (List (Int × (List Int))))} (hs : s_laws_toAlgebra a_ = some r) :
    Gives Try.prog 37 [(.agg #[(.int .i64 a_.1), (.slice pa0 pn0 pc0)])] w (fun v w' => ∃ (ra0 : Option Addr) (rn0 rc0 : Nat) (rf0 : List Nat), v = (.agg #[(.int .i64 r.1), (.slice ra0 rn0 rc0)]) ∧ Chg [] w w' ∧ (RT.os 82 (RT.pr (RT.int .i64) (RT.os 3 (RT.int .i64)))).val M w' (.slice ra0 rn0 rc0) r.2 rf0 ∧ Own (Nw w []) (fun _ => True) w' (rf0 ++ ([]))) := by
  refine calls_fr Try.func37 rfl Try.ntmps37 (Nat.le_of_ble_eq_true rfl) ?_
  have hO := Own.start (N := Nw w []) hM Nw.fut
  have hC := Chg.refl [] w
  unfold s_laws_toAlgebra at hs
  refine wp_mono (Q := KPost (k_laws_toAlgebra M w r)) ?_ (fun e a w1 h => ?_)
  rotate_left
  · cases e
    case ret =>
      obtain ⟨σ, rg2, ra0, rn0, rc0, rf0, rfl, hbrg2, hrest⟩ := h
      exact ret1x Try.results37 (res_cell rfl (box_load Ag62 Sz62 hbrg2 [] _ [] rfl rfl (fun h => nomatch h))) ⟨ra0, rn0, rc0, rf0, rfl, hrest⟩
    all_goals exact (h : False).elim
  refine c_seq ?_
  refine c_region ?_
  obtain ⟨w2, g2, ew2, eg2, hC2, hb2⟩ := new_block w [(.int .i64 a_.1), (.slice pa0 pn0 pc0)] 55
  refine pl_val (w' := w2) (.pointer (some ⟨g2, 0, none⟩)) (y_box rfl (by rw [ew2, eg2]; kernel_rfl)) ?_
  have h0 := h0.ext hC2
  have hC := hC.ext hC2
  have hO := hO.new (X' := [g2]) hC2 (fun q hq => by rw [List.mem_singleton.1 hq, eg2]; exact Nat.le_refl _) (List.nodup_cons.2 ⟨(fun h => nomatch h), List.nodup_nil⟩) (fun q hq => by rw [List.mem_singleton.1 hq]; exact hb2.lt)
  obtain ⟨w3, g3, ew3, eg3, hC3, hb3⟩ := new_block w2 [(.int .i64 0), (.slice none 0 0)] 62
  refine pl_val (w' := w3) (.pointer (some ⟨g3, 0, none⟩)) (y_alloc (by rw [ew3, eg3]; kernel_rfl)) ?_
  have h0 := h0.ext hC3
  have hb2 := hb2.chg hC3 (fun h => nomatch h)
  have hC := hC.ext hC3
  have hO := hO.new (X' := [g3]) hC3 (fun q hq => by rw [List.mem_singleton.1 hq, eg3]; exact Nat.le_refl _) (List.nodup_cons.2 ⟨(fun h => nomatch h), List.nodup_nil⟩) (fun q hq => by rw [List.mem_singleton.1 hq]; exact hb3.lt)
  refine c_nil ?_
  refine c_seq ?_
  refine c_region ?_
  obtain ⟨w4, g4, ew4, eg4, hC4, hb4⟩ := new_block w3 [(.int .i64 0), (.slice none 0 0)] 62
  refine pl_val (w' := w4) (.pointer (some ⟨g4, 0, none⟩)) (y_alloc (by rw [ew4, eg4]; kernel_rfl)) ?_
  have h0 := h0.ext hC4
  have hb2 := hb2.chg hC4 (fun h => nomatch h)
  have hb3 := hb3.chg hC4 (fun h => nomatch h)
  have hC := hC.ext hC4
  have hO := hO.new (X' := [g4]) hC4 (fun q hq => by rw [List.mem_singleton.1 hq, eg4]; exact Nat.le_refl _) (List.nodup_cons.2 ⟨(fun h => nomatch h), List.nodup_nil⟩) (fun q hq => by rw [List.mem_singleton.1 hq]; exact hb4.lt)
  refine c_nil ?_
  refine c_seq ?_
  refine c_region ?_
  refine pl_val (.pointer (some ⟨g2, 0, none⟩)) (y_faddr rfl Fa55x0) ?_
  refine pl_val (.int .i64 a_.1) (y_load rfl ((box_load Ag3 Sz3 hb2 [] [(.int .i64 a_.1)] [(.slice pa0 pn0 pc0)] rfl rfl (fun _ => rfl)) _ (Chg.refl _ _))) ?_
  refine pl_val (.pointer (some ⟨g4, 0, none⟩)) (y_faddr rfl Fa62x0) ?_
  obtain ⟨w5, hst5, hC5, hb5⟩ := box_store (P := Try.prog) hb4 [] [(.int .i64 0)] [(.slice none 0 0)] [(.int .i64 a_.1)] rfl rfl (by intro u hu; simp only [List.mem_cons, List.not_mem_nil, or_false] at hu; rcases hu with rfl <;> rfl)
  refine pl_skip (w' := w5) (ys_store rfl rfl (hst5 _ _ rfl Sz3)) ?_
  have h0 := h0.mut hC5 (fun g hg => hO.inM g ((fun _ h => h) g hg)) (fun _ _ h => nomatch h)
  have hb2 := hb2.chg hC5 (fun hg => hO.apart _ ((fun _ h => h) _ hg) (mem_r (mem_l (List.mem_singleton.2 rfl))))
  have hb3 := hb3.chg hC5 (fun hg => hO.apart _ ((fun _ h => h) _ hg) (mem_l (List.mem_singleton.2 rfl)))
  have hC := hC.step hC5 (fun g hg => hO.inN g ((fun _ h => h) g hg))
  have hO := hO.ext hC5
  have hb5 : BoxV w5 g4 62 [(.int .i64 a_.1), (.slice none 0 0)] := hb5
  refine c_nil ?_
  refine c_seq ?_
  refine c_region ?_
  refine pl_val (.pointer (some ⟨g2, 1, none⟩)) (y_faddr rfl Fa55x1) ?_
  refine pl_val (.slice pa0 pn0 pc0) (y_load rfl ((box_load Ag53 Sz53 hb2 [(.int .i64 a_.1)] [(.slice pa0 pn0 pc0)] [] rfl rfl (fun _ => rfl)) _ (Chg.refl _ _))) ?_
  obtain ⟨r7, hr7, hs⟩ := bind_some hs
  refine pl_call Bd97 rfl (c_laws_toOpS (M := M) a_.2 h0 hO.fut hr7) ?_
  rintro _ w6 ⟨a6x0, n6x0, c6x0, f6x0, rfl, hC6, hv6x0, hOc6⟩
  have h0 := h0.ext hC6
  have hb2 := hb2.chg hC6 (fun h => nomatch h)
  have hb3 := hb3.chg hC6 (fun h => nomatch h)
  have hb5 := hb5.chg hC6 (fun h => nomatch h)
  have hC := hC.ext hC6
  have hO := Own.join0 hO hC6 hOc6
  have hO := hO.perm (R := f6x0 ++ (([g4]) ++ (([g3]) ++ (([g2]) ++ ([]))))) (by simp)
  refine pl_val (.pointer (some ⟨g4, 1, none⟩)) (y_faddr rfl Fa62x1) ?_
  obtain ⟨w9, hst9, hC9, hb9⟩ := box_store (P := Try.prog) hb5 [(.int .i64 a_.1)] [(.slice none 0 0)] [] [(.slice a6x0 n6x0 c6x0)] rfl rfl (by intro u hu; simp only [List.mem_cons, List.not_mem_nil, or_false] at hu; rcases hu with rfl <;> rfl)
  refine pl_skip (w' := w9) (ys_store rfl rfl (hst9 _ _ rfl Sz60)) ?_
  have hO := hO.fr1
  have h0 := h0.mut hC9 (fun g hg => hO.inM g ((fun _ h => h) g hg)) (fun _ _ h => nomatch h)
  have hb2 := hb2.chg hC9 (fun hg => hO.apart _ ((fun _ h => h) _ hg) (mem_r (mem_r (mem_l (List.mem_singleton.2 rfl)))))
  have hb3 := hb3.chg hC9 (fun hg => hO.apart _ ((fun _ h => h) _ hg) (mem_r (mem_l (List.mem_singleton.2 rfl))))
  have hv6x0 := hv6x0.mut hC9 (fun g hg => hO.inM g ((fun _ h => h) g hg)) (fun g hg e => hO.apart g ((fun _ h => h) g hg) (mem_l (e)))
  have hC := hC.step hC9 (fun g hg => hO.inN g ((fun _ h => h) g hg))
  have hO := hO.ext hC9
  have hb9 : BoxV w9 g4 62 [(.int .i64 a_.1), (.slice a6x0 n6x0 c6x0)] := hb9
  refine c_nil ?_
  refine c_seq ?_
  refine c_region ?_
  refine pl_val (.agg #[(.int .i64 a_.1), (.slice a6x0 n6x0 c6x0)]) (y_load rfl ((box_load Ag62 Sz62 hb9 [] [(.int .i64 a_.1), (.slice a6x0 n6x0 c6x0)] [] rfl rfl (fun h => nomatch h)) _ (Chg.refl _ _))) ?_
  obtain ⟨w10, hst10, hC10, hb10⟩ := box_store (P := Try.prog) hb3 [] [(.int .i64 0), (.slice none 0 0)] [] [(.int .i64 a_.1), (.slice a6x0 n6x0 c6x0)] rfl rfl (by intro u hu; simp only [List.mem_cons, List.not_mem_nil, or_false] at hu; rcases hu with rfl | rfl <;> rfl)
  refine pl_skip (w' := w10) (ys_store rfl rfl (hst10 _ _ rfl Sz62)) ?_
  have hO := hO.fr2
  have hb2 := hb2.chg hC10 (fun hg => hO.apart _ ((fun _ h => h) _ hg) (mem_r (mem_r (mem_l (List.mem_singleton.2 rfl)))))
  have hb9 := hb9.chg hC10 (fun hg => hO.apart _ ((fun _ h => h) _ hg) (mem_l (List.mem_singleton.2 rfl)))
  have hv6x0 := hv6x0.mut hC10 (fun g hg => hO.inM g ((fun _ h => h) g hg)) (fun g hg e => hO.apart g ((fun _ h => h) g hg) (mem_r (mem_l (e))))
  have hC := hC.step hC10 (fun g hg => hO.inN g ((fun _ h => h) g hg))
  have hO := hO.ext hC10
  have hb10 : BoxV w10 g3 62 [(.int .i64 a_.1), (.slice a6x0 n6x0 c6x0)] := hb10
  refine c_nil ?_
  refine wp_ret ?_
  cases hs
  have hO := hO.drop
  have hO := hO.drop
  have hO := hO.fr1
  have hO := hO.drop
  exact ⟨_, g3, a6x0, n6x0, c6x0, f6x0, fr_ovl 12 ⟨rfl, trivial⟩, hb10, hC, hv6x0, hO.top⟩

theorem Rw29 : RowT Try.prog 29 22 1 [(.slice none 0 0)] := ⟨Try.underlying29, ⟨_, _, rfl, rfl, rfl, rfl, by decide⟩, rfl, by decide⟩

def k_laws_toIntSS (M : Nat → Prop) (w0 : World) (r : (List (List Int))) (a : Act) (w : World) : Prop :=
  ∃ (σ : Nat → Value) (ra0 : Option Addr) (rn0 rc0 : Nat) (rf0 : List Nat), a = fr 23 (ovl σ [(2, (.slice ra0 rn0 rc0))]) ∧ Chg [] w0 w ∧ (RT.os 22 (RT.os 3 (RT.int .i64))).val M w (.slice ra0 rn0 rc0) r rf0 ∧ Own (Nw w0 []) (fun _ => True) w (rf0 ++ ([]))
def s_laws_toIntSS (a_ : List (List Int)) : Option ((List (List Int))) :=
  (mks (a_.length : Int) ([] : List Int)).bind fun y3 =>
  (forC (S := (List (List Int))) (R := (List (List Int))) (fun k28 s26 =>
  (idx a_ k28).bind fun x34 =>
  (s_laws_toIntS x34).bind fun r39 =>
  (idx s26 k28).bind fun x41 =>
  some (.nx (List.set s26 (Int.toNat k28) r39))) 0 (a_.length : Int) y3).bind fun o30 => after o30 (fun r_ => some r_) (fun s26 =>
  some s26)
set_option maxHeartbeats 4000000 in
theorem c_laws_toIntSS {M : Nat → Prop} {w : World} {pa0 : Option Addr} {pn0 pc0 : Nat} (a_ : List (List Int)) (h0 : (RT.rs (RT.rs (RT.int .i64))).val M w (.slice pa0 pn0 pc0) a_ ([])) (hM : ∀ g, w.heap.size ≤ g → M g) {r : (List (List Int))} (hs : s_laws_toIntSS a_ = some r) :
    Gives Try.prog 50 [(.slice pa0 pn0 pc0)] w (fun v w' => ∃ (ra0 : Option Addr) (rn0 rc0 : Nat) (rf0 : List Nat), v = (.slice ra0 rn0 rc0) ∧ Chg [] w w' ∧ (RT.os 22 (RT.os 3 (RT.int .i64))).val M w' (.slice ra0 rn0 rc0) r rf0 ∧ Own (Nw w []) (fun _ => True) w' (rf0 ++ ([]))) := by
  refine calls_fr Try.func50 rfl Try.ntmps50 (Nat.le_of_ble_eq_true rfl) ?_
  have hO := Own.start (N := Nw w []) hM Nw.fut
  have hC := Chg.refl [] w
  unfold s_laws_toIntSS at hs
  refine wp_mono (Q := KPost (k_laws_toIntSS M w r)) ?_ (fun e a w1 h => ?_)
  rotate_left
  · cases e
    case ret =>
      obtain ⟨σ, ra0, rn0, rc0, rf0, rfl, hrest⟩ := h
      exact ret1x Try.results50 (res_tmp rfl) ⟨ra0, rn0, rc0, rf0, rfl, hrest⟩
    all_goals exact (h : False).elim
  refine c_seq ?_
  refine c_region ?_
  refine pl_val (.slice none 0 0) (y_assign rfl) ?_
  refine c_nil ?_
  refine c_seq ?_
  refine c_region ?_
  refine pl_val (.slice pa0 pn0 pc0) (y_move rfl) ?_
  refine pl_val (.int .i64 (a_.length : Int)) (y_len' Sl29 (rs_len h0) rfl) ?_
  obtain ⟨y3, hy3, hs⟩ := bind_some hs
  obtain ⟨a2, n2, c2, w2, f2, hm2, hC2, hfr2, hv2⟩ := mk_os (M := M) (w := w) (r := (RT.os 3 (RT.int .i64))) Rw29 hy3 (fun _ _ => (os_unval os_nil))
  refine pl_val (w' := w2) (.slice a2 n2 c2) (y_make rfl rfl hm2) ?_
  have h0 := h0.ext hC2
  have hC := hC.ext hC2
  have hO := hO.new hC2 hfr2 (os_nodup hv2) hv2.fpl
  refine pl_val (.slice a2 n2 c2) (y_assign rfl) ?_
  refine c_nil ?_
  refine c_seq ?_
  refine c_seq ?_
  refine c_region ?_
  refine pl_val (.int .i64 0) (y_assign rfl) ?_
  refine c_nil ?_
  obtain ⟨o30, hl31, hs⟩ := bind_some hs
  refine wp_block ?_
  refine wp_forC (id := 0) (a_.length : Int) (I := fun k28 s26 a w27 => ∃ (σ : Nat → Value) (f32 : List Nat), a = fr 23 (ovl σ [(0, (.slice pa0 pn0 pc0)), (3, (.slice a2 n2 c2)), (4, (.int .i64 k28))]) ∧ Chg [] w w27 ∧ Own (Nw w []) M w27 (f32 ++ []) ∧ (RT.rs (RT.rs (RT.int .i64))).val M w27 (.slice pa0 pn0 pc0) a_ ([]) ∧ (RT.os 22 (RT.os 3 (RT.int .i64))).val M w27 (.slice a2 n2 c2) s26 f32) (J := fun s26 a w27 => ∃ (σ : Nat → Value) (f33 : List Nat), a = fr 23 (ovl σ [(3, (.slice a2 n2 c2))]) ∧ Chg [] w w27 ∧ Own (Nw w []) M w27 (f33 ++ []) ∧ (RT.rs (RT.rs (RT.int .i64))).val M w27 (.slice pa0 pn0 pc0) a_ ([]) ∧ (RT.os 22 (RT.os 3 (RT.int .i64))).val M w27 (.slice a2 n2 c2) s26 f33) (K := (k_laws_toIntSS M w)) ?_ ?_ 0 y3 o30 _ _ ?_ hl31 ?_
  · rintro k28 s26 a w27 ⟨σ, f32, rfl, hC, hO, h0, hv32⟩ hlt
    refine c_seq ?_
    refine c_seq ?_
    refine c_region ?_
    refine pl_val (.int .i64 k28) (y_move rfl) ?_
    refine pl_val (.slice pa0 pn0 pc0) (y_move rfl) ?_
    refine pl_val (.int .i64 (a_.length : Int)) (y_len' Sl29 (rs_len h0) rfl) ?_
    refine pl_val (.bool (decide (k28 < (a_.length : Int)))) (y_lss rfl rfl) ?_
    refine c_nil ?_
    refine c_condF (congrArg Value.bool (decide_eq_false hlt)) ?_
    refine wp_exit ?_
    exact ⟨rfl, _, f32, fr_ovl 23 ⟨rfl, trivial⟩, hC, hO, h0, hv32⟩
  · rintro k28 s26 o30 a w27 ⟨σ, f32, rfl, hC, hO, h0, hv32⟩ hlt hw hs
    refine c_seq ?_
    refine c_seq ?_
    refine c_region ?_
    refine pl_val (.int .i64 k28) (y_move rfl) ?_
    refine pl_val (.slice pa0 pn0 pc0) (y_move rfl) ?_
    refine pl_val (.int .i64 (a_.length : Int)) (y_len' Sl29 (rs_len h0) rfl) ?_
    refine pl_val (.bool (decide (k28 < (a_.length : Int)))) (y_lss rfl rfl) ?_
    refine c_nil ?_
    refine c_condT (congrArg Value.bool (decide_eq_true hlt)) ?_
    refine wp_skip ?_
    refine c_seq ?_
    refine wp_block ?_
    refine c_region ?_
    refine pl_val (.slice a2 n2 c2) (y_move rfl) ?_
    refine pl_val (.int .i64 k28) (y_move rfl) ?_
    refine pl_val (.slice pa0 pn0 pc0) (y_move rfl) ?_
    refine pl_val (.int .i64 k28) (y_move rfl) ?_
    obtain ⟨x34, hx34, hs⟩ := bind_some hs
    obtain ⟨b35, o35, hp35, ha35⟩ := rs_idx Sl29 Sz22 h0 hx34
    refine pl_val (.pointer (some ⟨b35, o35, none⟩)) (hp35 _ _ _ _ _ _ _ _ _ rfl rfl) ?_
    obtain ⟨v36, hl36, hv36⟩ := at_load Ag22 Sz22 (fun _ => rfl) ha35
    obtain ⟨a36, n36, c36, rfl⟩ := rs_sl hv36
    refine pl_val (.slice a36 n36 c36) (y_load rfl (hl36 _ (Chg.refl _ _))) ?_
    obtain ⟨r39, hr39, hs⟩ := bind_some hs
    refine pl_call Bd16 rfl (c_laws_toIntS (M := M) x34 hv36 hO.fut hr39) ?_
    rintro _ w38 ⟨a38x0, n38x0, c38x0, f38x0, rfl, hC38, hv38x0, hOc38⟩
    have h0 := h0.ext hC38
    have hv32 := hv32.ext hC38
    have hv36 := hv36.ext hC38
    have hC := hC.ext hC38
    have hO := Own.join0 hO hC38 hOc38
    have hO := hO.perm (R := f38x0 ++ (f32 ++ ([]))) (by simp)
    obtain ⟨x41, hx41, hs⟩ := bind_some hs
    obtain ⟨g42, f42, hg42, hk42, hp42, ha42, hf42⟩ := os_idx Sl29 Sz22 hv32 hx41
    have hb42 := own_row (Frz.os Frz.int) ha42 hf42
    refine pl_val (.pointer (some ⟨g42, 0 + Int.toNat k28 * 1, none⟩)) (hp42 _ _ _ _ _ _ _ _ _ rfl rfl) ?_
    have hO := hO.fr1
    obtain ⟨w43, f43, hst43, hC43, hf43, hv43⟩ := os_store (P := Try.prog) (c' := [(.slice a38x0 n38x0 c38x0)]) hg42 hv32 hk42 (fun g hg => hO.inM g (os_block hv32 g (by simpa using hg))) (os_unval hv38x0) (hO.drop.perm (R := f38x0 ++ ([])) (by simp)).nd (fun g hg hq => hO.apart g hq (by simp only [List.mem_append, List.not_mem_nil, false_or, or_false] at hg ⊢; simp [hg])) (fun _ h => .inl h)
    have hG43 : ∀ q ∈ [g42], q ∈ f32 := fun q hq => os_block hv32 q (by rw [hg42]; exact hq)
    refine pl_skip (w' := w43) (ys_store rfl rfl (hst43 _ _ rfl Sz22)) ?_
    have hO := hO.fr1
    have hO := hO.fr1
    have h0 := h0.mut hC43 (fun g hg => hO.inM g (hG43 g hg)) (fun _ _ h => nomatch h)
    have hv36 := hv36.mut hC43 (fun g hg => hO.inM g (hG43 g hg)) (fun _ _ h => nomatch h)
    have hC := hC.step hC43 (fun g hg => hO.inN g (hG43 g hg))
    have hO := hO.perm (R := f32 ++ (f38x0 ++ ([]))) (by simp)
    have hO := hO.eat hC43 (fun q hq => (hf43 q hq).elim .inl (fun h => .inr (.inl h))) (os_nodup hv43) hv43.fpl
    refine c_nil ?_
    refine c_region ?_
    refine pl_val (.int .i64 k28) (y_move rfl) ?_
    refine pl_val (.int .i64 (w64 (k28 + 1))) (y_add rfl rfl) ?_
    refine pl_val (.int .i64 (w64 (k28 + 1))) (y_assign rfl) ?_
    refine c_nil ?_
    cases hs
    exact ⟨_, f43, fr_ovl 23 ⟨rfl, rfl, congrArg (Value.int .i64) hw, trivial⟩, hC, hO, h0, hv43⟩
  · skip
    exact ⟨_, f2, fr_ovl 23 ⟨rfl, rfl, rfl, trivial⟩, hC, hO, h0, hv2⟩
  · cases o30 with
    | nx _ => exact True.intro
    | rt r_ =>
      have hs := after_rt hs
      intro a1 w1 hK
      cases hs
      exact hK
    | br s26 =>
      have hs := after_br hs
      rintro a1 w27 ⟨σ, f33, rfl, hC, hO, h0, hv33⟩
      refine c_seq ?_
      refine c_region ?_
      refine pl_val (.slice a2 n2 c2) (y_move rfl) ?_
      refine pl_val (.slice a2 n2 c2) (y_assign rfl) ?_
      refine c_nil ?_
      refine wp_ret ?_
      cases hs
      exact ⟨_, a2, n2, c2, f33, fr_ovl 23 ⟨rfl, trivial⟩, hC, hv33, hO.top⟩

def k_spec_l1In (M : Nat → Prop) (w0 : World) (r : Bool) (a : Act) (w : World) : Prop :=
  ∃ (σ : Nat → Value) , a = fr 15 (ovl σ [(6, (.bool r))]) ∧ Chg [] w0 w
def s_spec_l1In (x_ : Int) (a_ : Int) (b : Int) : Option (Bool) :=
  (bif (decide (a_ ≤ x_)) then some (decide (x_ ≤ b)) else some false)
set_option maxHeartbeats 4000000 in
theorem c_spec_l1In {M : Nat → Prop} {w : World}  (x_ : Int) (a_ : Int) (b : Int)  (hM : ∀ g, w.heap.size ≤ g → M g) {r : Bool} (hs : s_spec_l1In x_ a_ b = some r) :
    Gives Try.prog 137 [(.int .i64 x_), (.int .i64 a_), (.int .i64 b)] w (fun v w' => v = (.bool r) ∧ Chg [] w w') := by
  refine calls_fr Try.func137 rfl Try.ntmps137 (Nat.le_of_ble_eq_true rfl) ?_
  have hO := Own.start (N := Nw w []) hM Nw.fut
  have hC := Chg.refl [] w
  unfold s_spec_l1In at hs
  refine wp_mono (Q := KPost (k_spec_l1In M w r)) ?_ (fun e a w1 h => ?_)
  rotate_left
  · cases e
    case ret =>
      obtain ⟨σ, rfl, hrest⟩ := h
      exact ret1x Try.results137 (res_tmp rfl) ⟨rfl, hrest⟩
    all_goals exact (h : False).elim
  refine c_seq ?_
  refine c_region ?_
  refine pl_val (.bool false) (y_assign rfl) ?_
  refine c_nil ?_
  refine c_seq ?_
  refine c_region ?_
  refine pl_val (.int .i64 x_) (y_move rfl) ?_
  refine pl_val (.int .i64 a_) (y_move rfl) ?_
  refine pl_val (.bool (decide (a_ ≤ x_))) (y_geq rfl rfl) ?_
  refine pl_val (.bool (decide (a_ ≤ x_))) (y_move rfl) ?_
  rcases bif_some hs with ⟨hc1, hs⟩ | ⟨hc1, hs⟩
  · skip
    refine pl_yes (.int .i64 x_) (tg := 10) (by kernel_rfl) (congrArg Value.bool hc1) (y_move rfl) ?_
    refine pl_yes (.int .i64 b) (tg := 10) (by kernel_rfl) (congrArg Value.bool hc1) (y_move rfl) ?_
    refine pl_yes (.bool (decide (x_ ≤ b))) (tg := 10) (by kernel_rfl) (congrArg Value.bool hc1) (y_leq rfl rfl) ?_
    refine pl_val (.bool (decide (x_ ≤ b))) (y_pick_t (congrArg Value.bool hc1) rfl) ?_
    refine pl_val (.bool (decide (x_ ≤ b))) (y_assign rfl) ?_
    refine c_nil ?_
    refine wp_ret ?_
    cases hs
    exact ⟨_, fr_ovl 15 ⟨rfl, trivial⟩, hC⟩
  · skip
    refine pl_not (tg := 10) (by kernel_rfl) (congrArg Value.bool hc1) ?_
    refine pl_not (tg := 10) (by kernel_rfl) (congrArg Value.bool hc1) ?_
    refine pl_not (tg := 10) (by kernel_rfl) (congrArg Value.bool hc1) ?_
    refine pl_val (.bool false) (y_pick_f (congrArg Value.bool hc1) rfl) ?_
    refine pl_val (.bool false) (y_assign rfl) ?_
    refine c_nil ?_
    refine wp_ret ?_
    cases hs
    exact ⟨_, fr_ovl 15 ⟨rfl, trivial⟩, hC⟩

def k_spec_l2Pow (M : Nat → Prop) (w0 : World) (r : Int) (a : Act) (w : World) : Prop :=
  ∃ (σ : Nat → Value) , a = fr 14 (ovl σ [(4, (.int .i64 r))]) ∧ Chg [] w0 w
def s_spec_l2Pow (n : Int) (k : Int) : Option (Int) :=
  (iter (S := Int × Int) (R := Int) (fun s2 =>
  (bif (decide (0 < s2.1)) then some (.nx (w64 (s2.1 - 1), w64 (s2.2 * n))) else some (.br (s2.1, s2.2)))) FU (k, 1)).bind fun o6 => after o6 (fun r_ => some r_) (fun s2 =>
  some s2.2)
set_option maxHeartbeats 4000000 in
theorem c_spec_l2Pow {M : Nat → Prop} {w : World}  (n : Int) (k : Int)  (hM : ∀ g, w.heap.size ≤ g → M g) {r : Int} (hs : s_spec_l2Pow n k = some r) :
    Gives Try.prog 178 [(.int .i64 n), (.int .i64 k)] w (fun v w' => v = (.int .i64 r) ∧ Chg [] w w') := by
  refine calls_fr Try.func178 rfl Try.ntmps178 (Nat.le_of_ble_eq_true rfl) ?_
  have hO := Own.start (N := Nw w []) hM Nw.fut
  have hC := Chg.refl [] w
  unfold s_spec_l2Pow at hs
  refine wp_mono (Q := KPost (k_spec_l2Pow M w r)) ?_ (fun e a w1 h => ?_)
  rotate_left
  · cases e
    case ret =>
      obtain ⟨σ, rfl, hrest⟩ := h
      exact ret1x Try.results178 (res_tmp rfl) ⟨rfl, hrest⟩
    all_goals exact (h : False).elim
  refine c_seq ?_
  refine c_region ?_
  refine pl_val (.int .i64 0) (y_assign rfl) ?_
  refine c_nil ?_
  refine c_seq ?_
  refine c_region ?_
  refine pl_val (.int .i64 1) (y_assign rfl) ?_
  refine c_nil ?_
  refine c_seq ?_
  obtain ⟨o6, hl7, hs⟩ := bind_some hs
  refine wp_block ?_
  refine wp_iter (id := 0) (I := fun s2 a w3 => ∃ (σ : Nat → Value), a = fr 14 (ovl σ [(0, (.int .i64 n)), (1, (.int .i64 s2.1)), (5, (.int .i64 s2.2))]) ∧ Chg [] w w3 ∧ Own (Nw w []) M w3 ([])) (J := fun s2 a w3 => ∃ (σ : Nat → Value), a = fr 14 (ovl σ [(5, (.int .i64 s2.2))]) ∧ Chg [] w w3 ∧ Own (Nw w []) M w3 ([])) (K := (k_spec_l2Pow M w)) ?_ FU (k, 1) o6 _ _ ?_ hl7 ?_
  · rintro s2 o6 a w3 ⟨σ, rfl, hC, hO⟩ hs
    refine c_seq ?_
    refine c_seq ?_
    refine c_region ?_
    refine pl_val (.int .i64 s2.1) (y_move rfl) ?_
    refine pl_val (.bool (decide (0 < s2.1))) (y_gtr rfl rfl) ?_
    refine c_nil ?_
    rcases bif_some hs with ⟨hc8, hs⟩ | ⟨hc8, hs⟩
    · skip
      refine c_condT (congrArg Value.bool hc8) ?_
      refine wp_skip ?_
      refine c_seq ?_
      refine wp_block ?_
      refine c_region ?_
      refine pl_val (.int .i64 s2.2) (y_move rfl) ?_
      refine pl_val (.int .i64 n) (y_move rfl) ?_
      refine pl_val (.int .i64 (w64 (s2.2 * n))) (y_mul rfl rfl) ?_
      refine pl_val (.int .i64 (w64 (s2.2 * n))) (y_assign rfl) ?_
      refine c_nil ?_
      refine c_region ?_
      refine pl_val (.int .i64 s2.1) (y_move rfl) ?_
      refine pl_val (.int .i64 (w64 (s2.1 - 1))) (y_sub rfl rfl) ?_
      refine pl_val (.int .i64 (w64 (s2.1 - 1))) (y_assign rfl) ?_
      refine c_nil ?_
      cases hs
      exact ⟨_, fr_ovl 14 ⟨rfl, rfl, rfl, trivial⟩, hC, hO⟩
    · skip
      refine c_condF (congrArg Value.bool hc8) ?_
      refine wp_exit ?_
      cases hs
      exact ⟨rfl, _, fr_ovl 14 ⟨rfl, trivial⟩, hC, hO⟩
  · skip
    exact ⟨_, fr_ovl 14 ⟨rfl, rfl, rfl, trivial⟩, hC, hO⟩
  · cases o6 with
    | nx _ => exact True.intro
    | rt r_ =>
      have hs := after_rt hs
      intro a1 w1 hK
      cases hs
      exact hK
    | br s2 =>
      have hs := after_br hs
      rintro a1 w3 ⟨σ, rfl, hC, hO⟩
      refine c_seq ?_
      refine c_region ?_
      refine pl_val (.int .i64 s2.2) (y_move rfl) ?_
      refine pl_val (.int .i64 s2.2) (y_assign rfl) ?_
      refine c_nil ?_
      refine wp_ret ?_
      cases hs
      exact ⟨_, fr_ovl 14 ⟨rfl, trivial⟩, hC⟩

theorem Mx : Try.prog.follows .mixedOrders = true := by kernel_rfl

theorem Bd137 : Bodied Try.prog 137 := bodied Try.func137 (by kernel_rfl) rfl

theorem Bd178 : Bodied Try.prog 178 := bodied Try.func178 (by kernel_rfl) rfl

def k_spec_l2Op (M : Nat → Prop) (w0 : World) (r : Bool) (a : Act) (w : World) : Prop :=
  ∃ (σ : Nat → Value) , a = fr 36 (ovl σ [(4, (.bool r))]) ∧ Chg [] w0 w
def s_spec_l2Op (n : Int) (op : Int × (List Int)) : Option (Bool) :=
  ((s_spec_l1In op.1 0 3).bind fun r8 =>
  (bif (!r8) then some true else (s_spec_l2Pow n op.1).bind fun r11 =>
  some ((op.2.length : Int) != r11))).bind fun s3 =>
  (bif s3 then some false else (forC (S := Unit) (R := Bool) (fun k24 s22 =>
  (idx op.2 k24).bind fun x28 =>
  (s_spec_l1In x28 0 (w64 (n - 1))).bind fun r31 =>
  (bif (!r31) then some (.rt false) else some (.nx ()))) 0 (op.2.length : Int) ()).bind fun o26 => after o26 (fun r_ => some r_) (fun s22 =>
  some true))
set_option maxHeartbeats 4000000 in
theorem c_spec_l2Op {M : Nat → Prop} {w : World} {pa0 : Option Addr} {pn0 pc0 : Nat} (n : Int) (op : Int × (List Int)) (h0 : (RT.rs (RT.int .i64)).val M w (.slice pa0 pn0 pc0) op.2 ([])) (hM : ∀ g, w.heap.size ≤ g → M g) {r : Bool} (hs : s_spec_l2Op n op = some r) :
    Gives Try.prog 153 [(.int .i64 n), (.agg #[(.int .i64 op.1), (.slice pa0 pn0 pc0)])] w (fun v w' => v = (.bool r) ∧ Chg [] w w') := by
  refine calls_fr Try.func153 rfl Try.ntmps153 (Nat.le_of_ble_eq_true rfl) ?_
  have hO := Own.start (N := Nw w []) hM Nw.fut
  have hC := Chg.refl [] w
  unfold s_spec_l2Op at hs
  refine wp_mono (Q := KPost (k_spec_l2Op M w r)) ?_ (fun e a w1 h => ?_)
  rotate_left
  · cases e
    case ret =>
      obtain ⟨σ, rfl, hrest⟩ := h
      exact ret1x Try.results153 (res_tmp rfl) ⟨rfl, hrest⟩
    all_goals exact (h : False).elim
  refine c_seq ?_
  refine c_region ?_
  obtain ⟨w2, g2, ew2, eg2, hC2, hb2⟩ := new_block w [(.int .i64 op.1), (.slice pa0 pn0 pc0)] 82
  refine pl_val (w' := w2) (.pointer (some ⟨g2, 0, none⟩)) (y_box rfl (by rw [ew2, eg2]; kernel_rfl)) ?_
  have h0 := h0.ext hC2
  have hC := hC.ext hC2
  have hO := hO.new (X' := [g2]) hC2 (fun q hq => by rw [List.mem_singleton.1 hq, eg2]; exact Nat.le_refl _) (List.nodup_cons.2 ⟨(fun h => nomatch h), List.nodup_nil⟩) (fun q hq => by rw [List.mem_singleton.1 hq]; exact hb2.lt)
  refine pl_val (.bool false) (y_assign rfl) ?_
  refine c_nil ?_
  refine c_seq ?_
  refine c_seq ?_
  obtain ⟨s3, hm5, hs⟩ := bind_some hs
  refine c_mid (I := fun a w4 => ∃ (σ : Nat → Value), a = fr 36 (ovl σ [(0, (.int .i64 n)), (3, (.pointer (some ⟨g2, 0, none⟩))), (4, (.bool false)), (19, (.bool s3))]) ∧ Chg [] w2 w4) ?_ ?_
  · replace hs := hm5
    have hMid := Chg.refl [] w2
    refine x_start [] Mx rfl ?_
    have hCw6 := Chg.drew w2
    generalize World.drew w2 = w6 at hCw6 ⊢
    have h0 := h0.ext hCw6
    have hb2 := hb2.chg hCw6 (fun h => nomatch h)
    have hMid := hMid.ext hCw6
    have hC := hC.ext hCw6
    have hO := hO.ext hCw6
    have hS := Chg.refl [] w6
    refine x_p 0 (.pointer (some ⟨g2, 0, none⟩)) rfl (by kernel_rfl)  (fun _ => y_faddr rfl Fa82x0) (fun _ => hS) ?_
    refine x_l 1 (.int .i64 op.1) rfl (by kernel_rfl)  (fun w' hw' => y_load rfl ((box_load Ag3 Sz3 hb2 [] [(.int .i64 op.1)] [(.slice pa0 pn0 pc0)] rfl rfl (fun _ => rfl)) w' hw')) hS ?_
    refine x_one (i := 2) (by kernel_rfl) ?_
    obtain ⟨r8, hr8, hs⟩ := bind_some hs
    refine xk_call (b := false) rfl  Bd137 rfl (c_spec_l1In (M := M) op.1 0 3  hO.fut hr8) rfl (by rintro _ _ _ ⟨rfl, hC7⟩; exact hS.ext hC7) ?_
    rintro _ w7 ⟨rfl, hC7⟩
    have h0 := h0.ext hC7
    have hb2 := hb2.chg hC7 (fun h => nomatch h)
    have hMid := hMid.ext hC7
    have hC := hC.ext hC7
    have hO := hO.ext hC7
    have hS := hS.ext hC7
    refine x_p 3 (.bool (!r8)) rfl (by kernel_rfl)  (fun _ => y_not rfl) (fun _ => hS) ?_
    refine x_p 4 (.bool (!r8)) rfl (by kernel_rfl)  (fun _ => y_move rfl) (fun _ => hS) ?_
    rcases bif_some hs with ⟨hc9, hs⟩ | ⟨hc9, hs⟩
    · skip
      refine x_pn 5 rfl (by kernel_rfl) (tg := 10) (by kernel_rfl) (congrArg Value.bool hc9) (fun _ => hS) ?_
      refine x_pn 6 rfl (by kernel_rfl) (tg := 10) (by kernel_rfl) (congrArg Value.bool hc9) (fun _ => hS) ?_
      refine x_pn 7 rfl (by kernel_rfl) (tg := 10) (by kernel_rfl) (congrArg Value.bool hc9) (fun _ => hS) ?_
      refine x_pn 8 rfl (by kernel_rfl) (tg := 10) (by kernel_rfl) (congrArg Value.bool hc9) (fun _ => hS) ?_
      refine x_pn 9 rfl (by kernel_rfl) (tg := 10) (by kernel_rfl) (congrArg Value.bool hc9) (fun _ => hS) ?_
      refine x_pn 10 rfl (by kernel_rfl) (tg := 10) (by kernel_rfl) (congrArg Value.bool hc9) (fun _ => hS) ?_
      refine x_pn 11 rfl (by kernel_rfl) (tg := 10) (by kernel_rfl) (congrArg Value.bool hc9) (fun _ => hS) ?_
      refine x_pn 12 rfl (by kernel_rfl) (tg := 10) (by kernel_rfl) (congrArg Value.bool hc9) (fun _ => hS) ?_
      refine x_p 13 (.bool true) rfl (by kernel_rfl)  (fun _ => y_pick_t (congrArg Value.bool hc9) rfl) (fun _ => hS) ?_
      refine x_end (by kernel_rfl) ?_
      clear hS
      cases hs
      exact ⟨_, fr_ovl 36 ⟨rfl, rfl, rfl, rfl, trivial⟩, hMid⟩
    · skip
      refine x_py 5 (.pointer (some ⟨g2, 1, none⟩)) rfl (by kernel_rfl) (tg := 10) (by kernel_rfl) (congrArg Value.bool hc9) (fun _ => y_faddr rfl Fa82x1) (fun _ => hS) ?_
      refine x_py 8 (.int .i64 n) rfl (by kernel_rfl) (tg := 10) (by kernel_rfl) (congrArg Value.bool hc9) (fun _ => y_move rfl) (fun _ => hS) ?_
      refine x_py 9 (.pointer (some ⟨g2, 0, none⟩)) rfl (by kernel_rfl) (tg := 10) (by kernel_rfl) (congrArg Value.bool hc9) (fun _ => y_faddr rfl Fa82x0) (fun _ => hS) ?_
      refine x_two (i := 6) (j := 10) (by kernel_rfl) ?_ ?_
      · skip
        refine xk_valy (b := false) (.slice pa0 pn0 pc0) rfl (tg := 10) (by kernel_rfl) (congrArg Value.bool hc9) (y_load rfl ((box_load Ag22 Sz22 hb2 [(.int .i64 op.1)] [(.slice pa0 pn0 pc0)] [] rfl rfl (fun _ => rfl)) _ (Chg.refl _ _))) rfl (fun _ => hS) ?_
        refine x_py 7 (.int .i64 (op.2.length : Int)) rfl (by kernel_rfl) (tg := 10) (by kernel_rfl) (congrArg Value.bool hc9) (fun _ => y_len' Sl22 (rs_len h0) rfl) (fun _ => hS) ?_
        refine x_one (i := 10) (by kernel_rfl) ?_
        refine xk_valy (b := false) (.int .i64 op.1) rfl (tg := 10) (by kernel_rfl) (congrArg Value.bool hc9) (y_load rfl ((box_load Ag3 Sz3 hb2 [] [(.int .i64 op.1)] [(.slice pa0 pn0 pc0)] rfl rfl (fun _ => rfl)) _ (Chg.refl _ _))) rfl (fun _ => hS) ?_
        refine x_one (i := 11) (by kernel_rfl) ?_
        obtain ⟨r11, hr11, hs⟩ := bind_some hs
        refine xk_cally (b := false) rfl (tg := 10) (by kernel_rfl) (congrArg Value.bool hc9) Bd178 rfl (c_spec_l2Pow (M := M) n op.1  hO.fut hr11) rfl (by rintro _ _ _ ⟨rfl, hC10⟩; exact hS.ext hC10) ?_
        rintro _ w10 ⟨rfl, hC10⟩
        have h0 := h0.ext hC10
        have hb2 := hb2.chg hC10 (fun h => nomatch h)
        have hMid := hMid.ext hC10
        have hC := hC.ext hC10
        have hO := hO.ext hC10
        have hS := hS.ext hC10
        refine x_py 12 (.bool ((op.2.length : Int) != r11)) rfl (by kernel_rfl) (tg := 10) (by kernel_rfl) (congrArg Value.bool hc9) (fun _ => y_neq rfl rfl) (fun _ => hS) ?_
        refine x_p 13 (.bool ((op.2.length : Int) != r11)) rfl (by kernel_rfl)  (fun _ => y_pick_f (congrArg Value.bool hc9) rfl) (fun _ => hS) ?_
        refine x_end (by kernel_rfl) ?_
        clear hS
        cases hs
        exact ⟨_, fr_ovl 36 ⟨rfl, rfl, rfl, rfl, trivial⟩, hMid⟩
      · skip
        refine xk_valy (b := false) (.int .i64 op.1) rfl (tg := 10) (by kernel_rfl) (congrArg Value.bool hc9) (y_load rfl ((box_load Ag3 Sz3 hb2 [] [(.int .i64 op.1)] [(.slice pa0 pn0 pc0)] rfl rfl (fun _ => rfl)) _ (Chg.refl _ _))) rfl (fun _ => hS) ?_
        refine x_two (i := 6) (j := 11) (by kernel_rfl) ?_ ?_
        · skip
          refine xk_valy (b := false) (.slice pa0 pn0 pc0) rfl (tg := 10) (by kernel_rfl) (congrArg Value.bool hc9) (y_load rfl ((box_load Ag22 Sz22 hb2 [(.int .i64 op.1)] [(.slice pa0 pn0 pc0)] [] rfl rfl (fun _ => rfl)) _ (Chg.refl _ _))) rfl (fun _ => hS) ?_
          refine x_py 7 (.int .i64 (op.2.length : Int)) rfl (by kernel_rfl) (tg := 10) (by kernel_rfl) (congrArg Value.bool hc9) (fun _ => y_len' Sl22 (rs_len h0) rfl) (fun _ => hS) ?_
          refine x_one (i := 11) (by kernel_rfl) ?_
          obtain ⟨r11, hr11, hs⟩ := bind_some hs
          refine xk_cally (b := false) rfl (tg := 10) (by kernel_rfl) (congrArg Value.bool hc9) Bd178 rfl (c_spec_l2Pow (M := M) n op.1  hO.fut hr11) rfl (by rintro _ _ _ ⟨rfl, hC12⟩; exact hS.ext hC12) ?_
          rintro _ w12 ⟨rfl, hC12⟩
          have h0 := h0.ext hC12
          have hb2 := hb2.chg hC12 (fun h => nomatch h)
          have hMid := hMid.ext hC12
          have hC := hC.ext hC12
          have hO := hO.ext hC12
          have hS := hS.ext hC12
          refine x_py 12 (.bool ((op.2.length : Int) != r11)) rfl (by kernel_rfl) (tg := 10) (by kernel_rfl) (congrArg Value.bool hc9) (fun _ => y_neq rfl rfl) (fun _ => hS) ?_
          refine x_p 13 (.bool ((op.2.length : Int) != r11)) rfl (by kernel_rfl)  (fun _ => y_pick_f (congrArg Value.bool hc9) rfl) (fun _ => hS) ?_
          refine x_end (by kernel_rfl) ?_
          clear hS
          cases hs
          exact ⟨_, fr_ovl 36 ⟨rfl, rfl, rfl, rfl, trivial⟩, hMid⟩
        · skip
          obtain ⟨r11, hr11, hs⟩ := bind_some hs
          refine xk_cally (b := false) rfl (tg := 10) (by kernel_rfl) (congrArg Value.bool hc9) Bd178 rfl (c_spec_l2Pow (M := M) n op.1  hO.fut hr11) rfl (by rintro _ _ _ ⟨rfl, hC14⟩; exact hS.ext hC14) ?_
          rintro _ w14 ⟨rfl, hC14⟩
          have h0 := h0.ext hC14
          have hb2 := hb2.chg hC14 (fun h => nomatch h)
          have hMid := hMid.ext hC14
          have hC := hC.ext hC14
          have hO := hO.ext hC14
          have hS := hS.ext hC14
          refine x_one (i := 6) (by kernel_rfl) ?_
          refine xk_valy (b := false) (.slice pa0 pn0 pc0) rfl (tg := 10) (by kernel_rfl) (congrArg Value.bool hc9) (y_load rfl ((box_load Ag22 Sz22 hb2 [(.int .i64 op.1)] [(.slice pa0 pn0 pc0)] [] rfl rfl (fun _ => rfl)) _ (Chg.refl _ _))) rfl (fun _ => hS) ?_
          refine x_py 7 (.int .i64 (op.2.length : Int)) rfl (by kernel_rfl) (tg := 10) (by kernel_rfl) (congrArg Value.bool hc9) (fun _ => y_len' Sl22 (rs_len h0) rfl) (fun _ => hS) ?_
          refine x_py 12 (.bool ((op.2.length : Int) != r11)) rfl (by kernel_rfl) (tg := 10) (by kernel_rfl) (congrArg Value.bool hc9) (fun _ => y_neq rfl rfl) (fun _ => hS) ?_
          refine x_p 13 (.bool ((op.2.length : Int) != r11)) rfl (by kernel_rfl)  (fun _ => y_pick_f (congrArg Value.bool hc9) rfl) (fun _ => hS) ?_
          refine x_end (by kernel_rfl) ?_
          clear hS
          cases hs
          exact ⟨_, fr_ovl 36 ⟨rfl, rfl, rfl, rfl, trivial⟩, hMid⟩
  · rintro a1 w4 ⟨σ, rfl, hCs3⟩
    have h0 := h0.ext hCs3
    have hb2 := hb2.chg hCs3 (fun h => nomatch h)
    have hC := hC.ext hCs3
    have hO := hO.ext hCs3
    rcases bif_some hs with ⟨hc16, hs⟩ | ⟨hc16, hs⟩
    · skip
      refine c_condT (congrArg Value.bool hc16) ?_
      refine c_seq ?_
      refine c_region ?_
      refine pl_val (.bool false) (y_assign rfl) ?_
      refine c_nil ?_
      refine wp_ret ?_
      cases hs
      exact ⟨_, fr_ovl 36 ⟨rfl, trivial⟩, hC⟩
    · skip
      refine c_condF (congrArg Value.bool hc16) ?_
      refine wp_skip ?_
      refine c_seq ?_
      refine c_seq ?_
      refine c_region ?_
      refine pl_val (.int .i64 0) (y_assign rfl) ?_
      refine c_nil ?_
      obtain ⟨o26, hl27, hs⟩ := bind_some hs
      refine wp_block ?_
      refine wp_forC (id := 0) (op.2.length : Int) (I := fun k24 s22 a w23 => ∃ (σ : Nat → Value), a = fr 36 (ovl σ [(0, (.int .i64 n)), (3, (.pointer (some ⟨g2, 0, none⟩))), (5, (.int .i64 k24))]) ∧ Chg [] w w23 ∧ Own (Nw w []) M w23 (([g2]) ++ []) ∧ (RT.rs (RT.int .i64)).val M w23 (.slice pa0 pn0 pc0) op.2 ([]) ∧ BoxV w23 g2 82 [(.int .i64 op.1), (.slice pa0 pn0 pc0)]) (J := fun s22 a w23 => ∃ (σ : Nat → Value), a = fr 36 (ovl σ []) ∧ Chg [] w w23 ∧ Own (Nw w []) M w23 (([g2]) ++ []) ∧ (RT.rs (RT.int .i64)).val M w23 (.slice pa0 pn0 pc0) op.2 ([]) ∧ BoxV w23 g2 82 [(.int .i64 op.1), (.slice pa0 pn0 pc0)]) (K := (k_spec_l2Op M w)) ?_ ?_ 0 () o26 _ _ ?_ hl27 ?_
      · rintro k24 s22 a w23 ⟨σ, rfl, hC, hO, h0, hb2⟩ hlt
        refine c_seq ?_
        refine c_seq ?_
        refine c_region ?_
        refine pl_val (.int .i64 k24) (y_move rfl) ?_
        refine pl_val (.pointer (some ⟨g2, 1, none⟩)) (y_faddr rfl Fa82x1) ?_
        refine pl_val (.slice pa0 pn0 pc0) (y_load rfl ((box_load Ag22 Sz22 hb2 [(.int .i64 op.1)] [(.slice pa0 pn0 pc0)] [] rfl rfl (fun _ => rfl)) _ (Chg.refl _ _))) ?_
        refine pl_val (.int .i64 (op.2.length : Int)) (y_len' Sl22 (rs_len h0) rfl) ?_
        refine pl_val (.bool (decide (k24 < (op.2.length : Int)))) (y_lss rfl rfl) ?_
        refine c_nil ?_
        refine c_condF (congrArg Value.bool (decide_eq_false hlt)) ?_
        refine wp_exit ?_
        exact ⟨rfl, _, fr_ovl 36 trivial, hC, hO, h0, hb2⟩
      · rintro k24 s22 o26 a w23 ⟨σ, rfl, hC, hO, h0, hb2⟩ hlt hw hs
        refine c_seq ?_
        refine c_seq ?_
        refine c_region ?_
        refine pl_val (.int .i64 k24) (y_move rfl) ?_
        refine pl_val (.pointer (some ⟨g2, 1, none⟩)) (y_faddr rfl Fa82x1) ?_
        refine pl_val (.slice pa0 pn0 pc0) (y_load rfl ((box_load Ag22 Sz22 hb2 [(.int .i64 op.1)] [(.slice pa0 pn0 pc0)] [] rfl rfl (fun _ => rfl)) _ (Chg.refl _ _))) ?_
        refine pl_val (.int .i64 (op.2.length : Int)) (y_len' Sl22 (rs_len h0) rfl) ?_
        refine pl_val (.bool (decide (k24 < (op.2.length : Int)))) (y_lss rfl rfl) ?_
        refine c_nil ?_
        refine c_condT (congrArg Value.bool (decide_eq_true hlt)) ?_
        refine wp_skip ?_
        refine c_seq ?_
        refine wp_block ?_
        refine c_seq ?_
        refine c_region ?_
        refine pl_val (.pointer (some ⟨g2, 1, none⟩)) (y_faddr rfl Fa82x1) ?_
        refine pl_val (.slice pa0 pn0 pc0) (y_load rfl ((box_load Ag22 Sz22 hb2 [(.int .i64 op.1)] [(.slice pa0 pn0 pc0)] [] rfl rfl (fun _ => rfl)) _ (Chg.refl _ _))) ?_
        refine pl_val (.int .i64 k24) (y_move rfl) ?_
        obtain ⟨x28, hx28, hs⟩ := bind_some hs
        obtain ⟨b29, o29, hp29, ha29⟩ := rs_idx Sl22 Sz3 h0 hx28
        refine pl_val (.pointer (some ⟨b29, o29, none⟩)) (hp29 _ _ _ _ _ _ _ _ _ rfl rfl) ?_
        refine pl_val (.int .i64 x28) (y_load rfl ((at_load_int Ag3 Sz3 ha29) _ (Chg.refl _ _))) ?_
        refine pl_val (.int .i64 n) (y_move rfl) ?_
        refine pl_val (.int .i64 (w64 (n - 1))) (y_sub rfl rfl) ?_
        obtain ⟨r31, hr31, hs⟩ := bind_some hs
        refine pl_call Bd137 rfl (c_spec_l1In (M := M) x28 0 (w64 (n - 1))  hO.fut hr31) ?_
        rintro _ w30 ⟨rfl, hC30⟩
        have h0 := h0.ext hC30
        have hb2 := hb2.chg hC30 (fun h => nomatch h)
        have hC := hC.ext hC30
        have hO := hO.ext hC30
        refine pl_val (.bool (!r31)) (y_not rfl) ?_
        refine c_nil ?_
        rcases bif_some hs with ⟨hc32, hs⟩ | ⟨hc32, hs⟩
        · skip
          refine c_condT (congrArg Value.bool hc32) ?_
          refine c_seq ?_
          refine c_region ?_
          refine pl_val (.bool false) (y_assign rfl) ?_
          refine c_nil ?_
          refine wp_ret ?_
          cases hs
          exact ⟨_, fr_ovl 36 ⟨rfl, trivial⟩, hC⟩
        · skip
          refine c_condF (congrArg Value.bool hc32) ?_
          refine wp_skip ?_
          refine c_region ?_
          refine pl_val (.int .i64 k24) (y_move rfl) ?_
          refine pl_val (.int .i64 (w64 (k24 + 1))) (y_add rfl rfl) ?_
          refine pl_val (.int .i64 (w64 (k24 + 1))) (y_assign rfl) ?_
          refine c_nil ?_
          cases hs
          exact ⟨_, fr_ovl 36 ⟨rfl, rfl, congrArg (Value.int .i64) hw, trivial⟩, hC, hO, h0, hb2⟩
      · skip
        exact ⟨_, fr_ovl 36 ⟨rfl, rfl, rfl, trivial⟩, hC, hO, h0, hb2⟩
      · cases o26 with
        | nx _ => exact True.intro
        | rt r_ =>
          have hs := after_rt hs
          intro a1 w1 hK
          cases hs
          exact hK
        | br s22 =>
          have hs := after_br hs
          rintro a1 w23 ⟨σ, rfl, hC, hO, h0, hb2⟩
          refine c_seq ?_
          refine c_region ?_
          refine pl_val (.bool true) (y_assign rfl) ?_
          refine c_nil ?_
          refine wp_ret ?_
          cases hs
          exact ⟨_, fr_ovl 36 ⟨rfl, trivial⟩, hC⟩

theorem Ag60 : AggT Try.prog 60 false := fun _ => by kernel_rfl

theorem Bd153 : Bodied Try.prog 153 := bodied Try.func153 (by kernel_rfl) rfl

def k_spec_l2Good (M : Nat → Prop) (w0 : World) (r : Bool) (a : Act) (w : World) : Prop :=
  ∃ (σ : Nat → Value) , a = fr 30 (ovl σ [(2, (.bool r))]) ∧ Chg [] w0 w
def s_spec_l2Good (a_ : Int × (List (Int × (List Int)))) : Option (Bool) :=
  ((s_spec_l1In a_.1 1 8).bind fun r7 =>
  (bif (!r7) then some true else some (decide (4 < (a_.2.length : Int))))).bind fun s3 =>
  (bif s3 then some false else (forC (S := Unit) (R := Bool) (fun k20 s18 =>
  (idx a_.2 k20).bind fun x25 =>
  (s_spec_l2Op a_.1 (x25.1, x25.2)).bind fun r30 =>
  (bif (!r30) then some (.rt false) else some (.nx ()))) 0 (a_.2.length : Int) ()).bind fun o22 => after o22 (fun r_ => some r_) (fun s18 =>
  some true))
set_option maxHeartbeats 4000000 in
theorem c_spec_l2Good {M : Nat → Prop} {w : World} {pa0 : Option Addr} {pn0 pc0 : Nat} (a_ : Int × (List (Int × (List Int)))) (h0 : (RT.rs (RT.pr (RT.int .i64) (RT.rs (RT.int .i64)))).val M w (.slice pa0 pn0 pc0) a_.2 ([])) (hM : ∀ g, w.heap.size ≤ g → M g) {r : Bool} (hs : s_spec_l2Good a_ = some r) :
    Gives Try.prog 94 [(.agg #[(.int .i64 a_.1), (.slice pa0 pn0 pc0)])] w (fun v w' => v = (.bool r) ∧ Chg [] w w') := by
  refine calls_fr Try.func94 rfl Try.ntmps94 (Nat.le_of_ble_eq_true rfl) ?_
  have hO := Own.start (N := Nw w []) hM Nw.fut
  have hC := Chg.refl [] w
  unfold s_spec_l2Good at hs
  refine wp_mono (Q := KPost (k_spec_l2Good M w r)) ?_ (fun e a w1 h => ?_)
  rotate_left
  · cases e
    case ret =>
      obtain ⟨σ, rfl, hrest⟩ := h
      exact ret1x Try.results94 (res_tmp rfl) ⟨rfl, hrest⟩
    all_goals exact (h : False).elim
  refine c_seq ?_
  refine c_region ?_
  obtain ⟨w2, g2, ew2, eg2, hC2, hb2⟩ := new_block w [(.int .i64 a_.1), (.slice pa0 pn0 pc0)] 62
  refine pl_val (w' := w2) (.pointer (some ⟨g2, 0, none⟩)) (y_box rfl (by rw [ew2, eg2]; kernel_rfl)) ?_
  have h0 := h0.ext hC2
  have hC := hC.ext hC2
  have hO := hO.new (X' := [g2]) hC2 (fun q hq => by rw [List.mem_singleton.1 hq, eg2]; exact Nat.le_refl _) (List.nodup_cons.2 ⟨(fun h => nomatch h), List.nodup_nil⟩) (fun q hq => by rw [List.mem_singleton.1 hq]; exact hb2.lt)
  refine pl_val (.bool false) (y_assign rfl) ?_
  refine c_nil ?_
  refine c_seq ?_
  refine c_seq ?_
  obtain ⟨s3, hm5, hs⟩ := bind_some hs
  refine c_mid (I := fun a w4 => ∃ (σ : Nat → Value), a = fr 30 (ovl σ [(1, (.pointer (some ⟨g2, 0, none⟩))), (2, (.bool false)), (13, (.bool s3))]) ∧ Chg [] w2 w4) ?_ ?_
  · replace hs := hm5
    have hMid := Chg.refl [] w2
    refine c_region ?_
    refine pl_val (.pointer (some ⟨g2, 0, none⟩)) (y_faddr rfl Fa62x0) ?_
    refine pl_val (.int .i64 a_.1) (y_load rfl ((box_load Ag3 Sz3 hb2 [] [(.int .i64 a_.1)] [(.slice pa0 pn0 pc0)] rfl rfl (fun _ => rfl)) _ (Chg.refl _ _))) ?_
    obtain ⟨r7, hr7, hs⟩ := bind_some hs
    refine pl_call Bd137 rfl (c_spec_l1In (M := M) a_.1 1 8  hO.fut hr7) ?_
    rintro _ w6 ⟨rfl, hC6⟩
    have h0 := h0.ext hC6
    have hb2 := hb2.chg hC6 (fun h => nomatch h)
    have hMid := hMid.ext hC6
    have hC := hC.ext hC6
    have hO := hO.ext hC6
    refine pl_val (.bool (!r7)) (y_not rfl) ?_
    refine pl_val (.bool (!r7)) (y_move rfl) ?_
    rcases bif_some hs with ⟨hc8, hs⟩ | ⟨hc8, hs⟩
    · skip
      refine pl_not (tg := 8) (by kernel_rfl) (congrArg Value.bool hc8) ?_
      refine pl_not (tg := 8) (by kernel_rfl) (congrArg Value.bool hc8) ?_
      refine pl_not (tg := 8) (by kernel_rfl) (congrArg Value.bool hc8) ?_
      refine pl_not (tg := 8) (by kernel_rfl) (congrArg Value.bool hc8) ?_
      refine pl_val (.bool true) (y_pick_t (congrArg Value.bool hc8) rfl) ?_
      refine c_nil ?_
      cases hs
      exact ⟨_, fr_ovl 30 ⟨rfl, rfl, rfl, trivial⟩, hMid⟩
    · skip
      refine pl_yes (.pointer (some ⟨g2, 1, none⟩)) (tg := 8) (by kernel_rfl) (congrArg Value.bool hc8) (y_faddr rfl Fa62x1) ?_
      refine pl_yes (.slice pa0 pn0 pc0) (tg := 8) (by kernel_rfl) (congrArg Value.bool hc8) (y_load rfl ((box_load Ag60 Sz60 hb2 [(.int .i64 a_.1)] [(.slice pa0 pn0 pc0)] [] rfl rfl (fun _ => rfl)) _ (Chg.refl _ _))) ?_
      refine pl_yes (.int .i64 (a_.2.length : Int)) (tg := 8) (by kernel_rfl) (congrArg Value.bool hc8) (y_len' Sl60 (rs_len h0) rfl) ?_
      refine pl_yes (.bool (decide (4 < (a_.2.length : Int)))) (tg := 8) (by kernel_rfl) (congrArg Value.bool hc8) (y_gtr rfl rfl) ?_
      refine pl_val (.bool (decide (4 < (a_.2.length : Int)))) (y_pick_f (congrArg Value.bool hc8) rfl) ?_
      refine c_nil ?_
      cases hs
      exact ⟨_, fr_ovl 30 ⟨rfl, rfl, rfl, trivial⟩, hMid⟩
  · rintro a1 w4 ⟨σ, rfl, hCs3⟩
    have h0 := h0.ext hCs3
    have hb2 := hb2.chg hCs3 (fun h => nomatch h)
    have hC := hC.ext hCs3
    have hO := hO.ext hCs3
    rcases bif_some hs with ⟨hc9, hs⟩ | ⟨hc9, hs⟩
    · skip
      refine c_condT (congrArg Value.bool hc9) ?_
      refine c_seq ?_
      refine c_region ?_
      refine pl_val (.bool false) (y_assign rfl) ?_
      refine c_nil ?_
      refine wp_ret ?_
      cases hs
      exact ⟨_, fr_ovl 30 ⟨rfl, trivial⟩, hC⟩
    · skip
      refine c_condF (congrArg Value.bool hc9) ?_
      refine wp_skip ?_
      refine c_seq ?_
      refine c_seq ?_
      refine c_region ?_
      refine pl_val (.int .i64 0) (y_assign rfl) ?_
      refine c_nil ?_
      obtain ⟨o22, hl23, hs⟩ := bind_some hs
      refine wp_block ?_
      refine wp_forC (id := 0) (a_.2.length : Int) (I := fun k20 s18 a w19 => ∃ (σ : Nat → Value), a = fr 30 (ovl σ [(1, (.pointer (some ⟨g2, 0, none⟩))), (3, (.int .i64 k20))]) ∧ Chg [] w w19 ∧ Own (Nw w []) M w19 (([g2]) ++ []) ∧ (RT.rs (RT.pr (RT.int .i64) (RT.rs (RT.int .i64)))).val M w19 (.slice pa0 pn0 pc0) a_.2 ([]) ∧ BoxV w19 g2 62 [(.int .i64 a_.1), (.slice pa0 pn0 pc0)]) (J := fun s18 a w19 => ∃ (σ : Nat → Value), a = fr 30 (ovl σ []) ∧ Chg [] w w19 ∧ Own (Nw w []) M w19 (([g2]) ++ []) ∧ (RT.rs (RT.pr (RT.int .i64) (RT.rs (RT.int .i64)))).val M w19 (.slice pa0 pn0 pc0) a_.2 ([]) ∧ BoxV w19 g2 62 [(.int .i64 a_.1), (.slice pa0 pn0 pc0)]) (K := (k_spec_l2Good M w)) ?_ ?_ 0 () o22 _ _ ?_ hl23 ?_
      · rintro k20 s18 a w19 ⟨σ, rfl, hC, hO, h0, hb2⟩ hlt
        refine c_seq ?_
        refine c_seq ?_
        refine c_region ?_
        refine pl_val (.int .i64 k20) (y_move rfl) ?_
        refine pl_val (.pointer (some ⟨g2, 1, none⟩)) (y_faddr rfl Fa62x1) ?_
        refine pl_val (.slice pa0 pn0 pc0) (y_load rfl ((box_load Ag60 Sz60 hb2 [(.int .i64 a_.1)] [(.slice pa0 pn0 pc0)] [] rfl rfl (fun _ => rfl)) _ (Chg.refl _ _))) ?_
        refine pl_val (.int .i64 (a_.2.length : Int)) (y_len' Sl60 (rs_len h0) rfl) ?_
        refine pl_val (.bool (decide (k20 < (a_.2.length : Int)))) (y_lss rfl rfl) ?_
        refine c_nil ?_
        refine c_condF (congrArg Value.bool (decide_eq_false hlt)) ?_
        refine wp_exit ?_
        exact ⟨rfl, _, fr_ovl 30 trivial, hC, hO, h0, hb2⟩
      · rintro k20 s18 o22 a w19 ⟨σ, rfl, hC, hO, h0, hb2⟩ hlt hw hs
        refine c_seq ?_
        refine c_seq ?_
        refine c_region ?_
        refine pl_val (.int .i64 k20) (y_move rfl) ?_
        refine pl_val (.pointer (some ⟨g2, 1, none⟩)) (y_faddr rfl Fa62x1) ?_
        refine pl_val (.slice pa0 pn0 pc0) (y_load rfl ((box_load Ag60 Sz60 hb2 [(.int .i64 a_.1)] [(.slice pa0 pn0 pc0)] [] rfl rfl (fun _ => rfl)) _ (Chg.refl _ _))) ?_
        refine pl_val (.int .i64 (a_.2.length : Int)) (y_len' Sl60 (rs_len h0) rfl) ?_
        refine pl_val (.bool (decide (k20 < (a_.2.length : Int)))) (y_lss rfl rfl) ?_
        refine c_nil ?_
        refine c_condT (congrArg Value.bool (decide_eq_true hlt)) ?_
        refine wp_skip ?_
        refine c_seq ?_
        refine wp_block ?_
        refine c_seq ?_
        refine x_start [] Mx rfl ?_
        have hCw24 := Chg.drew w19
        generalize World.drew w19 = w24 at hCw24 ⊢
        have h0 := h0.ext hCw24
        have hb2 := hb2.chg hCw24 (fun h => nomatch h)
        have hC := hC.ext hCw24
        have hO := hO.ext hCw24
        have hS := Chg.refl [] w24
        refine x_p 0 (.pointer (some ⟨g2, 0, none⟩)) rfl (by kernel_rfl)  (fun _ => y_faddr rfl Fa62x0) (fun _ => hS) ?_
        refine x_l 1 (.int .i64 a_.1) rfl (by kernel_rfl)  (fun w' hw' => y_load rfl ((box_load Ag3 Sz3 hb2 [] [(.int .i64 a_.1)] [(.slice pa0 pn0 pc0)] rfl rfl (fun _ => rfl)) w' hw')) hS ?_
        refine x_p 2 (.pointer (some ⟨g2, 1, none⟩)) rfl (by kernel_rfl)  (fun _ => y_faddr rfl Fa62x1) (fun _ => hS) ?_
        refine x_l 3 (.slice pa0 pn0 pc0) rfl (by kernel_rfl)  (fun w' hw' => y_load rfl ((box_load Ag60 Sz60 hb2 [(.int .i64 a_.1)] [(.slice pa0 pn0 pc0)] [] rfl rfl (fun _ => rfl)) w' hw')) hS ?_
        refine x_p 4 (.int .i64 k20) rfl (by kernel_rfl)  (fun _ => y_move rfl) (fun _ => hS) ?_
        obtain ⟨x25, hx25, hs⟩ := bind_some hs
        obtain ⟨b26, o26, hp26, ha26⟩ := rs_idx Sl60 Sz82 h0 hx25
        refine x_p 5 (.pointer (some ⟨b26, o26, none⟩)) rfl (by kernel_rfl)  (fun _ => hp26 _ _ _ _ _ _ _ _ _ rfl rfl) (fun _ => hS) ?_
        obtain ⟨v27, hl27, hv27⟩ := at_load Ag82 Sz82 (by intro h; cases h) ha26
        obtain ⟨cs27, rfl, hr27⟩ := hv27
        obtain ⟨cc27x1, cd27x1, rfl, hh27x1, ht27x1⟩ := pr_open hr27
        obtain rfl := int_rel hh27x1
        obtain ⟨a27x2, n27x2, c27x2, rfl, hv27x2⟩ := rs_rel ht27x1
        refine x_l 6 (.agg #[(.int .i64 x25.1), (.slice a27x2 n27x2 c27x2)]) rfl (by kernel_rfl)  (fun w' hw' => y_load rfl (hl27 w' hw')) hS ?_
        refine x_one (i := 7) (by kernel_rfl) ?_
        obtain ⟨r30, hr30, hs⟩ := bind_some hs
        refine xk_call (b := false) rfl  Bd153 rfl (c_spec_l2Op (M := M) a_.1 (x25.1, x25.2) hv27x2 hO.fut hr30) rfl (by rintro _ _ _ ⟨rfl, hC29⟩; exact hS.ext hC29) ?_
        rintro _ w29 ⟨rfl, hC29⟩
        have h0 := h0.ext hC29
        have hb2 := hb2.chg hC29 (fun h => nomatch h)
        have hv27x2 := hv27x2.ext hC29
        have hC := hC.ext hC29
        have hO := hO.ext hC29
        have hS := hS.ext hC29
        refine x_p 8 (.bool (!r30)) rfl (by kernel_rfl)  (fun _ => y_not rfl) (fun _ => hS) ?_
        refine x_end (by kernel_rfl) ?_
        clear hS
        rcases bif_some hs with ⟨hc31, hs⟩ | ⟨hc31, hs⟩
        · skip
          refine c_condT (congrArg Value.bool hc31) ?_
          refine c_seq ?_
          refine c_region ?_
          refine pl_val (.bool false) (y_assign rfl) ?_
          refine c_nil ?_
          refine wp_ret ?_
          cases hs
          exact ⟨_, fr_ovl 30 ⟨rfl, trivial⟩, hC⟩
        · skip
          refine c_condF (congrArg Value.bool hc31) ?_
          refine wp_skip ?_
          refine c_region ?_
          refine pl_val (.int .i64 k20) (y_move rfl) ?_
          refine pl_val (.int .i64 (w64 (k20 + 1))) (y_add rfl rfl) ?_
          refine pl_val (.int .i64 (w64 (k20 + 1))) (y_assign rfl) ?_
          refine c_nil ?_
          cases hs
          exact ⟨_, fr_ovl 30 ⟨rfl, congrArg (Value.int .i64) hw, trivial⟩, hC, hO, h0, hb2⟩
      · skip
        exact ⟨_, fr_ovl 30 ⟨rfl, rfl, trivial⟩, hC, hO, h0, hb2⟩
      · cases o22 with
        | nx _ => exact True.intro
        | rt r_ =>
          have hs := after_rt hs
          intro a1 w1 hK
          cases hs
          exact hK
        | br s18 =>
          have hs := after_br hs
          rintro a1 w19 ⟨σ, rfl, hC, hO, h0, hb2⟩
          refine c_seq ?_
          refine c_region ?_
          refine pl_val (.bool true) (y_assign rfl) ?_
          refine c_nil ?_
          refine wp_ret ?_
          cases hs
          exact ⟨_, fr_ovl 30 ⟨rfl, trivial⟩, hC⟩

def k_spec_l2Elements (M : Nat → Prop) (w0 : World) (r : Bool) (a : Act) (w : World) : Prop :=
  ∃ (σ : Nat → Value) , a = fr 20 (ovl σ [(4, (.bool r))]) ∧ Chg [] w0 w
def s_spec_l2Elements (n : Int) (list : List Int) : Option (Bool) :=
  (forC (S := Unit) (R := Bool) (fun k9 s7 =>
  (idx list k9).bind fun x13 =>
  (s_spec_l1In x13 0 (w64 (n - 1))).bind fun r16 =>
  (bif (!r16) then some (.rt false) else some (.nx ()))) 0 (list.length : Int) ()).bind fun o11 => after o11 (fun r_ => some r_) (fun s7 =>
  some true)
set_option maxHeartbeats 4000000 in
theorem c_spec_l2Elements {M : Nat → Prop} {w : World} {pa0 : Option Addr} {pn0 pc0 : Nat} (n : Int) (list : List Int) (h0 : (RT.rs (RT.int .i64)).val M w (.slice pa0 pn0 pc0) list ([])) (hM : ∀ g, w.heap.size ≤ g → M g) {r : Bool} (hs : s_spec_l2Elements n list = some r) :
    Gives Try.prog 109 [(.int .i64 n), (.slice pa0 pn0 pc0)] w (fun v w' => v = (.bool r) ∧ Chg [] w w') := by
  refine calls_fr Try.func109 rfl Try.ntmps109 (Nat.le_of_ble_eq_true rfl) ?_
  have hO := Own.start (N := Nw w []) hM Nw.fut
  have hC := Chg.refl [] w
  unfold s_spec_l2Elements at hs
  refine wp_mono (Q := KPost (k_spec_l2Elements M w r)) ?_ (fun e a w1 h => ?_)
  rotate_left
  · cases e
    case ret =>
      obtain ⟨σ, rfl, hrest⟩ := h
      exact ret1x Try.results109 (res_tmp rfl) ⟨rfl, hrest⟩
    all_goals exact (h : False).elim
  refine c_seq ?_
  refine c_region ?_
  refine pl_val (.bool false) (y_assign rfl) ?_
  refine c_nil ?_
  refine c_seq ?_
  refine c_seq ?_
  refine c_region ?_
  refine pl_val (.int .i64 0) (y_assign rfl) ?_
  refine c_nil ?_
  obtain ⟨o11, hl12, hs⟩ := bind_some hs
  refine wp_block ?_
  refine wp_forC (id := 0) (list.length : Int) (I := fun k9 s7 a w8 => ∃ (σ : Nat → Value), a = fr 20 (ovl σ [(0, (.int .i64 n)), (1, (.slice pa0 pn0 pc0)), (5, (.int .i64 k9))]) ∧ Chg [] w w8 ∧ Own (Nw w []) M w8 ([]) ∧ (RT.rs (RT.int .i64)).val M w8 (.slice pa0 pn0 pc0) list ([])) (J := fun s7 a w8 => ∃ (σ : Nat → Value), a = fr 20 (ovl σ []) ∧ Chg [] w w8 ∧ Own (Nw w []) M w8 ([]) ∧ (RT.rs (RT.int .i64)).val M w8 (.slice pa0 pn0 pc0) list ([])) (K := (k_spec_l2Elements M w)) ?_ ?_ 0 () o11 _ _ ?_ hl12 ?_
  · rintro k9 s7 a w8 ⟨σ, rfl, hC, hO, h0⟩ hlt
    refine c_seq ?_
    refine c_seq ?_
    refine c_region ?_
    refine pl_val (.int .i64 k9) (y_move rfl) ?_
    refine pl_val (.slice pa0 pn0 pc0) (y_move rfl) ?_
    refine pl_val (.int .i64 (list.length : Int)) (y_len' Sl22 (rs_len h0) rfl) ?_
    refine pl_val (.bool (decide (k9 < (list.length : Int)))) (y_lss rfl rfl) ?_
    refine c_nil ?_
    refine c_condF (congrArg Value.bool (decide_eq_false hlt)) ?_
    refine wp_exit ?_
    exact ⟨rfl, _, fr_ovl 20 trivial, hC, hO, h0⟩
  · rintro k9 s7 o11 a w8 ⟨σ, rfl, hC, hO, h0⟩ hlt hw hs
    refine c_seq ?_
    refine c_seq ?_
    refine c_region ?_
    refine pl_val (.int .i64 k9) (y_move rfl) ?_
    refine pl_val (.slice pa0 pn0 pc0) (y_move rfl) ?_
    refine pl_val (.int .i64 (list.length : Int)) (y_len' Sl22 (rs_len h0) rfl) ?_
    refine pl_val (.bool (decide (k9 < (list.length : Int)))) (y_lss rfl rfl) ?_
    refine c_nil ?_
    refine c_condT (congrArg Value.bool (decide_eq_true hlt)) ?_
    refine wp_skip ?_
    refine c_seq ?_
    refine wp_block ?_
    refine c_seq ?_
    refine c_region ?_
    refine pl_val (.slice pa0 pn0 pc0) (y_move rfl) ?_
    refine pl_val (.int .i64 k9) (y_move rfl) ?_
    obtain ⟨x13, hx13, hs⟩ := bind_some hs
    obtain ⟨b14, o14, hp14, ha14⟩ := rs_idx Sl22 Sz3 h0 hx13
    refine pl_val (.pointer (some ⟨b14, o14, none⟩)) (hp14 _ _ _ _ _ _ _ _ _ rfl rfl) ?_
    refine pl_val (.int .i64 x13) (y_load rfl ((at_load_int Ag3 Sz3 ha14) _ (Chg.refl _ _))) ?_
    refine pl_val (.int .i64 n) (y_move rfl) ?_
    refine pl_val (.int .i64 (w64 (n - 1))) (y_sub rfl rfl) ?_
    obtain ⟨r16, hr16, hs⟩ := bind_some hs
    refine pl_call Bd137 rfl (c_spec_l1In (M := M) x13 0 (w64 (n - 1))  hO.fut hr16) ?_
    rintro _ w15 ⟨rfl, hC15⟩
    have h0 := h0.ext hC15
    have hC := hC.ext hC15
    have hO := hO.ext hC15
    refine pl_val (.bool (!r16)) (y_not rfl) ?_
    refine c_nil ?_
    rcases bif_some hs with ⟨hc17, hs⟩ | ⟨hc17, hs⟩
    · skip
      refine c_condT (congrArg Value.bool hc17) ?_
      refine c_seq ?_
      refine c_region ?_
      refine pl_val (.bool false) (y_assign rfl) ?_
      refine c_nil ?_
      refine wp_ret ?_
      cases hs
      exact ⟨_, fr_ovl 20 ⟨rfl, trivial⟩, hC⟩
    · skip
      refine c_condF (congrArg Value.bool hc17) ?_
      refine wp_skip ?_
      refine c_region ?_
      refine pl_val (.int .i64 k9) (y_move rfl) ?_
      refine pl_val (.int .i64 (w64 (k9 + 1))) (y_add rfl rfl) ?_
      refine pl_val (.int .i64 (w64 (k9 + 1))) (y_assign rfl) ?_
      refine c_nil ?_
      cases hs
      exact ⟨_, fr_ovl 20 ⟨rfl, rfl, congrArg (Value.int .i64) hw, trivial⟩, hC, hO, h0⟩
  · skip
    exact ⟨_, fr_ovl 20 ⟨rfl, rfl, rfl, trivial⟩, hC, hO, h0⟩
  · cases o11 with
    | nx _ => exact True.intro
    | rt r_ =>
      have hs := after_rt hs
      intro a1 w1 hK
      cases hs
      exact hK
    | br s7 =>
      have hs := after_br hs
      rintro a1 w8 ⟨σ, rfl, hC, hO, h0⟩
      refine c_seq ?_
      refine c_region ?_
      refine pl_val (.bool true) (y_assign rfl) ?_
      refine c_nil ?_
      refine wp_ret ?_
      cases hs
      exact ⟨_, fr_ovl 20 ⟨rfl, trivial⟩, hC⟩

def k_spec_l6Partition (M : Nat → Prop) (w0 : World) (r : Bool) (a : Act) (w : World) : Prop :=
  ∃ (σ : Nat → Value) , a = fr 36 (ovl σ [(4, (.bool r))]) ∧ Chg [] w0 w
def s_spec_l6Partition (n : Int) (p : List Int) : Option (Bool) :=
  (bif ((p.length : Int) != n) then some false else (forC (S := Unit) (R := Bool) (fun k22 s20 =>
  (idx p k22).bind fun x27 =>
  (s_spec_l1In x27 0 k22).bind fun r30 =>
  (bif (!r30) then some (.rt false) else (idx p k22).bind fun x32 =>
  (idx p k22).bind fun x34 =>
  (idx p x32).bind fun x36 =>
  (bif (x36 != x34) then some (.rt false) else some (.nx ())))) 0 n ()).bind fun o24 => after o24 (fun r_ => some r_) (fun s20 =>
  some true))
set_option maxHeartbeats 4000000 in
theorem c_spec_l6Partition {M : Nat → Prop} {w : World} {pa0 : Option Addr} {pn0 pc0 : Nat} (n : Int) (p : List Int) (h0 : (RT.rs (RT.int .i64)).val M w (.slice pa0 pn0 pc0) p ([])) (hM : ∀ g, w.heap.size ≤ g → M g) {r : Bool} (hs : s_spec_l6Partition n p = some r) :
    Gives Try.prog 110 [(.int .i64 n), (.slice pa0 pn0 pc0)] w (fun v w' => v = (.bool r) ∧ Chg [] w w') := by
  refine calls_fr Try.func110 rfl Try.ntmps110 (Nat.le_of_ble_eq_true rfl) ?_
  have hO := Own.start (N := Nw w []) hM Nw.fut
  have hC := Chg.refl [] w
  unfold s_spec_l6Partition at hs
  refine wp_mono (Q := KPost (k_spec_l6Partition M w r)) ?_ (fun e a w1 h => ?_)
  rotate_left
  · cases e
    case ret =>
      obtain ⟨σ, rfl, hrest⟩ := h
      exact ret1x Try.results110 (res_tmp rfl) ⟨rfl, hrest⟩
    all_goals exact (h : False).elim
  refine c_seq ?_
  refine c_region ?_
  refine pl_val (.bool false) (y_assign rfl) ?_
  refine c_nil ?_
  refine c_seq ?_
  refine c_seq ?_
  refine c_region ?_
  refine pl_val (.slice pa0 pn0 pc0) (y_move rfl) ?_
  refine pl_val (.int .i64 (p.length : Int)) (y_len' Sl22 (rs_len h0) rfl) ?_
  refine pl_val (.int .i64 n) (y_move rfl) ?_
  refine pl_val (.bool ((p.length : Int) != n)) (y_neq rfl rfl) ?_
  refine c_nil ?_
  rcases bif_some hs with ⟨hc2, hs⟩ | ⟨hc2, hs⟩
  · skip
    refine c_condT (congrArg Value.bool hc2) ?_
    refine c_seq ?_
    refine c_region ?_
    refine pl_val (.bool false) (y_assign rfl) ?_
    refine c_nil ?_
    refine wp_ret ?_
    cases hs
    exact ⟨_, fr_ovl 36 ⟨rfl, trivial⟩, hC⟩
  · skip
    refine c_condF (congrArg Value.bool hc2) ?_
    refine wp_skip ?_
    refine c_seq ?_
    refine c_seq ?_
    refine c_region ?_
    refine pl_val (.int .i64 0) (y_assign rfl) ?_
    refine c_nil ?_
    obtain ⟨o24, hl25, hs⟩ := bind_some hs
    refine wp_block ?_
    refine wp_forC (id := 0) n (I := fun k22 s20 a w21 => ∃ (σ : Nat → Value), a = fr 36 (ovl σ [(0, (.int .i64 n)), (1, (.slice pa0 pn0 pc0)), (5, (.int .i64 k22))]) ∧ Chg [] w w21 ∧ Own (Nw w []) M w21 ([]) ∧ (RT.rs (RT.int .i64)).val M w21 (.slice pa0 pn0 pc0) p ([])) (J := fun s20 a w21 => ∃ (σ : Nat → Value), a = fr 36 (ovl σ []) ∧ Chg [] w w21 ∧ Own (Nw w []) M w21 ([]) ∧ (RT.rs (RT.int .i64)).val M w21 (.slice pa0 pn0 pc0) p ([])) (K := (k_spec_l6Partition M w)) ?_ ?_ 0 () o24 _ _ ?_ hl25 ?_
    · rintro k22 s20 a w21 ⟨σ, rfl, hC, hO, h0⟩ hlt
      refine c_seq ?_
      refine c_seq ?_
      refine c_region ?_
      refine pl_val (.int .i64 k22) (y_move rfl) ?_
      refine pl_val (.int .i64 n) (y_move rfl) ?_
      refine pl_val (.bool (decide (k22 < n))) (y_lss rfl rfl) ?_
      refine c_nil ?_
      refine c_condF (congrArg Value.bool (decide_eq_false hlt)) ?_
      refine wp_exit ?_
      exact ⟨rfl, _, fr_ovl 36 trivial, hC, hO, h0⟩
    · rintro k22 s20 o24 a w21 ⟨σ, rfl, hC, hO, h0⟩ hlt hw hs
      refine c_seq ?_
      refine c_seq ?_
      refine c_region ?_
      refine pl_val (.int .i64 k22) (y_move rfl) ?_
      refine pl_val (.int .i64 n) (y_move rfl) ?_
      refine pl_val (.bool (decide (k22 < n))) (y_lss rfl rfl) ?_
      refine c_nil ?_
      refine c_condT (congrArg Value.bool (decide_eq_true hlt)) ?_
      refine wp_skip ?_
      refine c_seq ?_
      refine wp_block ?_
      refine c_seq ?_
      refine x_start [] Mx rfl ?_
      have hCw26 := Chg.drew w21
      generalize World.drew w21 = w26 at hCw26 ⊢
      have h0 := h0.ext hCw26
      have hC := hC.ext hCw26
      have hO := hO.ext hCw26
      have hS := Chg.refl [] w26
      refine x_p 0 (.slice pa0 pn0 pc0) rfl (by kernel_rfl)  (fun _ => y_move rfl) (fun _ => hS) ?_
      refine x_p 1 (.int .i64 k22) rfl (by kernel_rfl)  (fun _ => y_move rfl) (fun _ => hS) ?_
      obtain ⟨x27, hx27, hs⟩ := bind_some hs
      obtain ⟨b28, o28, hp28, ha28⟩ := rs_idx Sl22 Sz3 h0 hx27
      refine x_p 2 (.pointer (some ⟨b28, o28, none⟩)) rfl (by kernel_rfl)  (fun _ => hp28 _ _ _ _ _ _ _ _ _ rfl rfl) (fun _ => hS) ?_
      refine x_l 3 (.int .i64 x27) rfl (by kernel_rfl)  (fun w' hw' => y_load rfl ((at_load_int Ag3 Sz3 ha28) w' hw')) hS ?_
      refine x_p 4 (.int .i64 k22) rfl (by kernel_rfl)  (fun _ => y_move rfl) (fun _ => hS) ?_
      refine x_one (i := 5) (by kernel_rfl) ?_
      obtain ⟨r30, hr30, hs⟩ := bind_some hs
      refine xk_call (b := false) rfl  Bd137 rfl (c_spec_l1In (M := M) x27 0 k22  hO.fut hr30) rfl (by rintro _ _ _ ⟨rfl, hC29⟩; exact hS.ext hC29) ?_
      rintro _ w29 ⟨rfl, hC29⟩
      have h0 := h0.ext hC29
      have hC := hC.ext hC29
      have hO := hO.ext hC29
      have hS := hS.ext hC29
      refine x_p 6 (.bool (!r30)) rfl (by kernel_rfl)  (fun _ => y_not rfl) (fun _ => hS) ?_
      refine x_p 7 (.bool (!r30)) rfl (by kernel_rfl)  (fun _ => y_move rfl) (fun _ => hS) ?_
      rcases bif_some hs with ⟨hc31, hs⟩ | ⟨hc31, hs⟩
      · skip
        refine x_pn 8 rfl (by kernel_rfl) (tg := 22) (by kernel_rfl) (congrArg Value.bool hc31) (fun _ => hS) ?_
        refine x_pn 9 rfl (by kernel_rfl) (tg := 22) (by kernel_rfl) (congrArg Value.bool hc31) (fun _ => hS) ?_
        refine x_pn 10 rfl (by kernel_rfl) (tg := 22) (by kernel_rfl) (congrArg Value.bool hc31) (fun _ => hS) ?_
        refine x_pn 11 rfl (by kernel_rfl) (tg := 22) (by kernel_rfl) (congrArg Value.bool hc31) (fun _ => hS) ?_
        refine x_pn 12 rfl (by kernel_rfl) (tg := 22) (by kernel_rfl) (congrArg Value.bool hc31) (fun _ => hS) ?_
        refine x_pn 13 rfl (by kernel_rfl) (tg := 22) (by kernel_rfl) (congrArg Value.bool hc31) (fun _ => hS) ?_
        refine x_pn 14 rfl (by kernel_rfl) (tg := 22) (by kernel_rfl) (congrArg Value.bool hc31) (fun _ => hS) ?_
        refine x_pn 15 rfl (by kernel_rfl) (tg := 22) (by kernel_rfl) (congrArg Value.bool hc31) (fun _ => hS) ?_
        refine x_pn 16 rfl (by kernel_rfl) (tg := 22) (by kernel_rfl) (congrArg Value.bool hc31) (fun _ => hS) ?_
        refine x_pn 17 rfl (by kernel_rfl) (tg := 22) (by kernel_rfl) (congrArg Value.bool hc31) (fun _ => hS) ?_
        refine x_pn 18 rfl (by kernel_rfl) (tg := 22) (by kernel_rfl) (congrArg Value.bool hc31) (fun _ => hS) ?_
        refine x_pn 19 rfl (by kernel_rfl) (tg := 22) (by kernel_rfl) (congrArg Value.bool hc31) (fun _ => hS) ?_
        refine x_p 20 (.bool true) rfl (by kernel_rfl)  (fun _ => y_pick_t (congrArg Value.bool hc31) rfl) (fun _ => hS) ?_
        refine x_end (by kernel_rfl) ?_
        clear hS
        refine c_condT (by rfl) ?_
        refine c_seq ?_
        refine c_region ?_
        refine pl_val (.bool false) (y_assign rfl) ?_
        refine c_nil ?_
        refine wp_ret ?_
        cases hs
        exact ⟨_, fr_ovl 36 ⟨rfl, trivial⟩, hC⟩
      · skip
        refine x_py 8 (.slice pa0 pn0 pc0) rfl (by kernel_rfl) (tg := 22) (by kernel_rfl) (congrArg Value.bool hc31) (fun _ => y_move rfl) (fun _ => hS) ?_
        refine x_py 9 (.slice pa0 pn0 pc0) rfl (by kernel_rfl) (tg := 22) (by kernel_rfl) (congrArg Value.bool hc31) (fun _ => y_move rfl) (fun _ => hS) ?_
        refine x_py 10 (.int .i64 k22) rfl (by kernel_rfl) (tg := 22) (by kernel_rfl) (congrArg Value.bool hc31) (fun _ => y_move rfl) (fun _ => hS) ?_
        obtain ⟨x32, hx32, hs⟩ := bind_some hs
        obtain ⟨b33, o33, hp33, ha33⟩ := rs_idx Sl22 Sz3 h0 hx32
        refine x_py 11 (.pointer (some ⟨b33, o33, none⟩)) rfl (by kernel_rfl) (tg := 22) (by kernel_rfl) (congrArg Value.bool hc31) (fun _ => hp33 _ _ _ _ _ _ _ _ _ rfl rfl) (fun _ => hS) ?_
        refine x_py 15 (.slice pa0 pn0 pc0) rfl (by kernel_rfl) (tg := 22) (by kernel_rfl) (congrArg Value.bool hc31) (fun _ => y_move rfl) (fun _ => hS) ?_
        refine x_py 16 (.int .i64 k22) rfl (by kernel_rfl) (tg := 22) (by kernel_rfl) (congrArg Value.bool hc31) (fun _ => y_move rfl) (fun _ => hS) ?_
        obtain ⟨x34, hx34, hs⟩ := bind_some hs
        obtain ⟨b35, o35, hp35, ha35⟩ := rs_idx Sl22 Sz3 h0 hx34
        refine x_py 17 (.pointer (some ⟨b35, o35, none⟩)) rfl (by kernel_rfl) (tg := 22) (by kernel_rfl) (congrArg Value.bool hc31) (fun _ => hp35 _ _ _ _ _ _ _ _ _ rfl rfl) (fun _ => hS) ?_
        refine x_two (i := 12) (j := 18) (by kernel_rfl) ?_ ?_
        · skip
          refine xk_valy (b := false) (.int .i64 x32) rfl (tg := 22) (by kernel_rfl) (congrArg Value.bool hc31) (y_load rfl ((at_load_int Ag3 Sz3 ha33) _ (Chg.refl _ _))) rfl (fun _ => hS) ?_
          obtain ⟨x36, hx36, hs⟩ := bind_some hs
          obtain ⟨b37, o37, hp37, ha37⟩ := rs_idx Sl22 Sz3 h0 hx36
          refine x_py 13 (.pointer (some ⟨b37, o37, none⟩)) rfl (by kernel_rfl) (tg := 22) (by kernel_rfl) (congrArg Value.bool hc31) (fun _ => hp37 _ _ _ _ _ _ _ _ _ rfl rfl) (fun _ => hS) ?_
          refine x_two (i := 14) (j := 18) (by kernel_rfl) ?_ ?_
          · skip
            refine xk_valy (b := false) (.int .i64 x36) rfl (tg := 22) (by kernel_rfl) (congrArg Value.bool hc31) (y_load rfl ((at_load_int Ag3 Sz3 ha37) _ (Chg.refl _ _))) rfl (fun _ => hS) ?_
            refine x_one (i := 18) (by kernel_rfl) ?_
            refine xk_valy (b := false) (.int .i64 x34) rfl (tg := 22) (by kernel_rfl) (congrArg Value.bool hc31) (y_load rfl ((at_load_int Ag3 Sz3 ha35) _ (Chg.refl _ _))) rfl (fun _ => hS) ?_
            refine x_py 19 (.bool (x36 != x34)) rfl (by kernel_rfl) (tg := 22) (by kernel_rfl) (congrArg Value.bool hc31) (fun _ => y_neq rfl rfl) (fun _ => hS) ?_
            refine x_p 20 (.bool (x36 != x34)) rfl (by kernel_rfl)  (fun _ => y_pick_f (congrArg Value.bool hc31) rfl) (fun _ => hS) ?_
            refine x_end (by kernel_rfl) ?_
            clear hS
            rcases bif_some hs with ⟨hc38, hs⟩ | ⟨hc38, hs⟩
            · skip
              refine c_condT (congrArg Value.bool hc38) ?_
              refine c_seq ?_
              refine c_region ?_
              refine pl_val (.bool false) (y_assign rfl) ?_
              refine c_nil ?_
              refine wp_ret ?_
              cases hs
              exact ⟨_, fr_ovl 36 ⟨rfl, trivial⟩, hC⟩
            · skip
              refine c_condF (congrArg Value.bool hc38) ?_
              refine wp_skip ?_
              refine c_region ?_
              refine pl_val (.int .i64 k22) (y_move rfl) ?_
              refine pl_val (.int .i64 (w64 (k22 + 1))) (y_add rfl rfl) ?_
              refine pl_val (.int .i64 (w64 (k22 + 1))) (y_assign rfl) ?_
              refine c_nil ?_
              cases hs
              exact ⟨_, fr_ovl 36 ⟨rfl, rfl, congrArg (Value.int .i64) hw, trivial⟩, hC, hO, h0⟩
          · skip
            refine xk_valy (b := false) (.int .i64 x34) rfl (tg := 22) (by kernel_rfl) (congrArg Value.bool hc31) (y_load rfl ((at_load_int Ag3 Sz3 ha35) _ (Chg.refl _ _))) rfl (fun _ => hS) ?_
            refine x_one (i := 14) (by kernel_rfl) ?_
            refine xk_valy (b := false) (.int .i64 x36) rfl (tg := 22) (by kernel_rfl) (congrArg Value.bool hc31) (y_load rfl ((at_load_int Ag3 Sz3 ha37) _ (Chg.refl _ _))) rfl (fun _ => hS) ?_
            refine x_py 19 (.bool (x36 != x34)) rfl (by kernel_rfl) (tg := 22) (by kernel_rfl) (congrArg Value.bool hc31) (fun _ => y_neq rfl rfl) (fun _ => hS) ?_
            refine x_p 20 (.bool (x36 != x34)) rfl (by kernel_rfl)  (fun _ => y_pick_f (congrArg Value.bool hc31) rfl) (fun _ => hS) ?_
            refine x_end (by kernel_rfl) ?_
            clear hS
            rcases bif_some hs with ⟨hc39, hs⟩ | ⟨hc39, hs⟩
            · skip
              refine c_condT (congrArg Value.bool hc39) ?_
              refine c_seq ?_
              refine c_region ?_
              refine pl_val (.bool false) (y_assign rfl) ?_
              refine c_nil ?_
              refine wp_ret ?_
              cases hs
              exact ⟨_, fr_ovl 36 ⟨rfl, trivial⟩, hC⟩
            · skip
              refine c_condF (congrArg Value.bool hc39) ?_
              refine wp_skip ?_
              refine c_region ?_
              refine pl_val (.int .i64 k22) (y_move rfl) ?_
              refine pl_val (.int .i64 (w64 (k22 + 1))) (y_add rfl rfl) ?_
              refine pl_val (.int .i64 (w64 (k22 + 1))) (y_assign rfl) ?_
              refine c_nil ?_
              cases hs
              exact ⟨_, fr_ovl 36 ⟨rfl, rfl, congrArg (Value.int .i64) hw, trivial⟩, hC, hO, h0⟩
        · skip
          refine xk_valy (b := false) (.int .i64 x34) rfl (tg := 22) (by kernel_rfl) (congrArg Value.bool hc31) (y_load rfl ((at_load_int Ag3 Sz3 ha35) _ (Chg.refl _ _))) rfl (fun _ => hS) ?_
          refine x_one (i := 12) (by kernel_rfl) ?_
          refine xk_valy (b := false) (.int .i64 x32) rfl (tg := 22) (by kernel_rfl) (congrArg Value.bool hc31) (y_load rfl ((at_load_int Ag3 Sz3 ha33) _ (Chg.refl _ _))) rfl (fun _ => hS) ?_
          obtain ⟨x36, hx36, hs⟩ := bind_some hs
          obtain ⟨b41, o41, hp41, ha41⟩ := rs_idx Sl22 Sz3 h0 hx36
          refine x_py 13 (.pointer (some ⟨b41, o41, none⟩)) rfl (by kernel_rfl) (tg := 22) (by kernel_rfl) (congrArg Value.bool hc31) (fun _ => hp41 _ _ _ _ _ _ _ _ _ rfl rfl) (fun _ => hS) ?_
          refine x_one (i := 14) (by kernel_rfl) ?_
          refine xk_valy (b := false) (.int .i64 x36) rfl (tg := 22) (by kernel_rfl) (congrArg Value.bool hc31) (y_load rfl ((at_load_int Ag3 Sz3 ha41) _ (Chg.refl _ _))) rfl (fun _ => hS) ?_
          refine x_py 19 (.bool (x36 != x34)) rfl (by kernel_rfl) (tg := 22) (by kernel_rfl) (congrArg Value.bool hc31) (fun _ => y_neq rfl rfl) (fun _ => hS) ?_
          refine x_p 20 (.bool (x36 != x34)) rfl (by kernel_rfl)  (fun _ => y_pick_f (congrArg Value.bool hc31) rfl) (fun _ => hS) ?_
          refine x_end (by kernel_rfl) ?_
          clear hS
          rcases bif_some hs with ⟨hc42, hs⟩ | ⟨hc42, hs⟩
          · skip
            refine c_condT (congrArg Value.bool hc42) ?_
            refine c_seq ?_
            refine c_region ?_
            refine pl_val (.bool false) (y_assign rfl) ?_
            refine c_nil ?_
            refine wp_ret ?_
            cases hs
            exact ⟨_, fr_ovl 36 ⟨rfl, trivial⟩, hC⟩
          · skip
            refine c_condF (congrArg Value.bool hc42) ?_
            refine wp_skip ?_
            refine c_region ?_
            refine pl_val (.int .i64 k22) (y_move rfl) ?_
            refine pl_val (.int .i64 (w64 (k22 + 1))) (y_add rfl rfl) ?_
            refine pl_val (.int .i64 (w64 (k22 + 1))) (y_assign rfl) ?_
            refine c_nil ?_
            cases hs
            exact ⟨_, fr_ovl 36 ⟨rfl, rfl, congrArg (Value.int .i64) hw, trivial⟩, hC, hO, h0⟩
    · skip
      exact ⟨_, fr_ovl 36 ⟨rfl, rfl, rfl, trivial⟩, hC, hO, h0⟩
    · cases o24 with
      | nx _ => exact True.intro
      | rt r_ =>
        have hs := after_rt hs
        intro a1 w1 hK
        cases hs
        exact hK
      | br s20 =>
        have hs := after_br hs
        rintro a1 w21 ⟨σ, rfl, hC, hO, h0⟩
        refine c_seq ?_
        refine c_region ?_
        refine pl_val (.bool true) (y_assign rfl) ?_
        refine c_nil ?_
        refine wp_ret ?_
        cases hs
        exact ⟨_, fr_ovl 36 ⟨rfl, trivial⟩, hC⟩

def k_spec_l1Own (M : Nat → Prop) (w0 : World) (r : (List Int)) (a : Act) (w : World) : Prop :=
  ∃ (σ : Nat → Value) (ra0 : Option Addr) (rn0 rc0 : Nat) (rf0 : List Nat), a = fr 6 (ovl σ [(2, (.slice ra0 rn0 rc0))]) ∧ Chg [] w0 w ∧ (RT.os 3 (RT.int .i64)).val M w (.slice ra0 rn0 rc0) r rf0 ∧ Own (Nw w0 []) (fun _ => True) w (rf0 ++ ([]))
def s_spec_l1Own (l : List Int) : Option ((List Int)) :=
  (app ([]) l).bind fun y5 =>
  some y5
set_option maxHeartbeats 4000000 in
theorem c_spec_l1Own {M : Nat → Prop} {w : World} {pa0 : Option Addr} {pn0 pc0 : Nat} (l : List Int) (h0 : (RT.rs (RT.int .i64)).val M w (.slice pa0 pn0 pc0) l ([])) (hM : ∀ g, w.heap.size ≤ g → M g) {r : (List Int)} (hs : s_spec_l1Own l = some r) :
    Gives Try.prog 169 [(.slice pa0 pn0 pc0)] w (fun v w' => ∃ (ra0 : Option Addr) (rn0 rc0 : Nat) (rf0 : List Nat), v = (.slice ra0 rn0 rc0) ∧ Chg [] w w' ∧ (RT.os 3 (RT.int .i64)).val M w' (.slice ra0 rn0 rc0) r rf0 ∧ Own (Nw w []) (fun _ => True) w' (rf0 ++ ([]))) := by
  refine calls_fr Try.func169 rfl Try.ntmps169 (Nat.le_of_ble_eq_true rfl) ?_
  have hO := Own.start (N := Nw w []) hM Nw.fut
  have hC := Chg.refl [] w
  unfold s_spec_l1Own at hs
  refine wp_mono (Q := KPost (k_spec_l1Own M w r)) ?_ (fun e a w1 h => ?_)
  rotate_left
  · cases e
    case ret =>
      obtain ⟨σ, ra0, rn0, rc0, rf0, rfl, hrest⟩ := h
      exact ret1x Try.results169 (res_tmp rfl) ⟨ra0, rn0, rc0, rf0, rfl, hrest⟩
    all_goals exact (h : False).elim
  refine c_seq ?_
  refine c_region ?_
  refine pl_val (.slice none 0 0) (y_assign rfl) ?_
  refine c_nil ?_
  refine c_seq ?_
  refine c_region ?_
  obtain ⟨w2, g2, ew2, eg2, hC2, hb2⟩ := new_block w [] 3
  refine pl_val (w' := w2) (.slice (some ⟨g2, 0, none⟩) 0 0) (y_bslice rfl (by rw [ew2, eg2]; kernel_rfl)) ?_
  have h0 := h0.ext hC2
  have hC := hC.ext hC2
  have hO := hO.new (X' := [g2]) hC2 (fun q hq => by rw [List.mem_singleton.1 hq, eg2]; exact Nat.le_refl _) (List.nodup_cons.2 ⟨(fun h => nomatch h), List.nodup_nil⟩) (fun q hq => by rw [List.mem_singleton.1 hq]; exact hb2.lt)
  have hv2 := os_of_box (r := (RT.int .i64)) (M := M) (css := []) (fps := []) (xs := ([] : List Int)) hb2 trivial (Nat.zero_le _) (List.nodup_cons.2 ⟨(fun h => nomatch h), List.nodup_nil⟩)
  have hv2 : (RT.os 3 (RT.int .i64)).val M w2 (.slice (some ⟨g2, 0, none⟩) 0 0) [] [g2] := hv2
  refine pl_val (.slice pa0 pn0 pc0) (y_move rfl) ?_
  obtain ⟨y5, hy5, hs⟩ := bind_some hs
  obtain ⟨a4, n4, c4, w4, f4, hr4, hC4, hf4, hv4⟩ := app_rs Rw22 hy5 hv2 h0 hO.inM
  have hG4 := os_block hv2
  refine pl_val (w' := w4) (.slice a4 n4 c4) (y_append rfl rfl (hr4 _)) ?_
  have h0 := h0.mut hC4 (fun g hg => hO.inM g (hG4 g hg)) (fun _ _ h => nomatch h)
  have hC := hC.step hC4 (fun g hg => hO.inN g (hG4 g hg))
  have hO := hO.grow hC4 hf4 (os_nodup hv4) hv4.fpl
  refine pl_val (.slice a4 n4 c4) (y_assign rfl) ?_
  refine c_nil ?_
  refine wp_ret ?_
  cases hs
  exact ⟨_, a4, n4, c4, f4, fr_ovl 6 ⟨rfl, trivial⟩, hC, hv4, hO.top⟩

def k_spec_l2Args (M : Nat → Prop) (w0 : World) (r : (List Int)) (a : Act) (w : World) : Prop :=
  ∃ (σ : Nat → Value) (ra0 : Option Addr) (rn0 rc0 : Nat) (rf0 : List Nat), a = fr 27 (ovl σ [(6, (.slice ra0 rn0 rc0))]) ∧ Chg [] w0 w ∧ (RT.os 3 (RT.int .i64)).val M w (.slice ra0 rn0 rc0) r rf0 ∧ Own (Nw w0 []) (fun _ => True) w (rf0 ++ ([]))
def s_spec_l2Args (n : Int) (arity : Int) (at_ : Int) : Option ((List Int)) :=
  (mks arity (0 : Int)).bind fun y2 =>
  (iter (S := Int × Int × (List Int)) (R := (List Int)) (fun s17 =>
  (bif (decide (0 ≤ s17.2.1)) then (nz n).bind fun u26 =>
  (idx s17.2.2 s17.2.1).bind fun x27 =>
  (nz n).bind fun u30 =>
  some (.nx (w64 (Int.tdiv s17.1 n), w64 (s17.2.1 - 1), List.set s17.2.2 (Int.toNat s17.2.1) (Int.tmod s17.1 n))) else some (.br (s17.1, s17.2.1, s17.2.2)))) FU (at_, w64 (arity - 1), y2)).bind fun o21 => after o21 (fun r_ => some r_) (fun s17 =>
  some s17.2.2)
set_option maxHeartbeats 4000000 in
theorem c_spec_l2Args {M : Nat → Prop} {w : World}  (n : Int) (arity : Int) (at_ : Int)  (hM : ∀ g, w.heap.size ≤ g → M g) {r : (List Int)} (hs : s_spec_l2Args n arity at_ = some r) :
    Gives Try.prog 164 [(.int .i64 n), (.int .i64 arity), (.int .i64 at_)] w (fun v w' => ∃ (ra0 : Option Addr) (rn0 rc0 : Nat) (rf0 : List Nat), v = (.slice ra0 rn0 rc0) ∧ Chg [] w w' ∧ (RT.os 3 (RT.int .i64)).val M w' (.slice ra0 rn0 rc0) r rf0 ∧ Own (Nw w []) (fun _ => True) w' (rf0 ++ ([]))) := by
  refine calls_fr Try.func164 rfl Try.ntmps164 (Nat.le_of_ble_eq_true rfl) ?_
  have hO := Own.start (N := Nw w []) hM Nw.fut
  have hC := Chg.refl [] w
  unfold s_spec_l2Args at hs
  refine wp_mono (Q := KPost (k_spec_l2Args M w r)) ?_ (fun e a w1 h => ?_)
  rotate_left
  · cases e
    case ret =>
      obtain ⟨σ, ra0, rn0, rc0, rf0, rfl, hrest⟩ := h
      exact ret1x Try.results164 (res_tmp rfl) ⟨ra0, rn0, rc0, rf0, rfl, hrest⟩
    all_goals exact (h : False).elim
  refine c_seq ?_
  refine c_region ?_
  refine pl_val (.slice none 0 0) (y_assign rfl) ?_
  refine c_nil ?_
  refine c_seq ?_
  refine c_region ?_
  refine pl_val (.int .i64 arity) (y_move rfl) ?_
  obtain ⟨y2, hy2, hs⟩ := bind_some hs
  obtain ⟨a1, n1, c1, w1, f1, hm1, hC1, hfr1, hv1⟩ := mk_os (M := M) (w := w) (r := (RT.int .i64)) Rw22 hy2 (fun _ _ => ⟨rfl, rfl⟩)
  refine pl_val (w' := w1) (.slice a1 n1 c1) (y_make rfl rfl hm1) ?_
  have hC := hC.ext hC1
  have hO := hO.new hC1 hfr1 (os_nodup hv1) hv1.fpl
  refine pl_val (.slice a1 n1 c1) (y_assign rfl) ?_
  refine c_nil ?_
  refine c_seq ?_
  refine c_seq ?_
  refine c_region ?_
  refine pl_val (.int .i64 arity) (y_move rfl) ?_
  refine pl_val (.int .i64 (w64 (arity - 1))) (y_sub rfl rfl) ?_
  refine pl_val (.int .i64 (w64 (arity - 1))) (y_assign rfl) ?_
  refine c_nil ?_
  obtain ⟨o21, hl22, hs⟩ := bind_some hs
  refine wp_block ?_
  refine wp_iter (id := 0) (I := fun s17 a w18 => ∃ (σ : Nat → Value) (f23 : List Nat), a = fr 27 (ovl σ [(0, (.int .i64 n)), (2, (.int .i64 s17.1)), (7, (.slice a1 n1 c1)), (8, (.int .i64 s17.2.1))]) ∧ Chg [] w w18 ∧ Own (Nw w []) M w18 (f23 ++ []) ∧ (RT.os 3 (RT.int .i64)).val M w18 (.slice a1 n1 c1) s17.2.2 f23) (J := fun s17 a w18 => ∃ (σ : Nat → Value) (f24 : List Nat), a = fr 27 (ovl σ [(7, (.slice a1 n1 c1))]) ∧ Chg [] w w18 ∧ Own (Nw w []) M w18 (f24 ++ []) ∧ (RT.os 3 (RT.int .i64)).val M w18 (.slice a1 n1 c1) s17.2.2 f24) (K := (k_spec_l2Args M w)) ?_ FU (at_, w64 (arity - 1), y2) o21 _ _ ?_ hl22 ?_
  · rintro s17 o21 a w18 ⟨σ, f23, rfl, hC, hO, hv23⟩ hs
    refine c_seq ?_
    refine c_seq ?_
    refine c_region ?_
    refine pl_val (.int .i64 s17.2.1) (y_move rfl) ?_
    refine pl_val (.bool (decide (0 ≤ s17.2.1))) (y_geq rfl rfl) ?_
    refine c_nil ?_
    rcases bif_some hs with ⟨hc25, hs⟩ | ⟨hc25, hs⟩
    · skip
      refine c_condT (congrArg Value.bool hc25) ?_
      refine wp_skip ?_
      refine c_seq ?_
      refine wp_block ?_
      refine c_seq ?_
      refine c_region ?_
      refine pl_val (.slice a1 n1 c1) (y_move rfl) ?_
      refine pl_val (.int .i64 s17.2.1) (y_move rfl) ?_
      refine pl_val (.int .i64 s17.1) (y_move rfl) ?_
      refine pl_val (.int .i64 n) (y_move rfl) ?_
      obtain ⟨u26, hu26, hs⟩ := bind_some hs
      refine pl_val (.int .i64 (Int.tmod s17.1 n)) (y_rem rfl rfl (nz_ne hu26)) ?_
      obtain ⟨x27, hx27, hs⟩ := bind_some hs
      obtain ⟨g28, f28, hg28, hk28, hp28, ha28, hf28⟩ := os_idx Sl22 Sz3 hv23 hx27
      refine pl_val (.pointer (some ⟨g28, 0 + Int.toNat s17.2.1 * 1, none⟩)) (hp28 _ _ _ _ _ _ _ _ _ rfl rfl) ?_
      obtain ⟨w29, f29, hst29, hC29, hf29, hv29⟩ := os_store (P := Try.prog) (c' := [(.int .i64 (Int.tmod s17.1 n))]) hg28 hv23 hk28 (fun g hg => hO.inM g (os_block hv23 g (by simpa using hg))) ⟨rfl, rfl⟩ List.nodup_nil (fun _ h => nomatch h) (fun _ h => .inl h)
      have hG29 : ∀ q ∈ [g28], q ∈ f23 := fun q hq => os_block hv23 q (by rw [hg28]; exact hq)
      refine pl_skip (w' := w29) (ys_store rfl rfl (hst29 _ _ rfl Sz3)) ?_
      have hC := hC.step hC29 (fun g hg => hO.inN g (hG29 g hg))
      have hO := hO.grow hC29 (fun q hq => .inl ((hf29 q hq).resolve_right (fun h => nomatch h))) (os_nodup hv29) hv29.fpl
      refine c_nil ?_
      refine c_region ?_
      refine pl_val (.int .i64 s17.1) (y_move rfl) ?_
      refine pl_val (.int .i64 n) (y_move rfl) ?_
      obtain ⟨u30, hu30, hs⟩ := bind_some hs
      refine pl_val (.int .i64 (w64 (Int.tdiv s17.1 n))) (y_quo rfl rfl (nz_ne hu30)) ?_
      refine pl_val (.int .i64 (w64 (Int.tdiv s17.1 n))) (y_assign rfl) ?_
      refine c_nil ?_
      refine c_region ?_
      refine pl_val (.int .i64 s17.2.1) (y_move rfl) ?_
      refine pl_val (.int .i64 (w64 (s17.2.1 - 1))) (y_sub rfl rfl) ?_
      refine pl_val (.int .i64 (w64 (s17.2.1 - 1))) (y_assign rfl) ?_
      refine c_nil ?_
      cases hs
      exact ⟨_, f29, fr_ovl 27 ⟨rfl, rfl, rfl, rfl, trivial⟩, hC, hO, hv29⟩
    · skip
      refine c_condF (congrArg Value.bool hc25) ?_
      refine wp_exit ?_
      cases hs
      exact ⟨rfl, _, f23, fr_ovl 27 ⟨rfl, trivial⟩, hC, hO, hv23⟩
  · skip
    exact ⟨_, f1, fr_ovl 27 ⟨rfl, rfl, rfl, rfl, trivial⟩, hC, hO, hv1⟩
  · cases o21 with
    | nx _ => exact True.intro
    | rt r_ =>
      have hs := after_rt hs
      intro a1 w1 hK
      cases hs
      exact hK
    | br s17 =>
      have hs := after_br hs
      rintro a1 w18 ⟨σ, f24, rfl, hC, hO, hv24⟩
      refine c_seq ?_
      refine c_region ?_
      refine pl_val (.slice a1 n1 c1) (y_move rfl) ?_
      refine pl_val (.slice a1 n1 c1) (y_assign rfl) ?_
      refine c_nil ?_
      refine wp_ret ?_
      cases hs
      exact ⟨_, a1, n1, c1, f24, fr_ovl 27 ⟨rfl, trivial⟩, hC, hv24, hO.top⟩

def k_spec_l2Value (M : Nat → Prop) (w0 : World) (r : Int) (a : Act) (w : World) : Prop :=
  ∃ (σ : Nat → Value) , a = fr 33 (ovl σ [(6, (.int .i64 r))]) ∧ Chg [] w0 w
def s_spec_l2Value (a_ : Int × (List (Int × (List Int)))) (op : Int) (args : List Int) : Option (Int) :=
  (forC (S := Int) (R := Int) (fun k9 s7 =>
  (idx args k9).bind fun x14 =>
  some (.nx (w64 ((w64 (s7 * a_.1)) + x14)))) 0 (args.length : Int) 0).bind fun o11 => after o11 (fun r_ => some r_) (fun s7 =>
  (idx a_.2 op).bind fun x16 =>
  (idx x16.2 s7).bind fun x21 =>
  some x21)
set_option maxHeartbeats 4000000 in
theorem c_spec_l2Value {M : Nat → Prop} {w : World} {pa0 : Option Addr} {pn0 pc0 : Nat} {pa1 : Option Addr} {pn1 pc1 : Nat} (a_ : Int × (List (Int × (List Int)))) (op : Int) (args : List Int) (h0 : (RT.rs (RT.pr (RT.int .i64) (RT.rs (RT.int .i64)))).val M w (.slice pa0 pn0 pc0) a_.2 ([])) (h1 : (RT.rs (RT.int .i64)).val M w (.slice pa1 pn1 pc1) args ([])) (hM : ∀ g, w.heap.size ≤ g → M g) {r : Int} (hs : s_spec_l2Value a_ op args = some r) :
    Gives Try.prog 182 [(.agg #[(.int .i64 a_.1), (.slice pa0 pn0 pc0)]), (.int .i64 op), (.slice pa1 pn1 pc1)] w (fun v w' => v = (.int .i64 r) ∧ Chg [] w w') := by
  refine calls_fr Try.func182 rfl Try.ntmps182 (Nat.le_of_ble_eq_true rfl) ?_
  have hO := Own.start (N := Nw w []) hM Nw.fut
  have hC := Chg.refl [] w
  unfold s_spec_l2Value at hs
  refine wp_mono (Q := KPost (k_spec_l2Value M w r)) ?_ (fun e a w1 h => ?_)
  rotate_left
  · cases e
    case ret =>
      obtain ⟨σ, rfl, hrest⟩ := h
      exact ret1x Try.results182 (res_tmp rfl) ⟨rfl, hrest⟩
    all_goals exact (h : False).elim
  refine c_seq ?_
  refine c_region ?_
  obtain ⟨w3, g3, ew3, eg3, hC3, hb3⟩ := new_block w [(.int .i64 a_.1), (.slice pa0 pn0 pc0)] 62
  refine pl_val (w' := w3) (.pointer (some ⟨g3, 0, none⟩)) (y_box rfl (by rw [ew3, eg3]; kernel_rfl)) ?_
  have h0 := h0.ext hC3
  have h1 := h1.ext hC3
  have hC := hC.ext hC3
  have hO := hO.new (X' := [g3]) hC3 (fun q hq => by rw [List.mem_singleton.1 hq, eg3]; exact Nat.le_refl _) (List.nodup_cons.2 ⟨(fun h => nomatch h), List.nodup_nil⟩) (fun q hq => by rw [List.mem_singleton.1 hq]; exact hb3.lt)
  refine pl_val (.int .i64 0) (y_assign rfl) ?_
  refine c_nil ?_
  refine c_seq ?_
  refine c_region ?_
  refine pl_val (.int .i64 0) (y_assign rfl) ?_
  refine c_nil ?_
  refine c_seq ?_
  refine c_seq ?_
  refine c_region ?_
  refine pl_val (.int .i64 0) (y_assign rfl) ?_
  refine c_nil ?_
  obtain ⟨o11, hl12, hs⟩ := bind_some hs
  refine wp_block ?_
  refine wp_forC (id := 0) (args.length : Int) (I := fun k9 s7 a w8 => ∃ (σ : Nat → Value), a = fr 33 (ovl σ [(1, (.int .i64 op)), (2, (.slice pa1 pn1 pc1)), (3, (.pointer (some ⟨g3, 0, none⟩))), (7, (.int .i64 s7)), (8, (.int .i64 k9))]) ∧ Chg [] w w8 ∧ Own (Nw w []) M w8 (([g3]) ++ []) ∧ (RT.rs (RT.pr (RT.int .i64) (RT.rs (RT.int .i64)))).val M w8 (.slice pa0 pn0 pc0) a_.2 ([]) ∧ (RT.rs (RT.int .i64)).val M w8 (.slice pa1 pn1 pc1) args ([]) ∧ BoxV w8 g3 62 [(.int .i64 a_.1), (.slice pa0 pn0 pc0)]) (J := fun s7 a w8 => ∃ (σ : Nat → Value), a = fr 33 (ovl σ [(1, (.int .i64 op)), (3, (.pointer (some ⟨g3, 0, none⟩))), (7, (.int .i64 s7))]) ∧ Chg [] w w8 ∧ Own (Nw w []) M w8 (([g3]) ++ []) ∧ (RT.rs (RT.pr (RT.int .i64) (RT.rs (RT.int .i64)))).val M w8 (.slice pa0 pn0 pc0) a_.2 ([]) ∧ (RT.rs (RT.int .i64)).val M w8 (.slice pa1 pn1 pc1) args ([]) ∧ BoxV w8 g3 62 [(.int .i64 a_.1), (.slice pa0 pn0 pc0)]) (K := (k_spec_l2Value M w)) ?_ ?_ 0 0 o11 _ _ ?_ hl12 ?_
  · rintro k9 s7 a w8 ⟨σ, rfl, hC, hO, h0, h1, hb3⟩ hlt
    refine c_seq ?_
    refine c_seq ?_
    refine c_region ?_
    refine pl_val (.int .i64 k9) (y_move rfl) ?_
    refine pl_val (.slice pa1 pn1 pc1) (y_move rfl) ?_
    refine pl_val (.int .i64 (args.length : Int)) (y_len' Sl22 (rs_len h1) rfl) ?_
    refine pl_val (.bool (decide (k9 < (args.length : Int)))) (y_lss rfl rfl) ?_
    refine c_nil ?_
    refine c_condF (congrArg Value.bool (decide_eq_false hlt)) ?_
    refine wp_exit ?_
    exact ⟨rfl, _, fr_ovl 33 ⟨rfl, rfl, rfl, trivial⟩, hC, hO, h0, h1, hb3⟩
  · rintro k9 s7 o11 a w8 ⟨σ, rfl, hC, hO, h0, h1, hb3⟩ hlt hw hs
    refine c_seq ?_
    refine c_seq ?_
    refine c_region ?_
    refine pl_val (.int .i64 k9) (y_move rfl) ?_
    refine pl_val (.slice pa1 pn1 pc1) (y_move rfl) ?_
    refine pl_val (.int .i64 (args.length : Int)) (y_len' Sl22 (rs_len h1) rfl) ?_
    refine pl_val (.bool (decide (k9 < (args.length : Int)))) (y_lss rfl rfl) ?_
    refine c_nil ?_
    refine c_condT (congrArg Value.bool (decide_eq_true hlt)) ?_
    refine wp_skip ?_
    refine c_seq ?_
    refine wp_block ?_
    refine x_start [] Mx rfl ?_
    have hCw13 := Chg.drew w8
    generalize World.drew w8 = w13 at hCw13 ⊢
    have h0 := h0.ext hCw13
    have h1 := h1.ext hCw13
    have hb3 := hb3.chg hCw13 (fun h => nomatch h)
    have hC := hC.ext hCw13
    have hO := hO.ext hCw13
    have hS := Chg.refl [] w13
    refine x_p 0 (.int .i64 s7) rfl (by kernel_rfl)  (fun _ => y_move rfl) (fun _ => hS) ?_
    refine x_p 1 (.pointer (some ⟨g3, 0, none⟩)) rfl (by kernel_rfl)  (fun _ => y_faddr rfl Fa62x0) (fun _ => hS) ?_
    refine x_l 2 (.int .i64 a_.1) rfl (by kernel_rfl)  (fun w' hw' => y_load rfl ((box_load Ag3 Sz3 hb3 [] [(.int .i64 a_.1)] [(.slice pa0 pn0 pc0)] rfl rfl (fun _ => rfl)) w' hw')) hS ?_
    refine x_p 3 (.int .i64 (w64 (s7 * a_.1))) rfl (by kernel_rfl)  (fun _ => y_mul rfl rfl) (fun _ => hS) ?_
    refine x_p 4 (.slice pa1 pn1 pc1) rfl (by kernel_rfl)  (fun _ => y_move rfl) (fun _ => hS) ?_
    refine x_p 5 (.int .i64 k9) rfl (by kernel_rfl)  (fun _ => y_move rfl) (fun _ => hS) ?_
    obtain ⟨x14, hx14, hs⟩ := bind_some hs
    obtain ⟨b15, o15, hp15, ha15⟩ := rs_idx Sl22 Sz3 h1 hx14
    refine x_p 6 (.pointer (some ⟨b15, o15, none⟩)) rfl (by kernel_rfl)  (fun _ => hp15 _ _ _ _ _ _ _ _ _ rfl rfl) (fun _ => hS) ?_
    refine x_l 7 (.int .i64 x14) rfl (by kernel_rfl)  (fun w' hw' => y_load rfl ((at_load_int Ag3 Sz3 ha15) w' hw')) hS ?_
    refine x_p 8 (.int .i64 (w64 ((w64 (s7 * a_.1)) + x14))) rfl (by kernel_rfl)  (fun _ => y_add rfl rfl) (fun _ => hS) ?_
    refine x_p 9 (.int .i64 (w64 ((w64 (s7 * a_.1)) + x14))) rfl (by kernel_rfl)  (fun _ => y_assign rfl) (fun _ => hS) ?_
    refine x_end (by kernel_rfl) ?_
    clear hS
    refine c_region ?_
    refine pl_val (.int .i64 k9) (y_move rfl) ?_
    refine pl_val (.int .i64 (w64 (k9 + 1))) (y_add rfl rfl) ?_
    refine pl_val (.int .i64 (w64 (k9 + 1))) (y_assign rfl) ?_
    refine c_nil ?_
    cases hs
    exact ⟨_, fr_ovl 33 ⟨rfl, rfl, rfl, rfl, congrArg (Value.int .i64) hw, trivial⟩, hC, hO, h0, h1, hb3⟩
  · skip
    exact ⟨_, fr_ovl 33 ⟨rfl, rfl, rfl, rfl, rfl, trivial⟩, hC, hO, h0, h1, hb3⟩
  · cases o11 with
    | nx _ => exact True.intro
    | rt r_ =>
      have hs := after_rt hs
      intro a1 w1 hK
      cases hs
      exact hK
    | br s7 =>
      have hs := after_br hs
      rintro a1 w8 ⟨σ, rfl, hC, hO, h0, h1, hb3⟩
      refine c_seq ?_
      refine c_region ?_
      refine pl_val (.pointer (some ⟨g3, 1, none⟩)) (y_faddr rfl Fa62x1) ?_
      refine pl_val (.slice pa0 pn0 pc0) (y_load rfl ((box_load Ag60 Sz60 hb3 [(.int .i64 a_.1)] [(.slice pa0 pn0 pc0)] [] rfl rfl (fun _ => rfl)) _ (Chg.refl _ _))) ?_
      refine pl_val (.int .i64 op) (y_move rfl) ?_
      obtain ⟨x16, hx16, hs⟩ := bind_some hs
      obtain ⟨b17, o17, hp17, ha17⟩ := rs_idx Sl60 Sz82 h0 hx16
      refine pl_val (.pointer (some ⟨b17, o17, none⟩)) (hp17 _ _ _ _ _ _ _ _ _ rfl rfl) ?_
      obtain ⟨_, hq18x0⟩ := pr_at ha17
      refine pl_val (.pointer (some ⟨b17, o17 + 1, none⟩)) (y_faddr rfl Fa82x1) ?_
      obtain ⟨v19, hl19, hv19⟩ := at_load Ag22 Sz22 (fun _ => rfl) hq18x0
      obtain ⟨a19, n19, c19, rfl⟩ := rs_sl hv19
      refine pl_val (.slice a19 n19 c19) (y_load rfl (hl19 _ (Chg.refl _ _))) ?_
      refine pl_val (.int .i64 s7) (y_move rfl) ?_
      obtain ⟨x21, hx21, hs⟩ := bind_some hs
      obtain ⟨b22, o22, hp22, ha22⟩ := rs_idx Sl22 Sz3 hv19 hx21
      refine pl_val (.pointer (some ⟨b22, o22, none⟩)) (hp22 _ _ _ _ _ _ _ _ _ rfl rfl) ?_
      refine pl_val (.int .i64 x21) (y_load rfl ((at_load_int Ag3 Sz3 ha22) _ (Chg.refl _ _))) ?_
      refine pl_val (.int .i64 x21) (y_assign rfl) ?_
      refine c_nil ?_
      refine wp_ret ?_
      cases hs
      exact ⟨_, fr_ovl 33 ⟨rfl, trivial⟩, hC⟩

def k_spec_l1Least (M : Nat → Prop) (w0 : World) (r : Int) (a : Act) (w : World) : Prop :=
  ∃ (σ : Nat → Value) , a = fr 10 (ovl σ [(4, (.int .i64 r))]) ∧ Chg [] w0 w
def s_spec_l1Least (a_ : Int) (b : Int) : Option (Int) :=
  (bif (decide (a_ < b)) then some a_ else some b)
set_option maxHeartbeats 4000000 in
theorem c_spec_l1Least {M : Nat → Prop} {w : World}  (a_ : Int) (b : Int)  (hM : ∀ g, w.heap.size ≤ g → M g) {r : Int} (hs : s_spec_l1Least a_ b = some r) :
    Gives Try.prog 194 [(.int .i64 a_), (.int .i64 b)] w (fun v w' => v = (.int .i64 r) ∧ Chg [] w w') := by
  refine calls_fr Try.func194 rfl Try.ntmps194 (Nat.le_of_ble_eq_true rfl) ?_
  have hO := Own.start (N := Nw w []) hM Nw.fut
  have hC := Chg.refl [] w
  unfold s_spec_l1Least at hs
  refine wp_mono (Q := KPost (k_spec_l1Least M w r)) ?_ (fun e a w1 h => ?_)
  rotate_left
  · cases e
    case ret =>
      obtain ⟨σ, rfl, hrest⟩ := h
      exact ret1x Try.results194 (res_tmp rfl) ⟨rfl, hrest⟩
    all_goals exact (h : False).elim
  refine c_seq ?_
  refine c_region ?_
  refine pl_val (.int .i64 0) (y_assign rfl) ?_
  refine c_nil ?_
  refine c_seq ?_
  refine c_seq ?_
  refine c_region ?_
  refine pl_val (.int .i64 a_) (y_move rfl) ?_
  refine pl_val (.int .i64 b) (y_move rfl) ?_
  refine pl_val (.bool (decide (a_ < b))) (y_lss rfl rfl) ?_
  refine c_nil ?_
  rcases bif_some hs with ⟨hc1, hs⟩ | ⟨hc1, hs⟩
  · skip
    refine c_condT (congrArg Value.bool hc1) ?_
    refine c_seq ?_
    refine c_region ?_
    refine pl_val (.int .i64 a_) (y_move rfl) ?_
    refine pl_val (.int .i64 a_) (y_assign rfl) ?_
    refine c_nil ?_
    refine wp_ret ?_
    cases hs
    exact ⟨_, fr_ovl 10 ⟨rfl, trivial⟩, hC⟩
  · skip
    refine c_condF (congrArg Value.bool hc1) ?_
    refine wp_skip ?_
    refine c_seq ?_
    refine c_region ?_
    refine pl_val (.int .i64 b) (y_move rfl) ?_
    refine pl_val (.int .i64 b) (y_assign rfl) ?_
    refine c_nil ?_
    refine wp_ret ?_
    cases hs
    exact ⟨_, fr_ovl 10 ⟨rfl, trivial⟩, hC⟩

def k_spec_l1Most (M : Nat → Prop) (w0 : World) (r : Int) (a : Act) (w : World) : Prop :=
  ∃ (σ : Nat → Value) , a = fr 10 (ovl σ [(4, (.int .i64 r))]) ∧ Chg [] w0 w
def s_spec_l1Most (a_ : Int) (b : Int) : Option (Int) :=
  (bif (decide (b < a_)) then some a_ else some b)
set_option maxHeartbeats 4000000 in
theorem c_spec_l1Most {M : Nat → Prop} {w : World}  (a_ : Int) (b : Int)  (hM : ∀ g, w.heap.size ≤ g → M g) {r : Int} (hs : s_spec_l1Most a_ b = some r) :
    Gives Try.prog 190 [(.int .i64 a_), (.int .i64 b)] w (fun v w' => v = (.int .i64 r) ∧ Chg [] w w') := by
  refine calls_fr Try.func190 rfl Try.ntmps190 (Nat.le_of_ble_eq_true rfl) ?_
  have hO := Own.start (N := Nw w []) hM Nw.fut
  have hC := Chg.refl [] w
  unfold s_spec_l1Most at hs
  refine wp_mono (Q := KPost (k_spec_l1Most M w r)) ?_ (fun e a w1 h => ?_)
  rotate_left
  · cases e
    case ret =>
      obtain ⟨σ, rfl, hrest⟩ := h
      exact ret1x Try.results190 (res_tmp rfl) ⟨rfl, hrest⟩
    all_goals exact (h : False).elim
  refine c_seq ?_
  refine c_region ?_
  refine pl_val (.int .i64 0) (y_assign rfl) ?_
  refine c_nil ?_
  refine c_seq ?_
  refine c_seq ?_
  refine c_region ?_
  refine pl_val (.int .i64 a_) (y_move rfl) ?_
  refine pl_val (.int .i64 b) (y_move rfl) ?_
  refine pl_val (.bool (decide (b < a_))) (y_gtr rfl rfl) ?_
  refine c_nil ?_
  rcases bif_some hs with ⟨hc1, hs⟩ | ⟨hc1, hs⟩
  · skip
    refine c_condT (congrArg Value.bool hc1) ?_
    refine c_seq ?_
    refine c_region ?_
    refine pl_val (.int .i64 a_) (y_move rfl) ?_
    refine pl_val (.int .i64 a_) (y_assign rfl) ?_
    refine c_nil ?_
    refine wp_ret ?_
    cases hs
    exact ⟨_, fr_ovl 10 ⟨rfl, trivial⟩, hC⟩
  · skip
    refine c_condF (congrArg Value.bool hc1) ?_
    refine wp_skip ?_
    refine c_seq ?_
    refine c_region ?_
    refine pl_val (.int .i64 b) (y_move rfl) ?_
    refine pl_val (.int .i64 b) (y_assign rfl) ?_
    refine c_nil ?_
    refine wp_ret ?_
    cases hs
    exact ⟨_, fr_ovl 10 ⟨rfl, trivial⟩, hC⟩

theorem Bd194 : Bodied Try.prog 194 := bodied Try.func194 (by kernel_rfl) rfl

theorem Bd190 : Bodied Try.prog 190 := bodied Try.func190 (by kernel_rfl) rfl

def k_spec_l6Unite (M : Nat → Prop) (w0 : World) (r : (List Int)) (a : Act) (w : World) : Prop :=
  ∃ (σ : Nat → Value) (ra0 : Option Addr) (rn0 rc0 : Nat) (rf0 : List Nat), a = fr 54 (ovl σ [(6, (.slice ra0 rn0 rc0))]) ∧ Chg [] w0 w ∧ (RT.os 3 (RT.int .i64)).val M w (.slice ra0 rn0 rc0) r rf0 ∧ Own (Nw w0 []) (fun _ => True) w (rf0 ++ ([]))
def s_spec_l6Unite (p : List Int) (x_ : Int) (y : Int) : Option ((List Int)) :=
  (idx p x_).bind fun x16 =>
  (idx p y).bind fun x18 =>
  (idx p x_).bind fun x20 =>
  (idx p y).bind fun x22 =>
  (s_spec_l1Least x16 x18).bind fun r25 =>
  (s_spec_l1Most x20 x22).bind fun r27 =>
  (forC (S := (List Int)) (R := (List Int)) (fun k49 s47 =>
  (idx p k49).bind fun x57 =>
  (bif (x57 == r27) then (app s47 ([r25])).bind fun y63 =>
  some (.nx y63) else (idx p k49).bind fun x65 =>
  (app s47 ([x65])).bind fun y70 =>
  some (.nx y70))) 0 (p.length : Int) ([])).bind fun o51 => after o51 (fun r_ => some r_) (fun s47 =>
  some s47)
set_option maxHeartbeats 4000000 in
theorem c_spec_l6Unite {M : Nat → Prop} {w : World} {pa0 : Option Addr} {pn0 pc0 : Nat} (p : List Int) (x_ : Int) (y : Int) (h0 : (RT.rs (RT.int .i64)).val M w (.slice pa0 pn0 pc0) p ([])) (hM : ∀ g, w.heap.size ≤ g → M g) {r : (List Int)} (hs : s_spec_l6Unite p x_ y = some r) :
    Gives Try.prog 181 [(.slice pa0 pn0 pc0), (.int .i64 x_), (.int .i64 y)] w (fun v w' => ∃ (ra0 : Option Addr) (rn0 rc0 : Nat) (rf0 : List Nat), v = (.slice ra0 rn0 rc0) ∧ Chg [] w w' ∧ (RT.os 3 (RT.int .i64)).val M w' (.slice ra0 rn0 rc0) r rf0 ∧ Own (Nw w []) (fun _ => True) w' (rf0 ++ ([]))) := by
  refine calls_fr Try.func181 rfl Try.ntmps181 (Nat.le_of_ble_eq_true rfl) ?_
  have hO := Own.start (N := Nw w []) hM Nw.fut
  have hC := Chg.refl [] w
  unfold s_spec_l6Unite at hs
  refine wp_mono (Q := KPost (k_spec_l6Unite M w r)) ?_ (fun e a w1 h => ?_)
  rotate_left
  · cases e
    case ret =>
      obtain ⟨σ, ra0, rn0, rc0, rf0, rfl, hrest⟩ := h
      exact ret1x Try.results181 (res_tmp rfl) ⟨ra0, rn0, rc0, rf0, rfl, hrest⟩
    all_goals exact (h : False).elim
  refine c_seq ?_
  refine c_region ?_
  refine pl_val (.slice none 0 0) (y_assign rfl) ?_
  refine c_nil ?_
  refine c_seq ?_
  refine x_start [] Mx rfl ?_
  have hCw15 := Chg.drew w
  generalize World.drew w = w15 at hCw15 ⊢
  have h0 := h0.ext hCw15
  have hC := hC.ext hCw15
  have hO := hO.ext hCw15
  have hS := Chg.refl [] w15
  refine x_p 0 (.slice pa0 pn0 pc0) rfl (by kernel_rfl)  (fun _ => y_move rfl) (fun _ => hS) ?_
  refine x_p 1 (.int .i64 x_) rfl (by kernel_rfl)  (fun _ => y_move rfl) (fun _ => hS) ?_
  obtain ⟨x16, hx16, hs⟩ := bind_some hs
  obtain ⟨b17, o17, hp17, ha17⟩ := rs_idx Sl22 Sz3 h0 hx16
  refine x_p 2 (.pointer (some ⟨b17, o17, none⟩)) rfl (by kernel_rfl)  (fun _ => hp17 _ _ _ _ _ _ _ _ _ rfl rfl) (fun _ => hS) ?_
  refine x_l 3 (.int .i64 x16) rfl (by kernel_rfl)  (fun w' hw' => y_load rfl ((at_load_int Ag3 Sz3 ha17) w' hw')) hS ?_
  refine x_p 4 (.slice pa0 pn0 pc0) rfl (by kernel_rfl)  (fun _ => y_move rfl) (fun _ => hS) ?_
  refine x_p 5 (.int .i64 y) rfl (by kernel_rfl)  (fun _ => y_move rfl) (fun _ => hS) ?_
  obtain ⟨x18, hx18, hs⟩ := bind_some hs
  obtain ⟨b19, o19, hp19, ha19⟩ := rs_idx Sl22 Sz3 h0 hx18
  refine x_p 6 (.pointer (some ⟨b19, o19, none⟩)) rfl (by kernel_rfl)  (fun _ => hp19 _ _ _ _ _ _ _ _ _ rfl rfl) (fun _ => hS) ?_
  refine x_l 7 (.int .i64 x18) rfl (by kernel_rfl)  (fun w' hw' => y_load rfl ((at_load_int Ag3 Sz3 ha19) w' hw')) hS ?_
  refine x_p 9 (.slice pa0 pn0 pc0) rfl (by kernel_rfl)  (fun _ => y_move rfl) (fun _ => hS) ?_
  refine x_p 10 (.int .i64 x_) rfl (by kernel_rfl)  (fun _ => y_move rfl) (fun _ => hS) ?_
  obtain ⟨x20, hx20, hs⟩ := bind_some hs
  obtain ⟨b21, o21, hp21, ha21⟩ := rs_idx Sl22 Sz3 h0 hx20
  refine x_p 11 (.pointer (some ⟨b21, o21, none⟩)) rfl (by kernel_rfl)  (fun _ => hp21 _ _ _ _ _ _ _ _ _ rfl rfl) (fun _ => hS) ?_
  refine x_l 12 (.int .i64 x20) rfl (by kernel_rfl)  (fun w' hw' => y_load rfl ((at_load_int Ag3 Sz3 ha21) w' hw')) hS ?_
  refine x_p 13 (.slice pa0 pn0 pc0) rfl (by kernel_rfl)  (fun _ => y_move rfl) (fun _ => hS) ?_
  refine x_p 14 (.int .i64 y) rfl (by kernel_rfl)  (fun _ => y_move rfl) (fun _ => hS) ?_
  obtain ⟨x22, hx22, hs⟩ := bind_some hs
  obtain ⟨b23, o23, hp23, ha23⟩ := rs_idx Sl22 Sz3 h0 hx22
  refine x_p 15 (.pointer (some ⟨b23, o23, none⟩)) rfl (by kernel_rfl)  (fun _ => hp23 _ _ _ _ _ _ _ _ _ rfl rfl) (fun _ => hS) ?_
  refine x_l 16 (.int .i64 x22) rfl (by kernel_rfl)  (fun w' hw' => y_load rfl ((at_load_int Ag3 Sz3 ha23) w' hw')) hS ?_
  refine x_one (i := 8) (by kernel_rfl) ?_
  obtain ⟨r25, hr25, hs⟩ := bind_some hs
  refine xk_call (b := false) rfl  Bd194 rfl (c_spec_l1Least (M := M) x16 x18  hO.fut hr25) rfl (by rintro _ _ _ ⟨rfl, hC24⟩; exact hS.ext hC24) ?_
  rintro _ w24 ⟨rfl, hC24⟩
  have h0 := h0.ext hC24
  have hC := hC.ext hC24
  have hO := hO.ext hC24
  have hS := hS.ext hC24
  refine x_one (i := 17) (by kernel_rfl) ?_
  obtain ⟨r27, hr27, hs⟩ := bind_some hs
  refine xk_call (b := false) rfl  Bd190 rfl (c_spec_l1Most (M := M) x20 x22  hO.fut hr27) rfl (by rintro _ _ _ ⟨rfl, hC26⟩; exact hS.ext hC26) ?_
  rintro _ w26 ⟨rfl, hC26⟩
  have h0 := h0.ext hC26
  have hC := hC.ext hC26
  have hO := hO.ext hC26
  have hS := hS.ext hC26
  refine x_p 18 (.int .i64 r25) rfl (by kernel_rfl)  (fun _ => y_assign rfl) (fun _ => hS) ?_
  refine x_p 19 (.int .i64 r27) rfl (by kernel_rfl)  (fun _ => y_assign rfl) (fun _ => hS) ?_
  refine x_end (by kernel_rfl) ?_
  clear hS
  refine c_seq ?_
  refine c_region ?_
  obtain ⟨w28, g28, ew28, eg28, hC28, hb28⟩ := new_block w26 [] 3
  refine pl_val (w' := w28) (.slice (some ⟨g28, 0, none⟩) 0 0) (y_bslice rfl (by rw [ew28, eg28]; kernel_rfl)) ?_
  have h0 := h0.ext hC28
  have hC := hC.ext hC28
  have hO := hO.new (X' := [g28]) hC28 (fun q hq => by rw [List.mem_singleton.1 hq, eg28]; exact Nat.le_refl _) (List.nodup_cons.2 ⟨(fun h => nomatch h), List.nodup_nil⟩) (fun q hq => by rw [List.mem_singleton.1 hq]; exact hb28.lt)
  have hv28 := os_of_box (r := (RT.int .i64)) (M := M) (css := []) (fps := []) (xs := ([] : List Int)) hb28 trivial (Nat.zero_le _) (List.nodup_cons.2 ⟨(fun h => nomatch h), List.nodup_nil⟩)
  have hv28 : (RT.os 3 (RT.int .i64)).val M w28 (.slice (some ⟨g28, 0, none⟩) 0 0) [] [g28] := hv28
  refine pl_val (.slice (some ⟨g28, 0, none⟩) 0 0) (y_assign rfl) ?_
  refine c_nil ?_
  refine c_seq ?_
  refine c_seq ?_
  refine c_region ?_
  refine pl_val (.int .i64 0) (y_assign rfl) ?_
  refine c_nil ?_
  obtain ⟨o51, hl52, hs⟩ := bind_some hs
  refine wp_block ?_
  refine wp_forC (id := 0) (p.length : Int) (I := fun k49 s47 a w48 => ∃ (σ : Nat → Value) (a53 : Option Addr) (n53 : Nat) (c53 : Nat) (f53 : List Nat), a = fr 54 (ovl σ [(0, (.slice pa0 pn0 pc0)), (7, (.int .i64 r25)), (8, (.int .i64 r27)), (9, (.slice a53 n53 c53)), (10, (.int .i64 k49))]) ∧ Chg [] w w48 ∧ Own (Nw w []) M w48 (f53 ++ []) ∧ (RT.rs (RT.int .i64)).val M w48 (.slice pa0 pn0 pc0) p ([]) ∧ (RT.os 3 (RT.int .i64)).val M w48 (.slice a53 n53 c53) s47 f53) (J := fun s47 a w48 => ∃ (σ : Nat → Value) (a55 : Option Addr) (n55 : Nat) (c55 : Nat) (f55 : List Nat), a = fr 54 (ovl σ [(9, (.slice a55 n55 c55))]) ∧ Chg [] w w48 ∧ Own (Nw w []) M w48 (f55 ++ []) ∧ (RT.rs (RT.int .i64)).val M w48 (.slice pa0 pn0 pc0) p ([]) ∧ (RT.os 3 (RT.int .i64)).val M w48 (.slice a55 n55 c55) s47 f55) (K := (k_spec_l6Unite M w)) ?_ ?_ 0 ([]) o51 _ _ ?_ hl52 ?_
  · rintro k49 s47 a w48 ⟨σ, a53, n53, c53, f53, rfl, hC, hO, h0, hv53⟩ hlt
    refine c_seq ?_
    refine c_seq ?_
    refine c_region ?_
    refine pl_val (.int .i64 k49) (y_move rfl) ?_
    refine pl_val (.slice pa0 pn0 pc0) (y_move rfl) ?_
    refine pl_val (.int .i64 (p.length : Int)) (y_len' Sl22 (rs_len h0) rfl) ?_
    refine pl_val (.bool (decide (k49 < (p.length : Int)))) (y_lss rfl rfl) ?_
    refine c_nil ?_
    refine c_condF (congrArg Value.bool (decide_eq_false hlt)) ?_
    refine wp_exit ?_
    exact ⟨rfl, _, a53, n53, c53, f53, fr_ovl 54 ⟨rfl, trivial⟩, hC, hO, h0, hv53⟩
  · rintro k49 s47 o51 a w48 ⟨σ, a53, n53, c53, f53, rfl, hC, hO, h0, hv53⟩ hlt hw hs
    refine c_seq ?_
    refine c_seq ?_
    refine c_region ?_
    refine pl_val (.int .i64 k49) (y_move rfl) ?_
    refine pl_val (.slice pa0 pn0 pc0) (y_move rfl) ?_
    refine pl_val (.int .i64 (p.length : Int)) (y_len' Sl22 (rs_len h0) rfl) ?_
    refine pl_val (.bool (decide (k49 < (p.length : Int)))) (y_lss rfl rfl) ?_
    refine c_nil ?_
    refine c_condT (congrArg Value.bool (decide_eq_true hlt)) ?_
    refine wp_skip ?_
    refine c_seq ?_
    refine wp_block ?_
    refine c_seq ?_
    refine c_region ?_
    refine pl_val (.slice pa0 pn0 pc0) (y_move rfl) ?_
    refine pl_val (.int .i64 k49) (y_move rfl) ?_
    obtain ⟨x57, hx57, hs⟩ := bind_some hs
    obtain ⟨b58, o58, hp58, ha58⟩ := rs_idx Sl22 Sz3 h0 hx57
    refine pl_val (.pointer (some ⟨b58, o58, none⟩)) (hp58 _ _ _ _ _ _ _ _ _ rfl rfl) ?_
    refine pl_val (.int .i64 x57) (y_load rfl ((at_load_int Ag3 Sz3 ha58) _ (Chg.refl _ _))) ?_
    refine pl_val (.int .i64 r27) (y_move rfl) ?_
    refine pl_val (.bool (x57 == r27)) (y_eql rfl rfl) ?_
    refine c_nil ?_
    rcases bif_some hs with ⟨hc59, hs⟩ | ⟨hc59, hs⟩
    · skip
      refine c_condT (congrArg Value.bool hc59) ?_
      refine c_region ?_
      refine pl_val (.slice a53 n53 c53) (y_move rfl) ?_
      refine pl_val (.int .i64 r25) (y_move rfl) ?_
      obtain ⟨w60, g60, ew60, eg60, hC60, hb60⟩ := new_block w48 [(.int .i64 r25)] 3
      refine pl_val (w' := w60) (.slice (some ⟨g60, 0, none⟩) 1 1) (y_bslice rfl (by rw [ew60, eg60]; kernel_rfl)) ?_
      have h0 := h0.ext hC60
      have hv53 := hv53.ext hC60
      have hC := hC.ext hC60
      have hO := hO.new (X' := [g60]) hC60 (fun q hq => by rw [List.mem_singleton.1 hq, eg60]; exact Nat.le_refl _) (List.nodup_cons.2 ⟨(fun h => nomatch h), List.nodup_nil⟩) (fun q hq => by rw [List.mem_singleton.1 hq]; exact hb60.lt)
      have hv60 := os_of_box (r := (RT.int .i64)) (M := M) (css := [[(.int .i64 r25)]]) (fps := [([] : List Nat)]) (xs := ([r25] : List Int)) hb60 ⟨⟨rfl, rfl⟩, trivial⟩ (Nat.le_of_ble_eq_true rfl) (List.nodup_cons.2 ⟨(fun h => nomatch h), List.nodup_nil⟩)
      have hv60 : (RT.os 3 (RT.int .i64)).val M w60 (.slice (some ⟨g60, 0, none⟩) 1 1) [r25] [g60] := hv60
      obtain ⟨y63, hy63, hs⟩ := bind_some hs
      have hO := hO.fr1
      obtain ⟨a62, n62, c62, w62, f62, hr62, hC62, hf62, hv62⟩ := app_os Rw22 hy63 hv53 hv60 hO.inM (fun g hg hq => hO.apart g hq (mem_l hg))
      have hG62 := os_block hv53
      refine pl_val (w' := w62) (.slice a62 n62 c62) (y_append rfl rfl (hr62 _)) ?_
      have hO := hO.fr1
      have hO := hO.fr1
      have h0 := h0.mut hC62 (fun g hg => hO.inM g (hG62 g hg)) (fun _ _ h => nomatch h)
      have hC := hC.step hC62 (fun g hg => hO.inN g (hG62 g hg))
      have hO := hO.eat hC62 hf62 (os_nodup hv62) hv62.fpl
      refine pl_val (.slice a62 n62 c62) (y_assign rfl) ?_
      refine c_nil ?_
      refine c_region ?_
      refine pl_val (.int .i64 k49) (y_move rfl) ?_
      refine pl_val (.int .i64 (w64 (k49 + 1))) (y_add rfl rfl) ?_
      refine pl_val (.int .i64 (w64 (k49 + 1))) (y_assign rfl) ?_
      refine c_nil ?_
      cases hs
      exact ⟨_, a62, n62, c62, f62, fr_ovl 54 ⟨rfl, rfl, rfl, rfl, congrArg (Value.int .i64) hw, trivial⟩, hC, hO, h0, hv62⟩
    · skip
      refine c_condF (congrArg Value.bool hc59) ?_
      refine c_region ?_
      refine pl_val (.slice a53 n53 c53) (y_move rfl) ?_
      refine pl_val (.slice pa0 pn0 pc0) (y_move rfl) ?_
      refine pl_val (.int .i64 k49) (y_move rfl) ?_
      obtain ⟨x65, hx65, hs⟩ := bind_some hs
      obtain ⟨b66, o66, hp66, ha66⟩ := rs_idx Sl22 Sz3 h0 hx65
      refine pl_val (.pointer (some ⟨b66, o66, none⟩)) (hp66 _ _ _ _ _ _ _ _ _ rfl rfl) ?_
      refine pl_val (.int .i64 x65) (y_load rfl ((at_load_int Ag3 Sz3 ha66) _ (Chg.refl _ _))) ?_
      obtain ⟨w67, g67, ew67, eg67, hC67, hb67⟩ := new_block w48 [(.int .i64 x65)] 3
      refine pl_val (w' := w67) (.slice (some ⟨g67, 0, none⟩) 1 1) (y_bslice rfl (by rw [ew67, eg67]; kernel_rfl)) ?_
      have h0 := h0.ext hC67
      have hv53 := hv53.ext hC67
      have hC := hC.ext hC67
      have hO := hO.new (X' := [g67]) hC67 (fun q hq => by rw [List.mem_singleton.1 hq, eg67]; exact Nat.le_refl _) (List.nodup_cons.2 ⟨(fun h => nomatch h), List.nodup_nil⟩) (fun q hq => by rw [List.mem_singleton.1 hq]; exact hb67.lt)
      have hv67 := os_of_box (r := (RT.int .i64)) (M := M) (css := [[(.int .i64 x65)]]) (fps := [([] : List Nat)]) (xs := ([x65] : List Int)) hb67 ⟨⟨rfl, rfl⟩, trivial⟩ (Nat.le_of_ble_eq_true rfl) (List.nodup_cons.2 ⟨(fun h => nomatch h), List.nodup_nil⟩)
      have hv67 : (RT.os 3 (RT.int .i64)).val M w67 (.slice (some ⟨g67, 0, none⟩) 1 1) [x65] [g67] := hv67
      obtain ⟨y70, hy70, hs⟩ := bind_some hs
      have hO := hO.fr1
      obtain ⟨a69, n69, c69, w69, f69, hr69, hC69, hf69, hv69⟩ := app_os Rw22 hy70 hv53 hv67 hO.inM (fun g hg hq => hO.apart g hq (mem_l hg))
      have hG69 := os_block hv53
      refine pl_val (w' := w69) (.slice a69 n69 c69) (y_append rfl rfl (hr69 _)) ?_
      have hO := hO.fr1
      have hO := hO.fr1
      have h0 := h0.mut hC69 (fun g hg => hO.inM g (hG69 g hg)) (fun _ _ h => nomatch h)
      have hC := hC.step hC69 (fun g hg => hO.inN g (hG69 g hg))
      have hO := hO.eat hC69 hf69 (os_nodup hv69) hv69.fpl
      refine pl_val (.slice a69 n69 c69) (y_assign rfl) ?_
      refine c_nil ?_
      refine c_region ?_
      refine pl_val (.int .i64 k49) (y_move rfl) ?_
      refine pl_val (.int .i64 (w64 (k49 + 1))) (y_add rfl rfl) ?_
      refine pl_val (.int .i64 (w64 (k49 + 1))) (y_assign rfl) ?_
      refine c_nil ?_
      cases hs
      exact ⟨_, a69, n69, c69, f69, fr_ovl 54 ⟨rfl, rfl, rfl, rfl, congrArg (Value.int .i64) hw, trivial⟩, hC, hO, h0, hv69⟩
  · skip
    exact ⟨_, (some ⟨g28, 0, none⟩), 0, 0, ([g28]), fr_ovl 54 ⟨rfl, rfl, rfl, rfl, rfl, trivial⟩, hC, hO, h0, hv28⟩
  · cases o51 with
    | nx _ => exact True.intro
    | rt r_ =>
      have hs := after_rt hs
      intro a1 w1 hK
      cases hs
      exact hK
    | br s47 =>
      have hs := after_br hs
      rintro a1 w48 ⟨σ, a55, n55, c55, f55, rfl, hC, hO, h0, hv55⟩
      refine c_seq ?_
      refine c_region ?_
      refine pl_val (.slice a55 n55 c55) (y_move rfl) ?_
      refine pl_val (.slice a55 n55 c55) (y_assign rfl) ?_
      refine c_nil ?_
      refine wp_ret ?_
      cases hs
      exact ⟨_, a55, n55, c55, f55, fr_ovl 54 ⟨rfl, trivial⟩, hC, hv55, hO.top⟩

theorem Bd169 : Bodied Try.prog 169 := bodied Try.func169 (by kernel_rfl) rfl

theorem Bd164 : Bodied Try.prog 164 := bodied Try.func164 (by kernel_rfl) rfl

theorem Bd182 : Bodied Try.prog 182 := bodied Try.func182 (by kernel_rfl) rfl

theorem Bd181 : Bodied Try.prog 181 := bodied Try.func181 (by kernel_rfl) rfl

def k_spec_l6Push (M : Nat → Prop) (w0 : World) (r : (List Int)) (a : Act) (w : World) : Prop :=
  ∃ (σ : Nat → Value) (ra0 : Option Addr) (rn0 rc0 : Nat) (rf0 : List Nat), a = fr 75 (ovl σ [(4, (.slice ra0 rn0 rc0))]) ∧ Chg [] w0 w ∧ (RT.os 3 (RT.int .i64)).val M w (.slice ra0 rn0 rc0) r rf0 ∧ Own (Nw w0 []) (fun _ => True) w (rf0 ++ ([]))
def s_spec_l6Push (a_ : Int × (List (Int × (List Int)))) (p : List Int) : Option ((List Int)) :=
  (s_spec_l1Own p).bind fun r5 =>
  (forC (S := (List Int)) (R := (List Int)) (fun k179 s177 =>
  (iter (S := (List Int) × Int) (R := (List Int)) (fun s267 =>
  (idx a_.2 k179).bind fun x277 =>
  (bif (decide (s267.2 < (x277.2.length : Int))) then (idx a_.2 k179).bind fun x291 =>
  (s_spec_l2Args a_.1 x291.1 s267.2).bind fun r295 =>
  (forC (S := (List Int)) (R := (List Int)) (fun k324 s322 =>
  (s_spec_l1Own r295).bind fun r333 =>
  (idx r295 k324).bind fun x335 =>
  (idx p x335).bind fun x337 =>
  (idx r333 k324).bind fun x339 =>
  (idx a_.2 k179).bind fun x343 =>
  (idx x343.2 s267.2).bind fun x348 =>
  (s_spec_l2Value (a_.1, a_.2) k179 (List.set r333 (Int.toNat k324) x337)).bind fun r351 =>
  (s_spec_l6Unite s322 x348 r351).bind fun r353 =>
  some (.nx r353)) 0 (r295.length : Int) s267.1).bind fun o326 => after o326 (fun r_ => some (.rt r_)) (fun s322 =>
  some (.nx (s322, w64 (s267.2 + 1)))) else some (.br (s267.1, s267.2)))) FU (s177, 0)).bind fun o271 => after o271 (fun r_ => some (.rt r_)) (fun s267 =>
  some (.nx s267.1))) 0 (a_.2.length : Int) r5).bind fun o181 => after o181 (fun r_ => some r_) (fun s177 =>
  some s177)
set_option maxHeartbeats 4000000 in
theorem c_spec_l6Push {M : Nat → Prop} {w : World} {pa0 : Option Addr} {pn0 pc0 : Nat} {pa1 : Option Addr} {pn1 pc1 : Nat} (a_ : Int × (List (Int × (List Int)))) (p : List Int) (h0 : (RT.rs (RT.pr (RT.int .i64) (RT.rs (RT.int .i64)))).val M w (.slice pa0 pn0 pc0) a_.2 ([])) (h1 : (RT.rs (RT.int .i64)).val M w (.slice pa1 pn1 pc1) p ([])) (hM : ∀ g, w.heap.size ≤ g → M g) {r : (List Int)} (hs : s_spec_l6Push a_ p = some r) :
    Gives Try.prog 159 [(.agg #[(.int .i64 a_.1), (.slice pa0 pn0 pc0)]), (.slice pa1 pn1 pc1)] w (fun v w' => ∃ (ra0 : Option Addr) (rn0 rc0 : Nat) (rf0 : List Nat), v = (.slice ra0 rn0 rc0) ∧ Chg [] w w' ∧ (RT.os 3 (RT.int .i64)).val M w' (.slice ra0 rn0 rc0) r rf0 ∧ Own (Nw w []) (fun _ => True) w' (rf0 ++ ([]))) := by
  refine calls_fr Try.func159 rfl Try.ntmps159 (Nat.le_of_ble_eq_true rfl) ?_
  have hO := Own.start (N := Nw w []) hM Nw.fut
  have hC := Chg.refl [] w
  unfold s_spec_l6Push at hs
  refine wp_mono (Q := KPost (k_spec_l6Push M w r)) ?_ (fun e a w1 h => ?_)
  rotate_left
  · cases e
    case ret =>
      obtain ⟨σ, ra0, rn0, rc0, rf0, rfl, hrest⟩ := h
      exact ret1x Try.results159 (res_tmp rfl) ⟨ra0, rn0, rc0, rf0, rfl, hrest⟩
    all_goals exact (h : False).elim
  refine c_seq ?_
  refine c_region ?_
  obtain ⟨w3, g3, ew3, eg3, hC3, hb3⟩ := new_block w [(.int .i64 a_.1), (.slice pa0 pn0 pc0)] 62
  refine pl_val (w' := w3) (.pointer (some ⟨g3, 0, none⟩)) (y_box rfl (by rw [ew3, eg3]; kernel_rfl)) ?_
  have h0 := h0.ext hC3
  have h1 := h1.ext hC3
  have hC := hC.ext hC3
  have hO := hO.new (X' := [g3]) hC3 (fun q hq => by rw [List.mem_singleton.1 hq, eg3]; exact Nat.le_refl _) (List.nodup_cons.2 ⟨(fun h => nomatch h), List.nodup_nil⟩) (fun q hq => by rw [List.mem_singleton.1 hq]; exact hb3.lt)
  refine pl_val (.slice none 0 0) (y_assign rfl) ?_
  refine c_nil ?_
  refine c_seq ?_
  refine c_region ?_
  refine pl_val (.slice pa1 pn1 pc1) (y_move rfl) ?_
  obtain ⟨r5, hr5, hs⟩ := bind_some hs
  refine pl_call Bd169 rfl (c_spec_l1Own (M := M) p h1 hO.fut hr5) ?_
  rintro _ w4 ⟨a4x0, n4x0, c4x0, f4x0, rfl, hC4, hv4x0, hOc4⟩
  have h0 := h0.ext hC4
  have h1 := h1.ext hC4
  have hb3 := hb3.chg hC4 (fun h => nomatch h)
  have hC := hC.ext hC4
  have hO := Own.join0 hO hC4 hOc4
  have hO := hO.perm (R := f4x0 ++ (([g3]) ++ ([]))) (by simp)
  refine pl_val (.slice a4x0 n4x0 c4x0) (y_assign rfl) ?_
  refine c_nil ?_
  refine c_seq ?_
  refine c_seq ?_
  refine c_region ?_
  refine pl_val (.int .i64 0) (y_assign rfl) ?_
  refine c_nil ?_
  obtain ⟨o181, hl182, hs⟩ := bind_some hs
  refine wp_block ?_
  refine wp_forC (id := 0) (a_.2.length : Int) (I := fun k179 s177 a w178 => ∃ (σ : Nat → Value) (a183 : Option Addr) (n183 : Nat) (c183 : Nat) (f183 : List Nat), a = fr 75 (ovl σ [(1, (.slice pa1 pn1 pc1)), (2, (.pointer (some ⟨g3, 0, none⟩))), (5, (.slice a183 n183 c183)), (6, (.int .i64 k179))]) ∧ Chg [] w w178 ∧ Own (Nw w []) M w178 (f183 ++ (([g3]) ++ [])) ∧ (RT.rs (RT.pr (RT.int .i64) (RT.rs (RT.int .i64)))).val M w178 (.slice pa0 pn0 pc0) a_.2 ([]) ∧ (RT.rs (RT.int .i64)).val M w178 (.slice pa1 pn1 pc1) p ([]) ∧ BoxV w178 g3 62 [(.int .i64 a_.1), (.slice pa0 pn0 pc0)] ∧ (RT.os 3 (RT.int .i64)).val M w178 (.slice a183 n183 c183) s177 f183) (J := fun s177 a w178 => ∃ (σ : Nat → Value) (a185 : Option Addr) (n185 : Nat) (c185 : Nat) (f185 : List Nat), a = fr 75 (ovl σ [(5, (.slice a185 n185 c185))]) ∧ Chg [] w w178 ∧ Own (Nw w []) M w178 (f185 ++ (([g3]) ++ [])) ∧ (RT.rs (RT.pr (RT.int .i64) (RT.rs (RT.int .i64)))).val M w178 (.slice pa0 pn0 pc0) a_.2 ([]) ∧ (RT.rs (RT.int .i64)).val M w178 (.slice pa1 pn1 pc1) p ([]) ∧ BoxV w178 g3 62 [(.int .i64 a_.1), (.slice pa0 pn0 pc0)] ∧ (RT.os 3 (RT.int .i64)).val M w178 (.slice a185 n185 c185) s177 f185) (K := (k_spec_l6Push M w)) ?_ ?_ 0 r5 o181 _ _ ?_ hl182 ?_
  · rintro k179 s177 a w178 ⟨σ, a183, n183, c183, f183, rfl, hC, hO, h0, h1, hb3, hv183⟩ hlt
    refine c_seq ?_
    refine c_seq ?_
    refine c_region ?_
    refine pl_val (.int .i64 k179) (y_move rfl) ?_
    refine pl_val (.pointer (some ⟨g3, 1, none⟩)) (y_faddr rfl Fa62x1) ?_
    refine pl_val (.slice pa0 pn0 pc0) (y_load rfl ((box_load Ag60 Sz60 hb3 [(.int .i64 a_.1)] [(.slice pa0 pn0 pc0)] [] rfl rfl (fun _ => rfl)) _ (Chg.refl _ _))) ?_
    refine pl_val (.int .i64 (a_.2.length : Int)) (y_len' Sl60 (rs_len h0) rfl) ?_
    refine pl_val (.bool (decide (k179 < (a_.2.length : Int)))) (y_lss rfl rfl) ?_
    refine c_nil ?_
    refine c_condF (congrArg Value.bool (decide_eq_false hlt)) ?_
    refine wp_exit ?_
    have hO := hO.fr1
    have hO := hO.fr1
    exact ⟨rfl, _, a183, n183, c183, f183, fr_ovl 75 ⟨rfl, trivial⟩, hC, hO, h0, h1, hb3, hv183⟩
  · rintro k179 s177 o181 a w178 ⟨σ, a183, n183, c183, f183, rfl, hC, hO, h0, h1, hb3, hv183⟩ hlt hw hs
    refine c_seq ?_
    refine c_seq ?_
    refine c_region ?_
    refine pl_val (.int .i64 k179) (y_move rfl) ?_
    refine pl_val (.pointer (some ⟨g3, 1, none⟩)) (y_faddr rfl Fa62x1) ?_
    refine pl_val (.slice pa0 pn0 pc0) (y_load rfl ((box_load Ag60 Sz60 hb3 [(.int .i64 a_.1)] [(.slice pa0 pn0 pc0)] [] rfl rfl (fun _ => rfl)) _ (Chg.refl _ _))) ?_
    refine pl_val (.int .i64 (a_.2.length : Int)) (y_len' Sl60 (rs_len h0) rfl) ?_
    refine pl_val (.bool (decide (k179 < (a_.2.length : Int)))) (y_lss rfl rfl) ?_
    refine c_nil ?_
    refine c_condT (congrArg Value.bool (decide_eq_true hlt)) ?_
    refine wp_skip ?_
    refine c_seq ?_
    refine wp_block ?_
    refine c_seq ?_
    refine c_region ?_
    refine pl_val (.int .i64 0) (y_assign rfl) ?_
    refine c_nil ?_
    obtain ⟨o271, hl272, hs⟩ := bind_some hs
    refine wp_block ?_
    refine wp_iter (id := 2) (I := fun s267 a w268 => ∃ (σ : Nat → Value) (a273 : Option Addr) (n273 : Nat) (c273 : Nat) (f273 : List Nat), a = fr 75 (ovl σ [(1, (.slice pa1 pn1 pc1)), (2, (.pointer (some ⟨g3, 0, none⟩))), (5, (.slice a273 n273 c273)), (6, (.int .i64 k179)), (7, (.int .i64 s267.2))]) ∧ Chg [] w w268 ∧ Own (Nw w []) M w268 (f273 ++ (([g3]) ++ [])) ∧ (RT.rs (RT.pr (RT.int .i64) (RT.rs (RT.int .i64)))).val M w268 (.slice pa0 pn0 pc0) a_.2 ([]) ∧ (RT.rs (RT.int .i64)).val M w268 (.slice pa1 pn1 pc1) p ([]) ∧ BoxV w268 g3 62 [(.int .i64 a_.1), (.slice pa0 pn0 pc0)] ∧ (RT.os 3 (RT.int .i64)).val M w268 (.slice a273 n273 c273) s267.1 f273) (J := fun s267 a w268 => ∃ (σ : Nat → Value) (a275 : Option Addr) (n275 : Nat) (c275 : Nat) (f275 : List Nat), a = fr 75 (ovl σ [(1, (.slice pa1 pn1 pc1)), (2, (.pointer (some ⟨g3, 0, none⟩))), (5, (.slice a275 n275 c275)), (6, (.int .i64 k179))]) ∧ Chg [] w w268 ∧ Own (Nw w []) M w268 (f275 ++ (([g3]) ++ [])) ∧ (RT.rs (RT.pr (RT.int .i64) (RT.rs (RT.int .i64)))).val M w268 (.slice pa0 pn0 pc0) a_.2 ([]) ∧ (RT.rs (RT.int .i64)).val M w268 (.slice pa1 pn1 pc1) p ([]) ∧ BoxV w268 g3 62 [(.int .i64 a_.1), (.slice pa0 pn0 pc0)] ∧ (RT.os 3 (RT.int .i64)).val M w268 (.slice a275 n275 c275) s267.1 f275) (K := (k_spec_l6Push M w)) ?_ FU (s177, 0) o271 _ _ ?_ hl272 ?_
    · rintro s267 o271 a w268 ⟨σ, a273, n273, c273, f273, rfl, hC, hO, h0, h1, hb3, hv273⟩ hs
      refine c_seq ?_
      refine c_seq ?_
      refine c_region ?_
      refine pl_val (.int .i64 s267.2) (y_move rfl) ?_
      refine pl_val (.pointer (some ⟨g3, 1, none⟩)) (y_faddr rfl Fa62x1) ?_
      refine pl_val (.slice pa0 pn0 pc0) (y_load rfl ((box_load Ag60 Sz60 hb3 [(.int .i64 a_.1)] [(.slice pa0 pn0 pc0)] [] rfl rfl (fun _ => rfl)) _ (Chg.refl _ _))) ?_
      refine pl_val (.int .i64 k179) (y_move rfl) ?_
      obtain ⟨x277, hx277, hs⟩ := bind_some hs
      obtain ⟨b278, o278, hp278, ha278⟩ := rs_idx Sl60 Sz82 h0 hx277
      refine pl_val (.pointer (some ⟨b278, o278, none⟩)) (hp278 _ _ _ _ _ _ _ _ _ rfl rfl) ?_
      obtain ⟨_, hq279x0⟩ := pr_at ha278
      refine pl_val (.pointer (some ⟨b278, o278 + 1, none⟩)) (y_faddr rfl Fa82x1) ?_
      obtain ⟨v280, hl280, hv280⟩ := at_load Ag22 Sz22 (fun _ => rfl) hq279x0
      obtain ⟨a280, n280, c280, rfl⟩ := rs_sl hv280
      refine pl_val (.slice a280 n280 c280) (y_load rfl (hl280 _ (Chg.refl _ _))) ?_
      refine pl_val (.int .i64 (x277.2.length : Int)) (y_len' Sl22 (rs_len hv280) rfl) ?_
      refine pl_val (.bool (decide (s267.2 < (x277.2.length : Int)))) (y_lss rfl rfl) ?_
      refine c_nil ?_
      rcases bif_some hs with ⟨hc282, hs⟩ | ⟨hc282, hs⟩
      · skip
        refine c_condT (congrArg Value.bool hc282) ?_
        refine wp_skip ?_
        refine c_seq ?_
        refine wp_block ?_
        refine c_seq ?_
        refine x_start [] Mx rfl ?_
        have hCw290 := Chg.drew w268
        generalize World.drew w268 = w290 at hCw290 ⊢
        have h0 := h0.ext hCw290
        have h1 := h1.ext hCw290
        have hb3 := hb3.chg hCw290 (fun h => nomatch h)
        have hv273 := hv273.ext hCw290
        have hC := hC.ext hCw290
        have hO := hO.ext hCw290
        have hS := Chg.refl [] w290
        refine x_p 0 (.pointer (some ⟨g3, 0, none⟩)) rfl (by kernel_rfl)  (fun _ => y_faddr rfl Fa62x0) (fun _ => hS) ?_
        refine x_l 1 (.int .i64 a_.1) rfl (by kernel_rfl)  (fun w' hw' => y_load rfl ((box_load Ag3 Sz3 hb3 [] [(.int .i64 a_.1)] [(.slice pa0 pn0 pc0)] rfl rfl (fun _ => rfl)) w' hw')) hS ?_
        refine x_p 2 (.pointer (some ⟨g3, 1, none⟩)) rfl (by kernel_rfl)  (fun _ => y_faddr rfl Fa62x1) (fun _ => hS) ?_
        refine x_l 3 (.slice pa0 pn0 pc0) rfl (by kernel_rfl)  (fun w' hw' => y_load rfl ((box_load Ag60 Sz60 hb3 [(.int .i64 a_.1)] [(.slice pa0 pn0 pc0)] [] rfl rfl (fun _ => rfl)) w' hw')) hS ?_
        refine x_p 4 (.int .i64 k179) rfl (by kernel_rfl)  (fun _ => y_move rfl) (fun _ => hS) ?_
        obtain ⟨x291, hx291, hs⟩ := bind_some hs
        obtain ⟨b292, o292, hp292, ha292⟩ := rs_idx Sl60 Sz82 h0 hx291
        refine x_p 5 (.pointer (some ⟨b292, o292, none⟩)) rfl (by kernel_rfl)  (fun _ => hp292 _ _ _ _ _ _ _ _ _ rfl rfl) (fun _ => hS) ?_
        obtain ⟨hq293, _⟩ := pr_at ha292
        refine x_p 6 (.pointer (some ⟨b292, o292 + 0, none⟩)) rfl (by kernel_rfl)  (fun _ => y_faddr rfl Fa82x0) (fun _ => hS) ?_
        refine x_l 7 (.int .i64 x291.1) rfl (by kernel_rfl)  (fun w' hw' => y_load rfl ((at_load_int Ag3 Sz3 hq293) w' hw')) hS ?_
        refine x_p 8 (.int .i64 s267.2) rfl (by kernel_rfl)  (fun _ => y_move rfl) (fun _ => hS) ?_
        refine x_one (i := 9) (by kernel_rfl) ?_
        obtain ⟨r295, hr295, hs⟩ := bind_some hs
        refine xk_call (b := false) rfl  Bd164 rfl (c_spec_l2Args (M := M) a_.1 x291.1 s267.2  hO.fut hr295) rfl (by rintro _ _ _ ⟨a294x0, n294x0, c294x0, f294x0, rfl, hC294, hv294x0, hOc294⟩; exact hS.ext hC294) ?_
        rintro _ w294 ⟨a294x0, n294x0, c294x0, f294x0, rfl, hC294, hv294x0, hOc294⟩
        have h0 := h0.ext hC294
        have h1 := h1.ext hC294
        have hb3 := hb3.chg hC294 (fun h => nomatch h)
        have hv273 := hv273.ext hC294
        have hC := hC.ext hC294
        have hO := Own.join0 hO hC294 hOc294
        have hO := hO.perm (R := f294x0 ++ (f273 ++ (([g3]) ++ ([])))) (by simp)
        have hS := hS.ext hC294
        refine x_p 10 (.slice a294x0 n294x0 c294x0) rfl (by kernel_rfl)  (fun _ => y_assign rfl) (fun _ => hS) ?_
        refine x_end (by kernel_rfl) ?_
        clear hS
        refine c_seq ?_
        refine c_region ?_
        refine pl_val (.int .i64 0) (y_assign rfl) ?_
        refine c_nil ?_
        obtain ⟨o326, hl327, hs⟩ := bind_some hs
        refine wp_block ?_
        refine wp_forC (id := 4) (r295.length : Int) (I := fun k324 s322 a w323 => ∃ (σ : Nat → Value) (a328 : Option Addr) (n328 : Nat) (c328 : Nat) (f328 : List Nat), a = fr 75 (ovl σ [(1, (.slice pa1 pn1 pc1)), (2, (.pointer (some ⟨g3, 0, none⟩))), (5, (.slice a328 n328 c328)), (6, (.int .i64 k179)), (7, (.int .i64 s267.2)), (8, (.slice a294x0 n294x0 c294x0)), (9, (.int .i64 k324))]) ∧ Chg [] w w323 ∧ Own (Nw w []) M w323 (f328 ++ (f294x0 ++ (([g3]) ++ []))) ∧ (RT.rs (RT.pr (RT.int .i64) (RT.rs (RT.int .i64)))).val M w323 (.slice pa0 pn0 pc0) a_.2 ([]) ∧ (RT.rs (RT.int .i64)).val M w323 (.slice pa1 pn1 pc1) p ([]) ∧ BoxV w323 g3 62 [(.int .i64 a_.1), (.slice pa0 pn0 pc0)] ∧ (RT.os 3 (RT.int .i64)).val M w323 (.slice a294x0 n294x0 c294x0) r295 f294x0 ∧ (RT.os 3 (RT.int .i64)).val M w323 (.slice a328 n328 c328) s322 f328) (J := fun s322 a w323 => ∃ (σ : Nat → Value) (a330 : Option Addr) (n330 : Nat) (c330 : Nat) (f330 : List Nat), a = fr 75 (ovl σ [(1, (.slice pa1 pn1 pc1)), (2, (.pointer (some ⟨g3, 0, none⟩))), (5, (.slice a330 n330 c330)), (6, (.int .i64 k179)), (7, (.int .i64 s267.2))]) ∧ Chg [] w w323 ∧ Own (Nw w []) M w323 (f330 ++ (f294x0 ++ (([g3]) ++ []))) ∧ (RT.rs (RT.pr (RT.int .i64) (RT.rs (RT.int .i64)))).val M w323 (.slice pa0 pn0 pc0) a_.2 ([]) ∧ (RT.rs (RT.int .i64)).val M w323 (.slice pa1 pn1 pc1) p ([]) ∧ BoxV w323 g3 62 [(.int .i64 a_.1), (.slice pa0 pn0 pc0)] ∧ (RT.os 3 (RT.int .i64)).val M w323 (.slice a294x0 n294x0 c294x0) r295 f294x0 ∧ (RT.os 3 (RT.int .i64)).val M w323 (.slice a330 n330 c330) s322 f330) (K := (k_spec_l6Push M w)) ?_ ?_ 0 s267.1 o326 _ _ ?_ hl327 ?_
        · rintro k324 s322 a w323 ⟨σ, a328, n328, c328, f328, rfl, hC, hO, h0, h1, hb3, hv294x0, hv328⟩ hlt
          refine c_seq ?_
          refine c_seq ?_
          refine c_region ?_
          refine pl_val (.int .i64 k324) (y_move rfl) ?_
          refine pl_val (.slice a294x0 n294x0 c294x0) (y_move rfl) ?_
          refine pl_val (.int .i64 (r295.length : Int)) (y_len' Sl22 (os_len hv294x0) rfl) ?_
          refine pl_val (.bool (decide (k324 < (r295.length : Int)))) (y_lss rfl rfl) ?_
          refine c_nil ?_
          refine c_condF (congrArg Value.bool (decide_eq_false hlt)) ?_
          refine wp_exit ?_
          have hO := hO.fr2
          have hO := hO.fr2
          have hO := hO.fr2
          exact ⟨rfl, _, a328, n328, c328, f328, fr_ovl 75 ⟨rfl, rfl, rfl, rfl, rfl, trivial⟩, hC, hO, h0, h1, hb3, hv294x0, hv328⟩
        · rintro k324 s322 o326 a w323 ⟨σ, a328, n328, c328, f328, rfl, hC, hO, h0, h1, hb3, hv294x0, hv328⟩ hlt hw hs
          refine c_seq ?_
          refine c_seq ?_
          refine c_region ?_
          refine pl_val (.int .i64 k324) (y_move rfl) ?_
          refine pl_val (.slice a294x0 n294x0 c294x0) (y_move rfl) ?_
          refine pl_val (.int .i64 (r295.length : Int)) (y_len' Sl22 (os_len hv294x0) rfl) ?_
          refine pl_val (.bool (decide (k324 < (r295.length : Int)))) (y_lss rfl rfl) ?_
          refine c_nil ?_
          refine c_condT (congrArg Value.bool (decide_eq_true hlt)) ?_
          refine wp_skip ?_
          refine c_seq ?_
          refine wp_block ?_
          refine c_seq ?_
          refine c_region ?_
          refine pl_val (.slice a294x0 n294x0 c294x0) (y_move rfl) ?_
          have hO := hO.fr1
          obtain ⟨r333, hr333, hs⟩ := bind_some hs
          refine pl_call Bd169 rfl (c_spec_l1Own (M := (Less M f294x0)) r295 (((Frz.os Frz.int)).val hv294x0 Less.sub Less.not) hO.less.fut hr333) ?_
          rintro _ w332 ⟨a332x0, n332x0, c332x0, f332x0, rfl, hC332, hv332x0, hOc332⟩
          have h0 := h0.ext hC332
          have h1 := h1.ext hC332
          have hb3 := hb3.chg hC332 (fun h => nomatch h)
          have hv294x0 := hv294x0.ext hC332
          have hv328 := hv328.ext hC332
          have hC := hC.ext hC332
          have hO := Own.join0 hO hC332 hOc332
          have hO := hO.perm (R := f332x0 ++ (f294x0 ++ (f328 ++ (([g3]) ++ ([]))))) (by simp)
          have hv332x0 := hv332x0.free (M' := M) (Free.os Free.int)
          refine pl_val (.slice a332x0 n332x0 c332x0) (y_assign rfl) ?_
          refine c_nil ?_
          refine c_seq ?_
          refine c_region ?_
          refine pl_val (.slice a332x0 n332x0 c332x0) (y_move rfl) ?_
          refine pl_val (.int .i64 k324) (y_move rfl) ?_
          refine pl_val (.slice pa1 pn1 pc1) (y_move rfl) ?_
          refine pl_val (.slice a294x0 n294x0 c294x0) (y_move rfl) ?_
          refine pl_val (.int .i64 k324) (y_move rfl) ?_
          obtain ⟨x335, hx335, hs⟩ := bind_some hs
          obtain ⟨g336, f336, hg336, hk336, hp336, ha336, hf336⟩ := os_idx Sl22 Sz3 hv294x0 hx335
          refine pl_val (.pointer (some ⟨g336, 0 + Int.toNat k324 * 1, none⟩)) (hp336 _ _ _ _ _ _ _ _ _ rfl rfl) ?_
          refine pl_val (.int .i64 x335) (y_load rfl ((at_load_int Ag3 Sz3 ha336) _ (Chg.refl _ _))) ?_
          obtain ⟨x337, hx337, hs⟩ := bind_some hs
          obtain ⟨b338, o338, hp338, ha338⟩ := rs_idx Sl22 Sz3 h1 hx337
          refine pl_val (.pointer (some ⟨b338, o338, none⟩)) (hp338 _ _ _ _ _ _ _ _ _ rfl rfl) ?_
          refine pl_val (.int .i64 x337) (y_load rfl ((at_load_int Ag3 Sz3 ha338) _ (Chg.refl _ _))) ?_
          obtain ⟨x339, hx339, hs⟩ := bind_some hs
          obtain ⟨g340, f340, hg340, hk340, hp340, ha340, hf340⟩ := os_idx Sl22 Sz3 hv332x0 hx339
          refine pl_val (.pointer (some ⟨g340, 0 + Int.toNat k324 * 1, none⟩)) (hp340 _ _ _ _ _ _ _ _ _ rfl rfl) ?_
          obtain ⟨w341, f341, hst341, hC341, hf341, hv341⟩ := os_store (P := Try.prog) (c' := [(.int .i64 x337)]) hg340 hv332x0 hk340 (fun g hg => hO.inM g (os_block hv332x0 g (by simpa using hg))) ⟨rfl, rfl⟩ List.nodup_nil (fun _ h => nomatch h) (fun _ h => .inl h)
          have hG341 : ∀ q ∈ [g340], q ∈ f332x0 := fun q hq => os_block hv332x0 q (by rw [hg340]; exact hq)
          refine pl_skip (w' := w341) (ys_store rfl rfl (hst341 _ _ rfl Sz3)) ?_
          have h0 := h0.mut hC341 (fun g hg => hO.inM g (hG341 g hg)) (fun _ _ h => nomatch h)
          have h1 := h1.mut hC341 (fun g hg => hO.inM g (hG341 g hg)) (fun _ _ h => nomatch h)
          have hb3 := hb3.chg hC341 (fun hg => hO.apart _ (hG341 _ hg) (mem_r (mem_r (mem_l (List.mem_singleton.2 rfl)))))
          have hv294x0 := hv294x0.mut hC341 (fun g hg => hO.inM g (hG341 g hg)) (fun g hg e => hO.apart g (hG341 g hg) (mem_l (e)))
          have hv328 := hv328.mut hC341 (fun g hg => hO.inM g (hG341 g hg)) (fun g hg e => hO.apart g (hG341 g hg) (mem_r (mem_l (e))))
          have hC := hC.step hC341 (fun g hg => hO.inN g (hG341 g hg))
          have hO := hO.grow hC341 (fun q hq => .inl ((hf341 q hq).resolve_right (fun h => nomatch h))) (os_nodup hv341) hv341.fpl
          refine c_nil ?_
          refine x_start [] Mx rfl ?_
          have hCw342 := Chg.drew w341
          generalize World.drew w341 = w342 at hCw342 ⊢
          have h0 := h0.ext hCw342
          have h1 := h1.ext hCw342
          have hb3 := hb3.chg hCw342 (fun h => nomatch h)
          have hv294x0 := hv294x0.ext hCw342
          have hv328 := hv328.ext hCw342
          have hv341 := hv341.ext hCw342
          have hC := hC.ext hCw342
          have hO := hO.ext hCw342
          have hS := Chg.refl [] w342
          refine x_p 0 (.slice a328 n328 c328) rfl (by kernel_rfl)  (fun _ => y_move rfl) (fun _ => hS) ?_
          refine x_p 1 (.pointer (some ⟨g3, 1, none⟩)) rfl (by kernel_rfl)  (fun _ => y_faddr rfl Fa62x1) (fun _ => hS) ?_
          refine x_l 2 (.slice pa0 pn0 pc0) rfl (by kernel_rfl)  (fun w' hw' => y_load rfl ((box_load Ag60 Sz60 hb3 [(.int .i64 a_.1)] [(.slice pa0 pn0 pc0)] [] rfl rfl (fun _ => rfl)) w' hw')) hS ?_
          refine x_p 3 (.int .i64 k179) rfl (by kernel_rfl)  (fun _ => y_move rfl) (fun _ => hS) ?_
          obtain ⟨x343, hx343, hs⟩ := bind_some hs
          obtain ⟨b344, o344, hp344, ha344⟩ := rs_idx Sl60 Sz82 h0 hx343
          refine x_p 4 (.pointer (some ⟨b344, o344, none⟩)) rfl (by kernel_rfl)  (fun _ => hp344 _ _ _ _ _ _ _ _ _ rfl rfl) (fun _ => hS) ?_
          obtain ⟨_, hq345x0⟩ := pr_at ha344
          refine x_p 5 (.pointer (some ⟨b344, o344 + 1, none⟩)) rfl (by kernel_rfl)  (fun _ => y_faddr rfl Fa82x1) (fun _ => hS) ?_
          obtain ⟨v346, hl346, hv346⟩ := at_load Ag22 Sz22 (fun _ => rfl) hq345x0
          obtain ⟨a346, n346, c346, rfl⟩ := rs_sl hv346
          refine x_l 6 (.slice a346 n346 c346) rfl (by kernel_rfl)  (fun w' hw' => y_load rfl (hl346 w' hw')) hS ?_
          refine x_p 7 (.int .i64 s267.2) rfl (by kernel_rfl)  (fun _ => y_move rfl) (fun _ => hS) ?_
          obtain ⟨x348, hx348, hs⟩ := bind_some hs
          obtain ⟨b349, o349, hp349, ha349⟩ := rs_idx Sl22 Sz3 hv346 hx348
          refine x_p 8 (.pointer (some ⟨b349, o349, none⟩)) rfl (by kernel_rfl)  (fun _ => hp349 _ _ _ _ _ _ _ _ _ rfl rfl) (fun _ => hS) ?_
          refine x_l 9 (.int .i64 x348) rfl (by kernel_rfl)  (fun w' hw' => y_load rfl ((at_load_int Ag3 Sz3 ha349) w' hw')) hS ?_
          refine x_l 10 (.agg #[(.int .i64 a_.1), (.slice pa0 pn0 pc0)]) rfl (by kernel_rfl)  (fun w' hw' => y_load rfl ((box_load Ag62 Sz62 hb3 [] [(.int .i64 a_.1), (.slice pa0 pn0 pc0)] [] rfl rfl (fun h => nomatch h)) w' hw')) hS ?_
          refine x_p 11 (.int .i64 k179) rfl (by kernel_rfl)  (fun _ => y_move rfl) (fun _ => hS) ?_
          refine x_p 12 (.slice a332x0 n332x0 c332x0) rfl (by kernel_rfl)  (fun _ => y_move rfl) (fun _ => hS) ?_
          refine x_one (i := 13) (by kernel_rfl) ?_
          obtain ⟨r351, hr351, hs⟩ := bind_some hs
          refine xk_call (b := false) rfl  Bd182 rfl (c_spec_l2Value (M := (Less M f341)) (a_.1, a_.2) k179 (List.set r333 (Int.toNat k324) x337) (h0.sub Less.sub) (((Frz.os Frz.int)).val hv341 Less.sub Less.not) hO.less.fut hr351) rfl (by rintro _ _ _ ⟨rfl, hC350⟩; exact hS.ext hC350) ?_
          rintro _ w350 ⟨rfl, hC350⟩
          have h0 := h0.ext hC350
          have h1 := h1.ext hC350
          have hb3 := hb3.chg hC350 (fun h => nomatch h)
          have hv294x0 := hv294x0.ext hC350
          have hv328 := hv328.ext hC350
          have hv341 := hv341.ext hC350
          have hv346 := hv346.ext hC350
          have hC := hC.ext hC350
          have hO := hO.ext hC350
          have hS := hS.ext hC350
          refine x_one (i := 14) (by kernel_rfl) ?_
          have hO := hO.fr2
          obtain ⟨r353, hr353, hs⟩ := bind_some hs
          refine xk_call (b := false) rfl  Bd181 rfl (c_spec_l6Unite (M := (Less M f328)) s322 x348 r351 (((Frz.os Frz.int)).val hv328 Less.sub Less.not) hO.less.fut hr353) rfl (by rintro _ _ _ ⟨a352x0, n352x0, c352x0, f352x0, rfl, hC352, hv352x0, hOc352⟩; exact hS.ext hC352) ?_
          rintro _ w352 ⟨a352x0, n352x0, c352x0, f352x0, rfl, hC352, hv352x0, hOc352⟩
          have h0 := h0.ext hC352
          have h1 := h1.ext hC352
          have hb3 := hb3.chg hC352 (fun h => nomatch h)
          have hv294x0 := hv294x0.ext hC352
          have hv328 := hv328.ext hC352
          have hv341 := hv341.ext hC352
          have hv346 := hv346.ext hC352
          have hC := hC.ext hC352
          have hO := Own.join0 hO hC352 hOc352
          have hO := hO.perm (R := f352x0 ++ (f328 ++ (f341 ++ (f294x0 ++ (([g3]) ++ ([])))))) (by simp)
          have hv352x0 := hv352x0.free (M' := M) (Free.os Free.int)
          have hS := hS.ext hC352
          refine x_p 15 (.slice a352x0 n352x0 c352x0) rfl (by kernel_rfl)  (fun _ => y_assign rfl) (fun _ => hS) ?_
          refine x_end (by kernel_rfl) ?_
          clear hS
          refine c_region ?_
          refine pl_val (.int .i64 k324) (y_move rfl) ?_
          refine pl_val (.int .i64 (w64 (k324 + 1))) (y_add rfl rfl) ?_
          refine pl_val (.int .i64 (w64 (k324 + 1))) (y_assign rfl) ?_
          refine c_nil ?_
          cases hs
          have hO := hO.fr1
          have hO := hO.drop
          have hO := hO.fr1
          have hO := hO.drop
          have hO := hO.fr2
          have hO := hO.fr2
          have hO := hO.fr2
          exact ⟨_, a352x0, n352x0, c352x0, f352x0, fr_ovl 75 ⟨rfl, rfl, rfl, rfl, rfl, rfl, congrArg (Value.int .i64) hw, trivial⟩, hC, hO, h0, h1, hb3, hv294x0, hv352x0⟩
        · skip
          have hO := hO.fr2
          have hO := hO.fr1
          have hO := hO.fr2
          exact ⟨_, a273, n273, c273, f273, fr_ovl 75 ⟨rfl, rfl, rfl, rfl, rfl, rfl, rfl, trivial⟩, hC, hO, h0, h1, hb3, hv294x0, hv273⟩
        · cases o326 with
          | nx _ => exact True.intro
          | rt r_ =>
            have hs := after_rt hs
            intro a1 w1 hK
            cases hs
            exact hK
          | br s322 =>
            have hs := after_br hs
            rintro a1 w323 ⟨σ, a330, n330, c330, f330, rfl, hC, hO, h0, h1, hb3, hv294x0, hv330⟩
            refine c_region ?_
            refine pl_val (.int .i64 s267.2) (y_move rfl) ?_
            refine pl_val (.int .i64 (w64 (s267.2 + 1))) (y_add rfl rfl) ?_
            refine pl_val (.int .i64 (w64 (s267.2 + 1))) (y_assign rfl) ?_
            refine c_nil ?_
            cases hs
            have hO := hO.fr1
            have hO := hO.drop
            have hO := hO.fr1
            have hO := hO.fr1
            exact ⟨_, a330, n330, c330, f330, fr_ovl 75 ⟨rfl, rfl, rfl, rfl, rfl, trivial⟩, hC, hO, h0, h1, hb3, hv330⟩
      · skip
        refine c_condF (congrArg Value.bool hc282) ?_
        refine wp_exit ?_
        cases hs
        have hO := hO.fr1
        have hO := hO.fr1
        exact ⟨rfl, _, a273, n273, c273, f273, fr_ovl 75 ⟨rfl, rfl, rfl, rfl, trivial⟩, hC, hO, h0, h1, hb3, hv273⟩
    · skip
      have hO := hO.fr1
      have hO := hO.fr1
      exact ⟨_, a183, n183, c183, f183, fr_ovl 75 ⟨rfl, rfl, rfl, rfl, rfl, trivial⟩, hC, hO, h0, h1, hb3, hv183⟩
    · cases o271 with
      | nx _ => exact True.intro
      | rt r_ =>
        have hs := after_rt hs
        intro a1 w1 hK
        cases hs
        exact hK
      | br s267 =>
        have hs := after_br hs
        rintro a1 w268 ⟨σ, a275, n275, c275, f275, rfl, hC, hO, h0, h1, hb3, hv275⟩
        refine c_region ?_
        refine pl_val (.int .i64 k179) (y_move rfl) ?_
        refine pl_val (.int .i64 (w64 (k179 + 1))) (y_add rfl rfl) ?_
        refine pl_val (.int .i64 (w64 (k179 + 1))) (y_assign rfl) ?_
        refine c_nil ?_
        cases hs
        have hO := hO.fr1
        have hO := hO.fr1
        exact ⟨_, a275, n275, c275, f275, fr_ovl 75 ⟨rfl, rfl, rfl, congrArg (Value.int .i64) hw, trivial⟩, hC, hO, h0, h1, hb3, hv275⟩
  · skip
    have hO := hO.fr1
    have hO := hO.fr1
    exact ⟨_, a4x0, n4x0, c4x0, f4x0, fr_ovl 75 ⟨rfl, rfl, rfl, rfl, trivial⟩, hC, hO, h0, h1, hb3, hv4x0⟩
  · cases o181 with
    | nx _ => exact True.intro
    | rt r_ =>
      have hs := after_rt hs
      intro a1 w1 hK
      cases hs
      exact hK
    | br s177 =>
      have hs := after_br hs
      rintro a1 w178 ⟨σ, a185, n185, c185, f185, rfl, hC, hO, h0, h1, hb3, hv185⟩
      refine c_seq ?_
      refine c_region ?_
      refine pl_val (.slice a185 n185 c185) (y_move rfl) ?_
      refine pl_val (.slice a185 n185 c185) (y_assign rfl) ?_
      refine c_nil ?_
      refine wp_ret ?_
      cases hs
      have hO := hO.fr1
      have hO := hO.drop
      exact ⟨_, a185, n185, c185, f185, fr_ovl 75 ⟨rfl, trivial⟩, hC, hv185, hO.top⟩

def k_spec_l1Same (M : Nat → Prop) (w0 : World) (r : Bool) (a : Act) (w : World) : Prop :=
  ∃ (σ : Nat → Value) , a = fr 26 (ovl σ [(4, (.bool r))]) ∧ Chg [] w0 w
def s_spec_l1Same (a_ : List Int) (b : List Int) : Option (Bool) :=
  (bif ((a_.length : Int) != (b.length : Int)) then some false else (forC (S := Unit) (R := Bool) (fun k12 s10 =>
  (idx a_ k12).bind fun x17 =>
  (idx b k12).bind fun x19 =>
  (bif (x17 != x19) then some (.rt false) else some (.nx ()))) 0 (a_.length : Int) ()).bind fun o14 => after o14 (fun r_ => some r_) (fun s10 =>
  some true))
set_option maxHeartbeats 4000000 in
theorem c_spec_l1Same {M : Nat → Prop} {w : World} {pa0 : Option Addr} {pn0 pc0 : Nat} {pa1 : Option Addr} {pn1 pc1 : Nat} (a_ : List Int) (b : List Int) (h0 : (RT.rs (RT.int .i64)).val M w (.slice pa0 pn0 pc0) a_ ([])) (h1 : (RT.rs (RT.int .i64)).val M w (.slice pa1 pn1 pc1) b ([])) (hM : ∀ g, w.heap.size ≤ g → M g) {r : Bool} (hs : s_spec_l1Same a_ b = some r) :
    Gives Try.prog 130 [(.slice pa0 pn0 pc0), (.slice pa1 pn1 pc1)] w (fun v w' => v = (.bool r) ∧ Chg [] w w') := by
  refine calls_fr Try.func130 rfl Try.ntmps130 (Nat.le_of_ble_eq_true rfl) ?_
  have hO := Own.start (N := Nw w []) hM Nw.fut
  have hC := Chg.refl [] w
  unfold s_spec_l1Same at hs
  refine wp_mono (Q := KPost (k_spec_l1Same M w r)) ?_ (fun e a w1 h => ?_)
  rotate_left
  · cases e
    case ret =>
      obtain ⟨σ, rfl, hrest⟩ := h
      exact ret1x Try.results130 (res_tmp rfl) ⟨rfl, hrest⟩
    all_goals exact (h : False).elim
  refine c_seq ?_
  refine c_region ?_
  refine pl_val (.bool false) (y_assign rfl) ?_
  refine c_nil ?_
  refine c_seq ?_
  refine c_seq ?_
  refine c_region ?_
  refine pl_val (.slice pa0 pn0 pc0) (y_move rfl) ?_
  refine pl_val (.int .i64 (a_.length : Int)) (y_len' Sl22 (rs_len h0) rfl) ?_
  refine pl_val (.slice pa1 pn1 pc1) (y_move rfl) ?_
  refine pl_val (.int .i64 (b.length : Int)) (y_len' Sl22 (rs_len h1) rfl) ?_
  refine pl_val (.bool ((a_.length : Int) != (b.length : Int))) (y_neq rfl rfl) ?_
  refine c_nil ?_
  rcases bif_some hs with ⟨hc3, hs⟩ | ⟨hc3, hs⟩
  · skip
    refine c_condT (congrArg Value.bool hc3) ?_
    refine c_seq ?_
    refine c_region ?_
    refine pl_val (.bool false) (y_assign rfl) ?_
    refine c_nil ?_
    refine wp_ret ?_
    cases hs
    exact ⟨_, fr_ovl 26 ⟨rfl, trivial⟩, hC⟩
  · skip
    refine c_condF (congrArg Value.bool hc3) ?_
    refine wp_skip ?_
    refine c_seq ?_
    refine c_seq ?_
    refine c_region ?_
    refine pl_val (.int .i64 0) (y_assign rfl) ?_
    refine c_nil ?_
    obtain ⟨o14, hl15, hs⟩ := bind_some hs
    refine wp_block ?_
    refine wp_forC (id := 0) (a_.length : Int) (I := fun k12 s10 a w11 => ∃ (σ : Nat → Value), a = fr 26 (ovl σ [(0, (.slice pa0 pn0 pc0)), (1, (.slice pa1 pn1 pc1)), (5, (.int .i64 k12))]) ∧ Chg [] w w11 ∧ Own (Nw w []) M w11 ([]) ∧ (RT.rs (RT.int .i64)).val M w11 (.slice pa0 pn0 pc0) a_ ([]) ∧ (RT.rs (RT.int .i64)).val M w11 (.slice pa1 pn1 pc1) b ([])) (J := fun s10 a w11 => ∃ (σ : Nat → Value), a = fr 26 (ovl σ []) ∧ Chg [] w w11 ∧ Own (Nw w []) M w11 ([]) ∧ (RT.rs (RT.int .i64)).val M w11 (.slice pa0 pn0 pc0) a_ ([]) ∧ (RT.rs (RT.int .i64)).val M w11 (.slice pa1 pn1 pc1) b ([])) (K := (k_spec_l1Same M w)) ?_ ?_ 0 () o14 _ _ ?_ hl15 ?_
    · rintro k12 s10 a w11 ⟨σ, rfl, hC, hO, h0, h1⟩ hlt
      refine c_seq ?_
      refine c_seq ?_
      refine c_region ?_
      refine pl_val (.int .i64 k12) (y_move rfl) ?_
      refine pl_val (.slice pa0 pn0 pc0) (y_move rfl) ?_
      refine pl_val (.int .i64 (a_.length : Int)) (y_len' Sl22 (rs_len h0) rfl) ?_
      refine pl_val (.bool (decide (k12 < (a_.length : Int)))) (y_lss rfl rfl) ?_
      refine c_nil ?_
      refine c_condF (congrArg Value.bool (decide_eq_false hlt)) ?_
      refine wp_exit ?_
      exact ⟨rfl, _, fr_ovl 26 trivial, hC, hO, h0, h1⟩
    · rintro k12 s10 o14 a w11 ⟨σ, rfl, hC, hO, h0, h1⟩ hlt hw hs
      refine c_seq ?_
      refine c_seq ?_
      refine c_region ?_
      refine pl_val (.int .i64 k12) (y_move rfl) ?_
      refine pl_val (.slice pa0 pn0 pc0) (y_move rfl) ?_
      refine pl_val (.int .i64 (a_.length : Int)) (y_len' Sl22 (rs_len h0) rfl) ?_
      refine pl_val (.bool (decide (k12 < (a_.length : Int)))) (y_lss rfl rfl) ?_
      refine c_nil ?_
      refine c_condT (congrArg Value.bool (decide_eq_true hlt)) ?_
      refine wp_skip ?_
      refine c_seq ?_
      refine wp_block ?_
      refine c_seq ?_
      refine x_start [] Mx rfl ?_
      have hCw16 := Chg.drew w11
      generalize World.drew w11 = w16 at hCw16 ⊢
      have h0 := h0.ext hCw16
      have h1 := h1.ext hCw16
      have hC := hC.ext hCw16
      have hO := hO.ext hCw16
      have hS := Chg.refl [] w16
      refine x_p 0 (.slice pa0 pn0 pc0) rfl (by kernel_rfl)  (fun _ => y_move rfl) (fun _ => hS) ?_
      refine x_p 1 (.int .i64 k12) rfl (by kernel_rfl)  (fun _ => y_move rfl) (fun _ => hS) ?_
      obtain ⟨x17, hx17, hs⟩ := bind_some hs
      obtain ⟨b18, o18, hp18, ha18⟩ := rs_idx Sl22 Sz3 h0 hx17
      refine x_p 2 (.pointer (some ⟨b18, o18, none⟩)) rfl (by kernel_rfl)  (fun _ => hp18 _ _ _ _ _ _ _ _ _ rfl rfl) (fun _ => hS) ?_
      refine x_l 3 (.int .i64 x17) rfl (by kernel_rfl)  (fun w' hw' => y_load rfl ((at_load_int Ag3 Sz3 ha18) w' hw')) hS ?_
      refine x_p 4 (.slice pa1 pn1 pc1) rfl (by kernel_rfl)  (fun _ => y_move rfl) (fun _ => hS) ?_
      refine x_p 5 (.int .i64 k12) rfl (by kernel_rfl)  (fun _ => y_move rfl) (fun _ => hS) ?_
      obtain ⟨x19, hx19, hs⟩ := bind_some hs
      obtain ⟨b20, o20, hp20, ha20⟩ := rs_idx Sl22 Sz3 h1 hx19
      refine x_p 6 (.pointer (some ⟨b20, o20, none⟩)) rfl (by kernel_rfl)  (fun _ => hp20 _ _ _ _ _ _ _ _ _ rfl rfl) (fun _ => hS) ?_
      refine x_l 7 (.int .i64 x19) rfl (by kernel_rfl)  (fun w' hw' => y_load rfl ((at_load_int Ag3 Sz3 ha20) w' hw')) hS ?_
      refine x_p 8 (.bool (x17 != x19)) rfl (by kernel_rfl)  (fun _ => y_neq rfl rfl) (fun _ => hS) ?_
      refine x_end (by kernel_rfl) ?_
      clear hS
      rcases bif_some hs with ⟨hc21, hs⟩ | ⟨hc21, hs⟩
      · skip
        refine c_condT (congrArg Value.bool hc21) ?_
        refine c_seq ?_
        refine c_region ?_
        refine pl_val (.bool false) (y_assign rfl) ?_
        refine c_nil ?_
        refine wp_ret ?_
        cases hs
        exact ⟨_, fr_ovl 26 ⟨rfl, trivial⟩, hC⟩
      · skip
        refine c_condF (congrArg Value.bool hc21) ?_
        refine wp_skip ?_
        refine c_region ?_
        refine pl_val (.int .i64 k12) (y_move rfl) ?_
        refine pl_val (.int .i64 (w64 (k12 + 1))) (y_add rfl rfl) ?_
        refine pl_val (.int .i64 (w64 (k12 + 1))) (y_assign rfl) ?_
        refine c_nil ?_
        cases hs
        exact ⟨_, fr_ovl 26 ⟨rfl, rfl, congrArg (Value.int .i64) hw, trivial⟩, hC, hO, h0, h1⟩
    · skip
      exact ⟨_, fr_ovl 26 ⟨rfl, rfl, rfl, trivial⟩, hC, hO, h0, h1⟩
    · cases o14 with
      | nx _ => exact True.intro
      | rt r_ =>
        have hs := after_rt hs
        intro a1 w1 hK
        cases hs
        exact hK
      | br s10 =>
        have hs := after_br hs
        rintro a1 w11 ⟨σ, rfl, hC, hO, h0, h1⟩
        refine c_seq ?_
        refine c_region ?_
        refine pl_val (.bool true) (y_assign rfl) ?_
        refine c_nil ?_
        refine wp_ret ?_
        cases hs
        exact ⟨_, fr_ovl 26 ⟨rfl, trivial⟩, hC⟩

theorem Bd110 : Bodied Try.prog 110 := bodied Try.func110 (by kernel_rfl) rfl

theorem Bd159 : Bodied Try.prog 159 := bodied Try.func159 (by kernel_rfl) rfl

theorem Bd130 : Bodied Try.prog 130 := bodied Try.func130 (by kernel_rfl) rfl

end Go.Proofs
