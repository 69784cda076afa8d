/- What functions of the program compute, as plain functions, and that a call gives just that. Conditions: those named in each theorem. -/
import Derived.Test.YtceenhnjdnggjaaGFoc
import Derived.Test.YtceenhnjdnggjaaRows
set_option linter.unusedVariables false
namespace Go.Proofs
open Go.G Go.RowKit
set_option maxRecDepth 100000

theorem Sl22 : SlT Try.prog 22 3 := Try.underlying22

def k_laws_szIntS (M : Nat → Prop) (w0 : World) (r : Int) (a : Act) (w : World) : Prop :=
  ∃ (σ : Nat → Value) , a = fr 12 (ovl σ [(4, (.int .i64 r))]) ∧ Chg [] w0 w
def s_laws_szIntS (a_ : List Int) (left : Int) : Option (Int) :=
  (bif (decide ((w64 (left - (a_.length : Int))) < 0)) then some (-1) else some (w64 (left - (a_.length : Int))))
set_option maxHeartbeats 4000000 in
theorem c_laws_szIntS {M : Nat → Prop} {w : World} {pa0 : Option Addr} {pn0 pc0 : Nat} (a_ : List Int) (left : Int) (h0 : (RT.rs (RT.int .i64)).val M w (.slice pa0 pn0 pc0) a_ ([])) (hM : ∀ g, w.heap.size ≤ g → M g) {r : Int} (hs : s_laws_szIntS a_ left = some r) :
    Gives Try.prog 108 [(.slice pa0 pn0 pc0), (.int .i64 left)] w (fun v w' => v = (.int .i64 r) ∧ Chg [] w w') := by
  refine calls_fr Try.func108 rfl Try.ntmps108 (Nat.le_of_ble_eq_true rfl) ?_
  have hO := Own.start (N := Nw w []) hM Nw.fut
  have hC := Chg.refl [] w
  unfold s_laws_szIntS at hs
  refine wp_mono (Q := KPost (k_laws_szIntS M w r)) ?_ (fun e a w1 h => ?_)
  rotate_left
  · cases e
    case ret =>
      obtain ⟨σ, rfl, hrest⟩ := h
      exact ret1x Try.results108 (res_tmp rfl) ⟨rfl, hrest⟩
    all_goals exact (h : False).elim
  refine c_seq ?_
  refine c_region ?_
  refine pl_val (.int .i64 0) (y_assign rfl) ?_
  refine c_nil ?_
  refine c_seq ?_
  refine c_region ?_
  refine pl_val (.int .i64 left) (y_move rfl) ?_
  refine pl_val (.slice pa0 pn0 pc0) (y_move rfl) ?_
  refine pl_val (.int .i64 (a_.length : Int)) (y_len' Sl22 (rs_len h0) rfl) ?_
  refine pl_val (.int .i64 (w64 (left - (a_.length : Int)))) (y_sub rfl rfl) ?_
  refine pl_val (.int .i64 (w64 (left - (a_.length : Int)))) (y_assign rfl) ?_
  refine c_nil ?_
  refine c_seq ?_
  refine c_seq ?_
  refine c_region ?_
  refine pl_val (.int .i64 (w64 (left - (a_.length : Int)))) (y_move rfl) ?_
  refine pl_val (.bool (decide ((w64 (left - (a_.length : Int))) < 0))) (y_lss rfl rfl) ?_
  refine c_nil ?_
  rcases bif_some hs with ⟨hc2, hs⟩ | ⟨hc2, hs⟩
  · skip
    refine c_condT (congrArg Value.bool hc2) ?_
    refine c_seq ?_
    refine c_region ?_
    refine pl_val (.int .i64 (-1)) (y_assign rfl) ?_
    refine c_nil ?_
    refine wp_ret ?_
    cases hs
    exact ⟨_, fr_ovl 12 ⟨rfl, trivial⟩, hC⟩
  · skip
    refine c_condF (congrArg Value.bool hc2) ?_
    refine wp_skip ?_
    refine c_seq ?_
    refine c_region ?_
    refine pl_val (.int .i64 (w64 (left - (a_.length : Int)))) (y_move rfl) ?_
    refine pl_val (.int .i64 (w64 (left - (a_.length : Int)))) (y_assign rfl) ?_
    refine c_nil ?_
    refine wp_ret ?_
    cases hs
    exact ⟨_, fr_ovl 12 ⟨rfl, trivial⟩, hC⟩

theorem Sl29 : SlT Try.prog 29 22 := Try.underlying29

theorem Sz22 : SzT Try.prog 22 1 := ⟨_, rfl, rfl⟩

theorem Ag22 : AggT Try.prog 22 false := fun _ => by kernel_rfl

theorem Bd108 : Bodied Try.prog 108 := bodied Try.func108 (by kernel_rfl) rfl

def k_laws_szIntSS (M : Nat → Prop) (w0 : World) (r : Int) (a : Act) (w : World) : Prop :=
  ∃ (σ : Nat → Value) , a = fr 27 (ovl σ [(4, (.int .i64 r))]) ∧ Chg [] w0 w
def s_laws_szIntSS (a_ : List (List Int)) (left : Int) : Option (Int) :=
  (bif (decide ((w64 (left - (a_.length : Int))) < 0)) then some (-1) else (forC (S := Int) (R := Int) (fun k12 s10 =>
  (idx a_ k12).bind fun x16 =>
  (s_laws_szIntS x16 s10).bind fun r21 =>
  (bif (decide (r21 < 0)) then some (.rt (-1)) else some (.nx r21))) 0 (a_.length : Int) (w64 (left - (a_.length : Int)))).bind fun o14 => after o14 (fun r_ => some r_) (fun s10 =>
  some s10))
set_option maxHeartbeats 4000000 in
theorem c_laws_szIntSS {M : Nat → Prop} {w : World} {pa0 : Option Addr} {pn0 pc0 : Nat} (a_ : List (List Int)) (left : Int) (h0 : (RT.rs (RT.rs (RT.int .i64))).val M w (.slice pa0 pn0 pc0) a_ ([])) (hM : ∀ g, w.heap.size ≤ g → M g) {r : Int} (hs : s_laws_szIntSS a_ left = some r) :
    Gives Try.prog 48 [(.slice pa0 pn0 pc0), (.int .i64 left)] w (fun v w' => v = (.int .i64 r) ∧ Chg [] w w') := by
  refine calls_fr Try.func48 rfl Try.ntmps48 (Nat.le_of_ble_eq_true rfl) ?_
  have hO := Own.start (N := Nw w []) hM Nw.fut
  have hC := Chg.refl [] w
  unfold s_laws_szIntSS at hs
  refine wp_mono (Q := KPost (k_laws_szIntSS M w r)) ?_ (fun e a w1 h => ?_)
  rotate_left
  · cases e
    case ret =>
      obtain ⟨σ, rfl, hrest⟩ := h
      exact ret1x Try.results48 (res_tmp rfl) ⟨rfl, hrest⟩
    all_goals exact (h : False).elim
  refine c_seq ?_
  refine c_region ?_
  refine pl_val (.int .i64 0) (y_assign rfl) ?_
  refine c_nil ?_
  refine c_seq ?_
  refine c_region ?_
  refine pl_val (.int .i64 left) (y_move rfl) ?_
  refine pl_val (.slice pa0 pn0 pc0) (y_move rfl) ?_
  refine pl_val (.int .i64 (a_.length : Int)) (y_len' Sl29 (rs_len h0) rfl) ?_
  refine pl_val (.int .i64 (w64 (left - (a_.length : Int)))) (y_sub rfl rfl) ?_
  refine pl_val (.int .i64 (w64 (left - (a_.length : Int)))) (y_assign rfl) ?_
  refine c_nil ?_
  refine c_seq ?_
  refine c_seq ?_
  refine c_region ?_
  refine pl_val (.int .i64 (w64 (left - (a_.length : Int)))) (y_move rfl) ?_
  refine pl_val (.bool (decide ((w64 (left - (a_.length : Int))) < 0))) (y_lss rfl rfl) ?_
  refine c_nil ?_
  rcases bif_some hs with ⟨hc2, hs⟩ | ⟨hc2, hs⟩
  · skip
    refine c_condT (congrArg Value.bool hc2) ?_
    refine c_seq ?_
    refine c_region ?_
    refine pl_val (.int .i64 (-1)) (y_assign rfl) ?_
    refine c_nil ?_
    refine wp_ret ?_
    cases hs
    exact ⟨_, fr_ovl 27 ⟨rfl, trivial⟩, hC⟩
  · skip
    refine c_condF (congrArg Value.bool hc2) ?_
    refine wp_skip ?_
    refine c_seq ?_
    refine c_seq ?_
    refine c_region ?_
    refine pl_val (.int .i64 0) (y_assign rfl) ?_
    refine c_nil ?_
    obtain ⟨o14, hl15, hs⟩ := bind_some hs
    refine wp_block ?_
    refine wp_forC (id := 0) (a_.length : Int) (I := fun k12 s10 a w11 => ∃ (σ : Nat → Value), a = fr 27 (ovl σ [(0, (.slice pa0 pn0 pc0)), (1, (.int .i64 s10)), (5, (.int .i64 k12))]) ∧ Chg [] w w11 ∧ Own (Nw w []) M w11 ([]) ∧ (RT.rs (RT.rs (RT.int .i64))).val M w11 (.slice pa0 pn0 pc0) a_ ([])) (J := fun s10 a w11 => ∃ (σ : Nat → Value), a = fr 27 (ovl σ [(1, (.int .i64 s10))]) ∧ Chg [] w w11 ∧ Own (Nw w []) M w11 ([]) ∧ (RT.rs (RT.rs (RT.int .i64))).val M w11 (.slice pa0 pn0 pc0) a_ ([])) (K := (k_laws_szIntSS M w)) ?_ ?_ 0 (w64 (left - (a_.length : Int))) o14 _ _ ?_ hl15 ?_
    · rintro k12 s10 a w11 ⟨σ, rfl, hC, hO, h0⟩ hlt
      refine c_seq ?_
      refine c_seq ?_
      refine c_region ?_
      refine pl_val (.int .i64 k12) (y_move rfl) ?_
      refine pl_val (.slice pa0 pn0 pc0) (y_move rfl) ?_
      refine pl_val (.int .i64 (a_.length : Int)) (y_len' Sl29 (rs_len h0) rfl) ?_
      refine pl_val (.bool (decide (k12 < (a_.length : Int)))) (y_lss rfl rfl) ?_
      refine c_nil ?_
      refine c_condF (congrArg Value.bool (decide_eq_false hlt)) ?_
      refine wp_exit ?_
      exact ⟨rfl, _, fr_ovl 27 ⟨rfl, trivial⟩, hC, hO, h0⟩
    · rintro k12 s10 o14 a w11 ⟨σ, rfl, hC, hO, h0⟩ hlt hw hs
      refine c_seq ?_
      refine c_seq ?_
      refine c_region ?_
      refine pl_val (.int .i64 k12) (y_move rfl) ?_
      refine pl_val (.slice pa0 pn0 pc0) (y_move rfl) ?_
      refine pl_val (.int .i64 (a_.length : Int)) (y_len' Sl29 (rs_len h0) rfl) ?_
      refine pl_val (.bool (decide (k12 < (a_.length : Int)))) (y_lss rfl rfl) ?_
      refine c_nil ?_
      refine c_condT (congrArg Value.bool (decide_eq_true hlt)) ?_
      refine wp_skip ?_
      refine c_seq ?_
      refine wp_block ?_
      refine c_seq ?_
      refine c_region ?_
      refine pl_val (.slice pa0 pn0 pc0) (y_move rfl) ?_
      refine pl_val (.int .i64 k12) (y_move rfl) ?_
      obtain ⟨x16, hx16, hs⟩ := bind_some hs
      obtain ⟨b17, o17, hp17, ha17⟩ := rs_idx Sl29 Sz22 h0 hx16
      refine pl_val (.pointer (some ⟨b17, o17, none⟩)) (hp17 _ _ _ _ _ _ _ _ _ rfl rfl) ?_
      obtain ⟨v18, hl18, hv18⟩ := at_load Ag22 Sz22 (fun _ => rfl) ha17
      obtain ⟨a18, n18, c18, rfl⟩ := rs_sl hv18
      refine pl_val (.slice a18 n18 c18) (y_load rfl (hl18 _ (Chg.refl _ _))) ?_
      refine pl_val (.int .i64 s10) (y_move rfl) ?_
      obtain ⟨r21, hr21, hs⟩ := bind_some hs
      refine pl_call Bd108 rfl (c_laws_szIntS (M := M) x16 s10 hv18 hO.fut hr21) ?_
      rintro _ w20 ⟨rfl, hC20⟩
      have h0 := h0.ext hC20
      have hv18 := hv18.ext hC20
      have hC := hC.ext hC20
      have hO := hO.ext hC20
      refine pl_val (.int .i64 r21) (y_assign rfl) ?_
      refine c_nil ?_
      refine c_seq ?_
      refine c_region ?_
      refine pl_val (.int .i64 r21) (y_move rfl) ?_
      refine pl_val (.bool (decide (r21 < 0))) (y_lss rfl rfl) ?_
      refine c_nil ?_
      rcases bif_some hs with ⟨hc22, hs⟩ | ⟨hc22, hs⟩
      · skip
        refine c_condT (congrArg Value.bool hc22) ?_
        refine c_seq ?_
        refine c_region ?_
        refine pl_val (.int .i64 (-1)) (y_assign rfl) ?_
        refine c_nil ?_
        refine wp_ret ?_
        cases hs
        exact ⟨_, fr_ovl 27 ⟨rfl, trivial⟩, hC⟩
      · skip
        refine c_condF (congrArg Value.bool hc22) ?_
        refine wp_skip ?_
        refine c_region ?_
        refine pl_val (.int .i64 k12) (y_move rfl) ?_
        refine pl_val (.int .i64 (w64 (k12 + 1))) (y_add rfl rfl) ?_
        refine pl_val (.int .i64 (w64 (k12 + 1))) (y_assign rfl) ?_
        refine c_nil ?_
        cases hs
        exact ⟨_, fr_ovl 27 ⟨rfl, rfl, congrArg (Value.int .i64) hw, trivial⟩, hC, hO, h0⟩
    · skip
      exact ⟨_, fr_ovl 27 ⟨rfl, rfl, rfl, trivial⟩, hC, hO, h0⟩
    · cases o14 with
      | nx _ => exact True.intro
      | rt r_ =>
        have hs := after_rt hs
        intro a1 w1 hK
        cases hs
        exact hK
      | br s10 =>
        have hs := after_br hs
        rintro a1 w11 ⟨σ, rfl, hC, hO, h0⟩
        refine c_seq ?_
        refine c_region ?_
        refine pl_val (.int .i64 s10) (y_move rfl) ?_
        refine pl_val (.int .i64 s10) (y_assign rfl) ?_
        refine c_nil ?_
        refine wp_ret ?_
        cases hs
        exact ⟨_, fr_ovl 27 ⟨rfl, trivial⟩, hC⟩

theorem Fa36x1 : ∀ (a : Addr) (w : World), (Instr.fieldAt 36 (.pointer (some a)) 1).run Try.prog w = .ok (.pointer (some (a.add 1))) w := fun _ _ => by kernel_rfl

theorem Ag29 : AggT Try.prog 29 false := fun _ => by kernel_rfl

theorem Sz29 : SzT Try.prog 29 1 := ⟨_, rfl, rfl⟩

theorem Bd48 : Bodied Try.prog 48 := bodied Try.func48 (by kernel_rfl) rfl

def k_laws_szRelation (M : Nat → Prop) (w0 : World) (r : Int) (a : Act) (w : World) : Prop :=
  ∃ (σ : Nat → Value) , a = fr 12 (ovl σ [(4, (.int .i64 r))]) ∧ Chg [] w0 w
def s_laws_szRelation (a_ : Int × (List (List Int))) (left : Int) : Option (Int) :=
  (s_laws_szIntSS a_.2 left).bind fun r4 =>
  (bif (decide (r4 < 0)) then some (-1) else some r4)
set_option maxHeartbeats 4000000 in
theorem c_laws_szRelation {M : Nat → Prop} {w : World} {pa0 : Option Addr} {pn0 pc0 : Nat} (a_ : Int × (List (List Int))) (left : Int) (h0 : (RT.rs (RT.rs (RT.int .i64))).val M w (.slice pa0 pn0 pc0) a_.2 ([])) (hM : ∀ g, w.heap.size ≤ g → M g) {r : Int} (hs : s_laws_szRelation a_ left = some r) :
    Gives Try.prog 26 [(.agg #[(.int .i64 a_.1), (.slice pa0 pn0 pc0)]), (.int .i64 left)] w (fun v w' => v = (.int .i64 r) ∧ Chg [] w w') := by
  refine calls_fr Try.func26 rfl Try.ntmps26 (Nat.le_of_ble_eq_true rfl) ?_
  have hO := Own.start (N := Nw w []) hM Nw.fut
  have hC := Chg.refl [] w
  unfold s_laws_szRelation at hs
  refine wp_mono (Q := KPost (k_laws_szRelation M w r)) ?_ (fun e a w1 h => ?_)
  rotate_left
  · cases e
    case ret =>
      obtain ⟨σ, rfl, hrest⟩ := h
      exact ret1x Try.results26 (res_tmp rfl) ⟨rfl, hrest⟩
    all_goals exact (h : False).elim
  refine c_seq ?_
  refine c_region ?_
  obtain ⟨w2, g2, ew2, eg2, hC2, hb2⟩ := new_block w [(.int .i64 a_.1), (.slice pa0 pn0 pc0)] 36
  refine pl_val (w' := w2) (.pointer (some ⟨g2, 0, none⟩)) (y_box rfl (by rw [ew2, eg2]; kernel_rfl)) ?_
  have h0 := h0.ext hC2
  have hC := hC.ext hC2
  have hO := hO.new (X' := [g2]) hC2 (fun q hq => by rw [List.mem_singleton.1 hq, eg2]; exact Nat.le_refl _) (List.nodup_cons.2 ⟨(fun h => nomatch h), List.nodup_nil⟩) (fun q hq => by rw [List.mem_singleton.1 hq]; exact hb2.lt)
  refine pl_val (.int .i64 0) (y_assign rfl) ?_
  refine c_nil ?_
  refine c_seq ?_
  refine c_region ?_
  refine pl_val (.pointer (some ⟨g2, 1, none⟩)) (y_faddr rfl Fa36x1) ?_
  refine pl_val (.slice pa0 pn0 pc0) (y_load rfl ((box_load Ag29 Sz29 hb2 [(.int .i64 a_.1)] [(.slice pa0 pn0 pc0)] [] rfl rfl (fun _ => rfl)) _ (Chg.refl _ _))) ?_
  refine pl_val (.int .i64 left) (y_move rfl) ?_
  obtain ⟨r4, hr4, hs⟩ := bind_some hs
  refine pl_call Bd48 rfl (c_laws_szIntSS (M := M) a_.2 left h0 hO.fut hr4) ?_
  rintro _ w3 ⟨rfl, hC3⟩
  have h0 := h0.ext hC3
  have hb2 := hb2.chg hC3 (fun h => nomatch h)
  have hC := hC.ext hC3
  have hO := hO.ext hC3
  refine pl_val (.int .i64 r4) (y_assign rfl) ?_
  refine c_nil ?_
  refine c_seq ?_
  refine c_seq ?_
  refine c_region ?_
  refine pl_val (.int .i64 r4) (y_move rfl) ?_
  refine pl_val (.bool (decide (r4 < 0))) (y_lss rfl rfl) ?_
  refine c_nil ?_
  rcases bif_some hs with ⟨hc5, hs⟩ | ⟨hc5, hs⟩
  · skip
    refine c_condT (congrArg Value.bool hc5) ?_
    refine c_seq ?_
    refine c_region ?_
    refine pl_val (.int .i64 (-1)) (y_assign rfl) ?_
    refine c_nil ?_
    refine wp_ret ?_
    cases hs
    exact ⟨_, fr_ovl 12 ⟨rfl, trivial⟩, hC⟩
  · skip
    refine c_condF (congrArg Value.bool hc5) ?_
    refine wp_skip ?_
    refine c_seq ?_
    refine c_region ?_
    refine pl_val (.int .i64 r4) (y_move rfl) ?_
    refine pl_val (.int .i64 r4) (y_assign rfl) ?_
    refine c_nil ?_
    refine wp_ret ?_
    cases hs
    exact ⟨_, fr_ovl 12 ⟨rfl, trivial⟩, hC⟩

theorem Fa152x0 : ∀ (a : Addr) (w : World), (Instr.fieldAt 152 (.pointer (some a)) 0).run Try.prog w = .ok (.pointer (some (a.add 0))) w := fun _ _ => by kernel_rfl

theorem Fa152x1 : ∀ (a : Addr) (w : World), (Instr.fieldAt 152 (.pointer (some a)) 1).run Try.prog w = .ok (.pointer (some (a.add 1))) w := fun _ _ => by kernel_rfl

theorem Ag36 : AggT Try.prog 36 true := fun _ => by kernel_rfl

theorem Sz36 : SzT Try.prog 36 2 := ⟨_, rfl, rfl⟩

theorem Bd26 : Bodied Try.prog 26 := bodied Try.func26 (by kernel_rfl) rfl

def k_laws_szConstraint (M : Nat → Prop) (w0 : World) (r : Int) (a : Act) (w : World) : Prop :=
  ∃ (σ : Nat → Value) , a = fr 18 (ovl σ [(4, (.int .i64 r))]) ∧ Chg [] w0 w
def s_laws_szConstraint (a_ : (List Int) × (Int × (List (List Int)))) (left : Int) : Option (Int) :=
  (s_laws_szIntS a_.1 left).bind fun r5 =>
  (bif (decide (r5 < 0)) then some (-1) else (s_laws_szRelation (a_.2.1, a_.2.2) r5).bind fun r8 =>
  (bif (decide (r8 < 0)) then some (-1) else some r8))
set_option maxHeartbeats 4000000 in
theorem c_laws_szConstraint {M : Nat → Prop} {w : World} {pa0 : Option Addr} {pn0 pc0 : Nat} {pa1 : Option Addr} {pn1 pc1 : Nat} (a_ : (List Int) × (Int × (List (List Int)))) (left : Int) (h0 : (RT.rs (RT.int .i64)).val M w (.slice pa0 pn0 pc0) a_.1 ([])) (h1 : (RT.rs (RT.rs (RT.int .i64))).val M w (.slice pa1 pn1 pc1) a_.2.2 ([])) (hM : ∀ g, w.heap.size ≤ g → M g) {r : Int} (hs : s_laws_szConstraint a_ left = some r) :
    Gives Try.prog 148 [(.agg #[(.slice pa0 pn0 pc0), (.int .i64 a_.2.1), (.slice pa1 pn1 pc1)]), (.int .i64 left)] w (fun v w' => v = (.int .i64 r) ∧ Chg [] w w') := by
  refine calls_fr Try.func148 rfl Try.ntmps148 (Nat.le_of_ble_eq_true rfl) ?_
  have hO := Own.start (N := Nw w []) hM Nw.fut
  have hC := Chg.refl [] w
  unfold s_laws_szConstraint at hs
  refine wp_mono (Q := KPost (k_laws_szConstraint M w r)) ?_ (fun e a w1 h => ?_)
  rotate_left
  · cases e
    case ret =>
      obtain ⟨σ, rfl, hrest⟩ := h
      exact ret1x Try.results148 (res_tmp rfl) ⟨rfl, hrest⟩
    all_goals exact (h : False).elim
  refine c_seq ?_
  refine c_region ?_
  obtain ⟨w3, g3, ew3, eg3, hC3, hb3⟩ := new_block w [(.slice pa0 pn0 pc0), (.int .i64 a_.2.1), (.slice pa1 pn1 pc1)] 152
  refine pl_val (w' := w3) (.pointer (some ⟨g3, 0, none⟩)) (y_box rfl (by rw [ew3, eg3]; kernel_rfl)) ?_
  have h0 := h0.ext hC3
  have h1 := h1.ext hC3
  have hC := hC.ext hC3
  have hO := hO.new (X' := [g3]) hC3 (fun q hq => by rw [List.mem_singleton.1 hq, eg3]; exact Nat.le_refl _) (List.nodup_cons.2 ⟨(fun h => nomatch h), List.nodup_nil⟩) (fun q hq => by rw [List.mem_singleton.1 hq]; exact hb3.lt)
  refine pl_val (.int .i64 0) (y_assign rfl) ?_
  refine c_nil ?_
  refine c_seq ?_
  refine c_region ?_
  refine pl_val (.pointer (some ⟨g3, 0, none⟩)) (y_faddr rfl Fa152x0) ?_
  refine pl_val (.slice pa0 pn0 pc0) (y_load rfl ((box_load Ag22 Sz22 hb3 [] [(.slice pa0 pn0 pc0)] [(.int .i64 a_.2.1), (.slice pa1 pn1 pc1)] rfl rfl (fun _ => rfl)) _ (Chg.refl _ _))) ?_
  refine pl_val (.int .i64 left) (y_move rfl) ?_
  obtain ⟨r5, hr5, hs⟩ := bind_some hs
  refine pl_call Bd108 rfl (c_laws_szIntS (M := M) a_.1 left h0 hO.fut hr5) ?_
  rintro _ w4 ⟨rfl, hC4⟩
  have h0 := h0.ext hC4
  have h1 := h1.ext hC4
  have hb3 := hb3.chg hC4 (fun h => nomatch h)
  have hC := hC.ext hC4
  have hO := hO.ext hC4
  refine pl_val (.int .i64 r5) (y_assign rfl) ?_
  refine c_nil ?_
  refine c_seq ?_
  refine c_seq ?_
  refine c_region ?_
  refine pl_val (.int .i64 r5) (y_move rfl) ?_
  refine pl_val (.bool (decide (r5 < 0))) (y_lss rfl rfl) ?_
  refine c_nil ?_
  rcases bif_some hs with ⟨hc6, hs⟩ | ⟨hc6, hs⟩
  · skip
    refine c_condT (congrArg Value.bool hc6) ?_
    refine c_seq ?_
    refine c_region ?_
    refine pl_val (.int .i64 (-1)) (y_assign rfl) ?_
    refine c_nil ?_
    refine wp_ret ?_
    cases hs
    exact ⟨_, fr_ovl 18 ⟨rfl, trivial⟩, hC⟩
  · skip
    refine c_condF (congrArg Value.bool hc6) ?_
    refine wp_skip ?_
    refine c_seq ?_
    refine c_region ?_
    refine pl_val (.pointer (some ⟨g3, 1, none⟩)) (y_faddr rfl Fa152x1) ?_
    refine pl_val (.agg #[(.int .i64 a_.2.1), (.slice pa1 pn1 pc1)]) (y_load rfl ((box_load Ag36 Sz36 hb3 [(.slice pa0 pn0 pc0)] [(.int .i64 a_.2.1), (.slice pa1 pn1 pc1)] [] rfl rfl (fun h => nomatch h)) _ (Chg.refl _ _))) ?_
    refine pl_val (.int .i64 r5) (y_move rfl) ?_
    obtain ⟨r8, hr8, hs⟩ := bind_some hs
    refine pl_call Bd26 rfl (c_laws_szRelation (M := M) (a_.2.1, a_.2.2) r5 h1 hO.fut hr8) ?_
    rintro _ w7 ⟨rfl, hC7⟩
    have h0 := h0.ext hC7
    have h1 := h1.ext hC7
    have hb3 := hb3.chg hC7 (fun h => nomatch h)
    have hC := hC.ext hC7
    have hO := hO.ext hC7
    refine pl_val (.int .i64 r8) (y_assign rfl) ?_
    refine c_nil ?_
    refine c_seq ?_
    refine c_seq ?_
    refine c_region ?_
    refine pl_val (.int .i64 r8) (y_move rfl) ?_
    refine pl_val (.bool (decide (r8 < 0))) (y_lss rfl rfl) ?_
    refine c_nil ?_
    rcases bif_some hs with ⟨hc9, hs⟩ | ⟨hc9, hs⟩
    · skip
      refine c_condT (congrArg Value.bool hc9) ?_
      refine c_seq ?_
      refine c_region ?_
      refine pl_val (.int .i64 (-1)) (y_assign rfl) ?_
      refine c_nil ?_
      refine wp_ret ?_
      cases hs
      exact ⟨_, fr_ovl 18 ⟨rfl, trivial⟩, hC⟩
    · skip
      refine c_condF (congrArg Value.bool hc9) ?_
      refine wp_skip ?_
      refine c_seq ?_
      refine c_region ?_
      refine pl_val (.int .i64 r8) (y_move rfl) ?_
      refine pl_val (.int .i64 r8) (y_assign rfl) ?_
      refine c_nil ?_
      refine wp_ret ?_
      cases hs
      exact ⟨_, fr_ovl 18 ⟨rfl, trivial⟩, hC⟩

theorem Sl42 : SlT Try.prog 42 152 := Try.underlying42

theorem Sz152 : SzT Try.prog 152 3 := ⟨_, rfl, rfl⟩

theorem Ag152 : AggT Try.prog 152 true := fun _ => by kernel_rfl

theorem Bd148 : Bodied Try.prog 148 := bodied Try.func148 (by kernel_rfl) rfl

def k_laws_szConstraintS (M : Nat → Prop) (w0 : World) (r : Int) (a : Act) (w : World) : Prop :=
  ∃ (σ : Nat → Value) , a = fr 27 (ovl σ [(4, (.int .i64 r))]) ∧ Chg [] w0 w
def s_laws_szConstraintS (a_ : List ((List Int) × (Int × (List (List Int))))) (left : Int) : Option (Int) :=
  (bif (decide ((w64 (left - (a_.length : Int))) < 0)) then some (-1) else (forC (S := Int) (R := Int) (fun k13 s11 =>
  (idx a_ k13).bind fun x17 =>
  (s_laws_szConstraint (x17.1, (x17.2.1, x17.2.2)) s11).bind fun r23 =>
  (bif (decide (r23 < 0)) then some (.rt (-1)) else some (.nx r23))) 0 (a_.length : Int) (w64 (left - (a_.length : Int)))).bind fun o15 => after o15 (fun r_ => some r_) (fun s11 =>
  some s11))
set_option maxHeartbeats 4000000 in
theorem c_laws_szConstraintS {M : Nat → Prop} {w : World} {pa0 : Option Addr} {pn0 pc0 : Nat} (a_ : List ((List Int) × (Int × (List (List Int))))) (left : Int) (h0 : (RT.rs (RT.pr (RT.rs (RT.int .i64)) (RT.pr (RT.int .i64) (RT.rs (RT.rs (RT.int .i64)))))).val M w (.slice pa0 pn0 pc0) a_ ([])) (hM : ∀ g, w.heap.size ≤ g → M g) {r : Int} (hs : s_laws_szConstraintS a_ left = some r) :
    Gives Try.prog 87 [(.slice pa0 pn0 pc0), (.int .i64 left)] w (fun v w' => v = (.int .i64 r) ∧ Chg [] w w') := by
  refine calls_fr Try.func87 rfl Try.ntmps87 (Nat.le_of_ble_eq_true rfl) ?_
  have hO := Own.start (N := Nw w []) hM Nw.fut
  have hC := Chg.refl [] w
  unfold s_laws_szConstraintS at hs
  refine wp_mono (Q := KPost (k_laws_szConstraintS M w r)) ?_ (fun e a w1 h => ?_)
  rotate_left
  · cases e
    case ret =>
      obtain ⟨σ, rfl, hrest⟩ := h
      exact ret1x Try.results87 (res_tmp rfl) ⟨rfl, hrest⟩
    all_goals exact (h : False).elim
  refine c_seq ?_
  refine c_region ?_
  refine pl_val (.int .i64 0) (y_assign rfl) ?_
  refine c_nil ?_
  refine c_seq ?_
  refine c_region ?_
  refine pl_val (.int .i64 left) (y_move rfl) ?_
  refine pl_val (.slice pa0 pn0 pc0) (y_move rfl) ?_
  refine pl_val (.int .i64 (a_.length : Int)) (y_len' Sl42 (rs_len h0) rfl) ?_
  refine pl_val (.int .i64 (w64 (left - (a_.length : Int)))) (y_sub rfl rfl) ?_
  refine pl_val (.int .i64 (w64 (left - (a_.length : Int)))) (y_assign rfl) ?_
  refine c_nil ?_
  refine c_seq ?_
  refine c_seq ?_
  refine c_region ?_
  refine pl_val (.int .i64 (w64 (left - (a_.length : Int)))) (y_move rfl) ?_
  refine pl_val (.bool (decide ((w64 (left - (a_.length : Int))) < 0))) (y_lss rfl rfl) ?_
  refine c_nil ?_
  rcases bif_some hs with ⟨hc2, hs⟩ | ⟨hc2, hs⟩
  · skip
    refine c_condT (congrArg Value.bool hc2) ?_
    refine c_seq ?_
    refine c_region ?_
    refine pl_val (.int .i64 (-1)) (y_assign rfl) ?_
    refine c_nil ?_
    refine wp_ret ?_
    cases hs
    exact ⟨_, fr_ovl 27 ⟨rfl, trivial⟩, hC⟩
  · skip
    refine c_condF (congrArg Value.bool hc2) ?_
    refine wp_skip ?_
    refine c_seq ?_
    refine c_seq ?_
    refine c_region ?_
    refine pl_val (.int .i64 0) (y_assign rfl) ?_
    refine c_nil ?_
    obtain ⟨o15, hl16, hs⟩ := bind_some hs
    refine wp_block ?_
    refine wp_forC (id := 0) (a_.length : Int) (I := fun k13 s11 a w12 => ∃ (σ : Nat → Value), a = fr 27 (ovl σ [(0, (.slice pa0 pn0 pc0)), (1, (.int .i64 s11)), (5, (.int .i64 k13))]) ∧ Chg [] w w12 ∧ Own (Nw w []) M w12 ([]) ∧ (RT.rs (RT.pr (RT.rs (RT.int .i64)) (RT.pr (RT.int .i64) (RT.rs (RT.rs (RT.int .i64)))))).val M w12 (.slice pa0 pn0 pc0) a_ ([])) (J := fun s11 a w12 => ∃ (σ : Nat → Value), a = fr 27 (ovl σ [(1, (.int .i64 s11))]) ∧ Chg [] w w12 ∧ Own (Nw w []) M w12 ([]) ∧ (RT.rs (RT.pr (RT.rs (RT.int .i64)) (RT.pr (RT.int .i64) (RT.rs (RT.rs (RT.int .i64)))))).val M w12 (.slice pa0 pn0 pc0) a_ ([])) (K := (k_laws_szConstraintS M w)) ?_ ?_ 0 (w64 (left - (a_.length : Int))) o15 _ _ ?_ hl16 ?_
    · rintro k13 s11 a w12 ⟨σ, rfl, hC, hO, h0⟩ hlt
      refine c_seq ?_
      refine c_seq ?_
      refine c_region ?_
      refine pl_val (.int .i64 k13) (y_move rfl) ?_
      refine pl_val (.slice pa0 pn0 pc0) (y_move rfl) ?_
      refine pl_val (.int .i64 (a_.length : Int)) (y_len' Sl42 (rs_len h0) rfl) ?_
      refine pl_val (.bool (decide (k13 < (a_.length : Int)))) (y_lss rfl rfl) ?_
      refine c_nil ?_
      refine c_condF (congrArg Value.bool (decide_eq_false hlt)) ?_
      refine wp_exit ?_
      exact ⟨rfl, _, fr_ovl 27 ⟨rfl, trivial⟩, hC, hO, h0⟩
    · rintro k13 s11 o15 a w12 ⟨σ, rfl, hC, hO, h0⟩ hlt hw hs
      refine c_seq ?_
      refine c_seq ?_
      refine c_region ?_
      refine pl_val (.int .i64 k13) (y_move rfl) ?_
      refine pl_val (.slice pa0 pn0 pc0) (y_move rfl) ?_
      refine pl_val (.int .i64 (a_.length : Int)) (y_len' Sl42 (rs_len h0) rfl) ?_
      refine pl_val (.bool (decide (k13 < (a_.length : Int)))) (y_lss rfl rfl) ?_
      refine c_nil ?_
      refine c_condT (congrArg Value.bool (decide_eq_true hlt)) ?_
      refine wp_skip ?_
      refine c_seq ?_
      refine wp_block ?_
      refine c_seq ?_
      refine c_region ?_
      refine pl_val (.slice pa0 pn0 pc0) (y_move rfl) ?_
      refine pl_val (.int .i64 k13) (y_move rfl) ?_
      obtain ⟨x17, hx17, hs⟩ := bind_some hs
      obtain ⟨b18, o18, hp18, ha18⟩ := rs_idx Sl42 Sz152 h0 hx17
      refine pl_val (.pointer (some ⟨b18, o18, none⟩)) (hp18 _ _ _ _ _ _ _ _ _ rfl rfl) ?_
      obtain ⟨v19, hl19, hv19⟩ := at_load Ag152 Sz152 (by intro h; cases h) ha18
      obtain ⟨cs19, rfl, hr19⟩ := hv19
      obtain ⟨cc19x1, cd19x1, rfl, hh19x1, ht19x1⟩ := pr_open hr19
      obtain ⟨a19x1, n19x1, c19x1, rfl, hv19x1⟩ := rs_rel hh19x1
      obtain ⟨cc19x3, cd19x3, rfl, hh19x3, ht19x3⟩ := pr_open ht19x1
      obtain rfl := int_rel hh19x3
      obtain ⟨a19x4, n19x4, c19x4, rfl, hv19x4⟩ := rs_rel ht19x3
      refine pl_val (.agg #[(.slice a19x1 n19x1 c19x1), (.int .i64 x17.2.1), (.slice a19x4 n19x4 c19x4)]) (y_load rfl (hl19 _ (Chg.refl _ _))) ?_
      refine pl_val (.int .i64 s11) (y_move rfl) ?_
      obtain ⟨r23, hr23, hs⟩ := bind_some hs
      refine pl_call Bd148 rfl (c_laws_szConstraint (M := M) (x17.1, (x17.2.1, x17.2.2)) s11 hv19x1 hv19x4 hO.fut hr23) ?_
      rintro _ w22 ⟨rfl, hC22⟩
      have h0 := h0.ext hC22
      have hv19x1 := hv19x1.ext hC22
      have hv19x4 := hv19x4.ext hC22
      have hC := hC.ext hC22
      have hO := hO.ext hC22
      refine pl_val (.int .i64 r23) (y_assign rfl) ?_
      refine c_nil ?_
      refine c_seq ?_
      refine c_region ?_
      refine pl_val (.int .i64 r23) (y_move rfl) ?_
      refine pl_val (.bool (decide (r23 < 0))) (y_lss rfl rfl) ?_
      refine c_nil ?_
      rcases bif_some hs with ⟨hc24, hs⟩ | ⟨hc24, hs⟩
      · skip
        refine c_condT (congrArg Value.bool hc24) ?_
        refine c_seq ?_
        refine c_region ?_
        refine pl_val (.int .i64 (-1)) (y_assign rfl) ?_
        refine c_nil ?_
        refine wp_ret ?_
        cases hs
        exact ⟨_, fr_ovl 27 ⟨rfl, trivial⟩, hC⟩
      · skip
        refine c_condF (congrArg Value.bool hc24) ?_
        refine wp_skip ?_
        refine c_region ?_
        refine pl_val (.int .i64 k13) (y_move rfl) ?_
        refine pl_val (.int .i64 (w64 (k13 + 1))) (y_add rfl rfl) ?_
        refine pl_val (.int .i64 (w64 (k13 + 1))) (y_assign rfl) ?_
        refine c_nil ?_
        cases hs
        exact ⟨_, fr_ovl 27 ⟨rfl, rfl, congrArg (Value.int .i64) hw, trivial⟩, hC, hO, h0⟩
    · skip
      exact ⟨_, fr_ovl 27 ⟨rfl, rfl, rfl, trivial⟩, hC, hO, h0⟩
    · cases o15 with
      | nx _ => exact True.intro
      | rt r_ =>
        have hs := after_rt hs
        intro a1 w1 hK
        cases hs
        exact hK
      | br s11 =>
        have hs := after_br hs
        rintro a1 w12 ⟨σ, rfl, hC, hO, h0⟩
        refine c_seq ?_
        refine c_region ?_
        refine pl_val (.int .i64 s11) (y_move rfl) ?_
        refine pl_val (.int .i64 s11) (y_assign rfl) ?_
        refine c_nil ?_
        refine wp_ret ?_
        cases hs
        exact ⟨_, fr_ovl 27 ⟨rfl, trivial⟩, hC⟩

theorem Fa44x2 : ∀ (a : Addr) (w : World), (Instr.fieldAt 44 (.pointer (some a)) 2).run Try.prog w = .ok (.pointer (some (a.add 2))) w := fun _ _ => by kernel_rfl

theorem Ag42 : AggT Try.prog 42 false := fun _ => by kernel_rfl

theorem Sz42 : SzT Try.prog 42 1 := ⟨_, rfl, rfl⟩

theorem Bd87 : Bodied Try.prog 87 := bodied Try.func87 (by kernel_rfl) rfl

def k_laws_szNetwork (M : Nat → Prop) (w0 : World) (r : Int) (a : Act) (w : World) : Prop :=
  ∃ (σ : Nat → Value) , a = fr 12 (ovl σ [(4, (.int .i64 r))]) ∧ Chg [] w0 w
def s_laws_szNetwork (a_ : Int × Int × (List ((List Int) × (Int × (List (List Int)))))) (left : Int) : Option (Int) :=
  (s_laws_szConstraintS a_.2.2 left).bind fun r4 =>
  (bif (decide (r4 < 0)) then some (-1) else some r4)
set_option maxHeartbeats 4000000 in
theorem c_laws_szNetwork {M : Nat → Prop} {w : World} {pa0 : Option Addr} {pn0 pc0 : Nat} (a_ : Int × Int × (List ((List Int) × (Int × (List (List Int)))))) (left : Int) (h0 : (RT.rs (RT.pr (RT.rs (RT.int .i64)) (RT.pr (RT.int .i64) (RT.rs (RT.rs (RT.int .i64)))))).val M w (.slice pa0 pn0 pc0) a_.2.2 ([])) (hM : ∀ g, w.heap.size ≤ g → M g) {r : Int} (hs : s_laws_szNetwork a_ left = some r) :
    Gives Try.prog 30 [(.agg #[(.int .i64 a_.1), (.int .i64 a_.2.1), (.slice pa0 pn0 pc0)]), (.int .i64 left)] w (fun v w' => v = (.int .i64 r) ∧ Chg [] w w') := by
  refine calls_fr Try.func30 rfl Try.ntmps30 (Nat.le_of_ble_eq_true rfl) ?_
  have hO := Own.start (N := Nw w []) hM Nw.fut
  have hC := Chg.refl [] w
  unfold s_laws_szNetwork at hs
  refine wp_mono (Q := KPost (k_laws_szNetwork M w r)) ?_ (fun e a w1 h => ?_)
  rotate_left
  · cases e
    case ret =>
      obtain ⟨σ, rfl, hrest⟩ := h
      exact ret1x Try.results30 (res_tmp rfl) ⟨rfl, hrest⟩
    all_goals exact (h : False).elim
  refine c_seq ?_
  refine c_region ?_
  obtain ⟨w2, g2, ew2, eg2, hC2, hb2⟩ := new_block w [(.int .i64 a_.1), (.int .i64 a_.2.1), (.slice pa0 pn0 pc0)] 44
  refine pl_val (w' := w2) (.pointer (some ⟨g2, 0, none⟩)) (y_box rfl (by rw [ew2, eg2]; kernel_rfl)) ?_
  have h0 := h0.ext hC2
  have hC := hC.ext hC2
  have hO := hO.new (X' := [g2]) hC2 (fun q hq => by rw [List.mem_singleton.1 hq, eg2]; exact Nat.le_refl _) (List.nodup_cons.2 ⟨(fun h => nomatch h), List.nodup_nil⟩) (fun q hq => by rw [List.mem_singleton.1 hq]; exact hb2.lt)
  refine pl_val (.int .i64 0) (y_assign rfl) ?_
  refine c_nil ?_
  refine c_seq ?_
  refine c_region ?_
  refine pl_val (.pointer (some ⟨g2, 2, none⟩)) (y_faddr rfl Fa44x2) ?_
  refine pl_val (.slice pa0 pn0 pc0) (y_load rfl ((box_load Ag42 Sz42 hb2 [(.int .i64 a_.1), (.int .i64 a_.2.1)] [(.slice pa0 pn0 pc0)] [] rfl rfl (fun _ => rfl)) _ (Chg.refl _ _))) ?_
  refine pl_val (.int .i64 left) (y_move rfl) ?_
  obtain ⟨r4, hr4, hs⟩ := bind_some hs
  refine pl_call Bd87 rfl (c_laws_szConstraintS (M := M) a_.2.2 left h0 hO.fut hr4) ?_
  rintro _ w3 ⟨rfl, hC3⟩
  have h0 := h0.ext hC3
  have hb2 := hb2.chg hC3 (fun h => nomatch h)
  have hC := hC.ext hC3
  have hO := hO.ext hC3
  refine pl_val (.int .i64 r4) (y_assign rfl) ?_
  refine c_nil ?_
  refine c_seq ?_
  refine c_seq ?_
  refine c_region ?_
  refine pl_val (.int .i64 r4) (y_move rfl) ?_
  refine pl_val (.bool (decide (r4 < 0))) (y_lss rfl rfl) ?_
  refine c_nil ?_
  rcases bif_some hs with ⟨hc5, hs⟩ | ⟨hc5, hs⟩
  · skip
    refine c_condT (congrArg Value.bool hc5) ?_
    refine c_seq ?_
    refine c_region ?_
    refine pl_val (.int .i64 (-1)) (y_assign rfl) ?_
    refine c_nil ?_
    refine wp_ret ?_
    cases hs
    exact ⟨_, fr_ovl 12 ⟨rfl, trivial⟩, hC⟩
  · skip
    refine c_condF (congrArg Value.bool hc5) ?_
    refine wp_skip ?_
    refine c_seq ?_
    refine c_region ?_
    refine pl_val (.int .i64 r4) (y_move rfl) ?_
    refine pl_val (.int .i64 r4) (y_assign rfl) ?_
    refine c_nil ?_
    refine wp_ret ?_
    cases hs
    exact ⟨_, fr_ovl 12 ⟨rfl, trivial⟩, hC⟩

theorem Rw22 : RowT Try.prog 22 3 1 [(.int .i64 0)] := ⟨Try.underlying22, ⟨_, _, rfl, rfl, rfl, rfl, by decide⟩, rfl, by decide⟩

theorem Sz3 : SzT Try.prog 3 1 := ⟨_, rfl, rfl⟩

theorem Ag3 : AggT Try.prog 3 false := fun _ => by kernel_rfl

def k_laws_toIntS (M : Nat → Prop) (w0 : World) (r : (List Int)) (a : Act) (w : World) : Prop :=
  ∃ (σ : Nat → Value) (ra0 : Option Addr) (rn0 rc0 : Nat) (rf0 : List Nat), a = fr 22 (ovl σ [(2, (.slice ra0 rn0 rc0))]) ∧ Chg [] w0 w ∧ (RT.os 3 (RT.int .i64)).val M w (.slice ra0 rn0 rc0) r rf0 ∧ Own (Nw w0 []) (fun _ => True) w (rf0 ++ ([]))
def s_laws_toIntS (a_ : List Int) : Option ((List Int)) :=
  (mks (a_.length : Int) (0 : Int)).bind fun y3 =>
  (forC (S := (List Int)) (R := (List Int)) (fun k18 s16 =>
  (idx a_ k18).bind fun x24 =>
  (idx s16 k18).bind fun x26 =>
  some (.nx (List.set s16 (Int.toNat k18) x24))) 0 (a_.length : Int) y3).bind fun o20 => after o20 (fun r_ => some r_) (fun s16 =>
  some s16)
set_option maxHeartbeats 4000000 in
theorem c_laws_toIntS {M : Nat → Prop} {w : World} {pa0 : Option Addr} {pn0 pc0 : Nat} (a_ : List Int) (h0 : (RT.rs (RT.int .i64)).val M w (.slice pa0 pn0 pc0) a_ ([])) (hM : ∀ g, w.heap.size ≤ g → M g) {r : (List Int)} (hs : s_laws_toIntS a_ = some r) :
    Gives Try.prog 16 [(.slice pa0 pn0 pc0)] w (fun v w' => ∃ (ra0 : Option Addr) (rn0 rc0 : Nat) (rf0 : List Nat), v = (.slice ra0 rn0 rc0) ∧ Chg [] w w' ∧ (RT.os 3 (RT.int .i64)).val M w' (.slice ra0 rn0 rc0) r rf0 ∧ Own (Nw w []) (fun _ => True) w' (rf0 ++ ([]))) := by
  refine calls_fr Try.func16 rfl Try.ntmps16 (Nat.le_of_ble_eq_true rfl) ?_
  have hO := Own.start (N := Nw w []) hM Nw.fut
  have hC := Chg.refl [] w
  unfold s_laws_toIntS at hs
  refine wp_mono (Q := KPost (k_laws_toIntS M w r)) ?_ (fun e a w1 h => ?_)
  rotate_left
  · cases e
    case ret =>
      obtain ⟨σ, ra0, rn0, rc0, rf0, rfl, hrest⟩ := h
      exact ret1x Try.results16 (res_tmp rfl) ⟨ra0, rn0, rc0, rf0, rfl, hrest⟩
    all_goals exact (h : False).elim
  refine c_seq ?_
  refine c_region ?_
  refine pl_val (.slice none 0 0) (y_assign rfl) ?_
  refine c_nil ?_
  refine c_seq ?_
  refine c_region ?_
  refine pl_val (.slice pa0 pn0 pc0) (y_move rfl) ?_
  refine pl_val (.int .i64 (a_.length : Int)) (y_len' Sl22 (rs_len h0) rfl) ?_
  obtain ⟨y3, hy3, hs⟩ := bind_some hs
  obtain ⟨a2, n2, c2, w2, f2, hm2, hC2, hfr2, hv2⟩ := mk_os (M := M) (w := w) (r := (RT.int .i64)) Rw22 hy3 (fun _ _ => ⟨rfl, rfl⟩)
  refine pl_val (w' := w2) (.slice a2 n2 c2) (y_make rfl rfl hm2) ?_
  have h0 := h0.ext hC2
  have hC := hC.ext hC2
  have hO := hO.new hC2 hfr2 (os_nodup hv2) hv2.fpl
  refine pl_val (.slice a2 n2 c2) (y_assign rfl) ?_
  refine c_nil ?_
  refine c_seq ?_
  refine c_seq ?_
  refine c_region ?_
  refine pl_val (.int .i64 0) (y_assign rfl) ?_
  refine c_nil ?_
  obtain ⟨o20, hl21, hs⟩ := bind_some hs
  refine wp_block ?_
  refine wp_forC (id := 0) (a_.length : Int) (I := fun k18 s16 a w17 => ∃ (σ : Nat → Value) (f22 : List Nat), a = fr 22 (ovl σ [(0, (.slice pa0 pn0 pc0)), (3, (.slice a2 n2 c2)), (4, (.int .i64 k18))]) ∧ Chg [] w w17 ∧ Own (Nw w []) M w17 (f22 ++ []) ∧ (RT.rs (RT.int .i64)).val M w17 (.slice pa0 pn0 pc0) a_ ([]) ∧ (RT.os 3 (RT.int .i64)).val M w17 (.slice a2 n2 c2) s16 f22) (J := fun s16 a w17 => ∃ (σ : Nat → Value) (f23 : List Nat), a = fr 22 (ovl σ [(3, (.slice a2 n2 c2))]) ∧ Chg [] w w17 ∧ Own (Nw w []) M w17 (f23 ++ []) ∧ (RT.rs (RT.int .i64)).val M w17 (.slice pa0 pn0 pc0) a_ ([]) ∧ (RT.os 3 (RT.int .i64)).val M w17 (.slice a2 n2 c2) s16 f23) (K := (k_laws_toIntS M w)) ?_ ?_ 0 y3 o20 _ _ ?_ hl21 ?_
  · rintro k18 s16 a w17 ⟨σ, f22, rfl, hC, hO, h0, hv22⟩ hlt
    refine c_seq ?_
    refine c_seq ?_
    refine c_region ?_
    refine pl_val (.int .i64 k18) (y_move rfl) ?_
    refine pl_val (.slice pa0 pn0 pc0) (y_move rfl) ?_
    refine pl_val (.int .i64 (a_.length : Int)) (y_len' Sl22 (rs_len h0) rfl) ?_
    refine pl_val (.bool (decide (k18 < (a_.length : Int)))) (y_lss rfl rfl) ?_
    refine c_nil ?_
    refine c_condF (congrArg Value.bool (decide_eq_false hlt)) ?_
    refine wp_exit ?_
    exact ⟨rfl, _, f22, fr_ovl 22 ⟨rfl, trivial⟩, hC, hO, h0, hv22⟩
  · rintro k18 s16 o20 a w17 ⟨σ, f22, rfl, hC, hO, h0, hv22⟩ hlt hw hs
    refine c_seq ?_
    refine c_seq ?_
    refine c_region ?_
    refine pl_val (.int .i64 k18) (y_move rfl) ?_
    refine pl_val (.slice pa0 pn0 pc0) (y_move rfl) ?_
    refine pl_val (.int .i64 (a_.length : Int)) (y_len' Sl22 (rs_len h0) rfl) ?_
    refine pl_val (.bool (decide (k18 < (a_.length : Int)))) (y_lss rfl rfl) ?_
    refine c_nil ?_
    refine c_condT (congrArg Value.bool (decide_eq_true hlt)) ?_
    refine wp_skip ?_
    refine c_seq ?_
    refine wp_block ?_
    refine c_region ?_
    refine pl_val (.slice a2 n2 c2) (y_move rfl) ?_
    refine pl_val (.int .i64 k18) (y_move rfl) ?_
    refine pl_val (.slice pa0 pn0 pc0) (y_move rfl) ?_
    refine pl_val (.int .i64 k18) (y_move rfl) ?_
    obtain ⟨x24, hx24, hs⟩ := bind_some hs
    obtain ⟨b25, o25, hp25, ha25⟩ := rs_idx Sl22 Sz3 h0 hx24
    refine pl_val (.pointer (some ⟨b25, o25, none⟩)) (hp25 _ _ _ _ _ _ _ _ _ rfl rfl) ?_
    refine pl_val (.int .i64 x24) (y_load rfl ((at_load_int Ag3 Sz3 ha25) _ (Chg.refl _ _))) ?_
    obtain ⟨x26, hx26, hs⟩ := bind_some hs
    obtain ⟨g27, f27, hg27, hk27, hp27, ha27, hf27⟩ := os_idx Sl22 Sz3 hv22 hx26
    refine pl_val (.pointer (some ⟨g27, 0 + Int.toNat k18 * 1, none⟩)) (hp27 _ _ _ _ _ _ _ _ _ rfl rfl) ?_
    obtain ⟨w28, f28, hst28, hC28, hf28, hv28⟩ := os_store (P := Try.prog) (c' := [(.int .i64 x24)]) hg27 hv22 hk27 (fun g hg => hO.inM g (os_block hv22 g (by simpa using hg))) ⟨rfl, rfl⟩ List.nodup_nil (fun _ h => nomatch h) (fun _ h => .inl h)
    have hG28 : ∀ q ∈ [g27], q ∈ f22 := fun q hq => os_block hv22 q (by rw [hg27]; exact hq)
    refine pl_skip (w' := w28) (ys_store rfl rfl (hst28 _ _ rfl Sz3)) ?_
    have h0 := h0.mut hC28 (fun g hg => hO.inM g (hG28 g hg)) (fun _ _ h => nomatch h)
    have hC := hC.step hC28 (fun g hg => hO.inN g (hG28 g hg))
    have hO := hO.grow hC28 (fun q hq => .inl ((hf28 q hq).resolve_right (fun h => nomatch h))) (os_nodup hv28) hv28.fpl
    refine c_nil ?_
    refine c_region ?_
    refine pl_val (.int .i64 k18) (y_move rfl) ?_
    refine pl_val (.int .i64 (w64 (k18 + 1))) (y_add rfl rfl) ?_
    refine pl_val (.int .i64 (w64 (k18 + 1))) (y_assign rfl) ?_
    refine c_nil ?_
    cases hs
    exact ⟨_, f28, fr_ovl 22 ⟨rfl, rfl, congrArg (Value.int .i64) hw, trivial⟩, hC, hO, h0, hv28⟩
  · skip
    exact ⟨_, f2, fr_ovl 22 ⟨rfl, rfl, rfl, trivial⟩, hC, hO, h0, hv2⟩
  · cases o20 with
    | nx _ => exact True.intro
    | rt r_ =>
      have hs := after_rt hs
      intro a1 w1 hK
      cases hs
      exact hK
    | br s16 =>
      have hs := after_br hs
      rintro a1 w17 ⟨σ, f23, rfl, hC, hO, h0, hv23⟩
      refine c_seq ?_
      refine c_region ?_
      refine pl_val (.slice a2 n2 c2) (y_move rfl) ?_
      refine pl_val (.slice a2 n2 c2) (y_assign rfl) ?_
      refine c_nil ?_
      refine wp_ret ?_
      cases hs
      exact ⟨_, a2, n2, c2, f23, fr_ovl 22 ⟨rfl, trivial⟩, hC, hv23, hO.top⟩

theorem Rw29 : RowT Try.prog 29 22 1 [(.slice none 0 0)] := ⟨Try.underlying29, ⟨_, _, rfl, rfl, rfl, rfl, by decide⟩, rfl, by decide⟩

theorem Bd16 : Bodied Try.prog 16 := bodied Try.func16 (by kernel_rfl) rfl

def k_laws_toIntSS (M : Nat → Prop) (w0 : World) (r : (List (List Int))) (a : Act) (w : World) : Prop :=
  ∃ (σ : Nat → Value) (ra0 : Option Addr) (rn0 rc0 : Nat) (rf0 : List Nat), a = fr 23 (ovl σ [(2, (.slice ra0 rn0 rc0))]) ∧ Chg [] w0 w ∧ (RT.os 22 (RT.os 3 (RT.int .i64))).val M w (.slice ra0 rn0 rc0) r rf0 ∧ Own (Nw w0 []) (fun _ => True) w (rf0 ++ ([]))
def s_laws_toIntSS (a_ : List (List Int)) : Option ((List (List Int))) :=
  (mks (a_.length : Int) ([] : List Int)).bind fun y3 =>
  (forC (S := (List (List Int))) (R := (List (List Int))) (fun k28 s26 =>
  (idx a_ k28).bind fun x34 =>
  (s_laws_toIntS x34).bind fun r39 =>
  (idx s26 k28).bind fun x41 =>
  some (.nx (List.set s26 (Int.toNat k28) r39))) 0 (a_.length : Int) y3).bind fun o30 => after o30 (fun r_ => some r_) (fun s26 =>
  some s26)
set_option maxHeartbeats 4000000 in
theorem c_laws_toIntSS {M : Nat → Prop} {w : World} {pa0 : Option Addr} {pn0 pc0 : Nat} (a_ : List (List Int)) (h0 : (RT.rs (RT.rs (RT.int .i64))).val M w (.slice pa0 pn0 pc0) a_ ([])) (hM : ∀ g, w.heap.size ≤ g → M g) {r : (List (List Int))} (hs : s_laws_toIntSS a_ = some r) :
    Gives Try.prog 50 [(.slice pa0 pn0 pc0)] w (fun v w' => ∃ (ra0 : Option Addr) (rn0 rc0 : Nat) (rf0 : List Nat), v = (.slice ra0 rn0 rc0) ∧ Chg [] w w' ∧ (RT.os 22 (RT.os 3 (RT.int .i64))).val M w' (.slice ra0 rn0 rc0) r rf0 ∧ Own (Nw w []) (fun _ => True) w' (rf0 ++ ([]))) := by
  refine calls_fr Try.func50 rfl Try.ntmps50 (Nat.le_of_ble_eq_true rfl) ?_
  have hO := Own.start (N := Nw w []) hM Nw.fut
  have hC := Chg.refl [] w
  unfold s_laws_toIntSS at hs
  refine wp_mono (Q := KPost (k_laws_toIntSS M w r)) ?_ (fun e a w1 h => ?_)
  rotate_left
  · cases e
    case ret =>
      obtain ⟨σ, ra0, rn0, rc0, rf0, rfl, hrest⟩ := h
      exact ret1x Try.results50 (res_tmp rfl) ⟨ra0, rn0, rc0, rf0, rfl, hrest⟩
    all_goals exact (h : False).elim
  refine c_seq ?_
  refine c_region ?_
  refine pl_val (.slice none 0 0) (y_assign rfl) ?_
  refine c_nil ?_
  refine c_seq ?_
  refine c_region ?_
  refine pl_val (.slice pa0 pn0 pc0) (y_move rfl) ?_
  refine pl_val (.int .i64 (a_.length : Int)) (y_len' Sl29 (rs_len h0) rfl) ?_
  obtain ⟨y3, hy3, hs⟩ := bind_some hs
  obtain ⟨a2, n2, c2, w2, f2, hm2, hC2, hfr2, hv2⟩ := mk_os (M := M) (w := w) (r := (RT.os 3 (RT.int .i64))) Rw29 hy3 (fun _ _ => (os_unval os_nil))
  refine pl_val (w' := w2) (.slice a2 n2 c2) (y_make rfl rfl hm2) ?_
  have h0 := h0.ext hC2
  have hC := hC.ext hC2
  have hO := hO.new hC2 hfr2 (os_nodup hv2) hv2.fpl
  refine pl_val (.slice a2 n2 c2) (y_assign rfl) ?_
  refine c_nil ?_
  refine c_seq ?_
  refine c_seq ?_
  refine c_region ?_
  refine pl_val (.int .i64 0) (y_assign rfl) ?_
  refine c_nil ?_
  obtain ⟨o30, hl31, hs⟩ := bind_some hs
  refine wp_block ?_
  refine wp_forC (id := 0) (a_.length : Int) (I := fun k28 s26 a w27 => ∃ (σ : Nat → Value) (f32 : List Nat), a = fr 23 (ovl σ [(0, (.slice pa0 pn0 pc0)), (3, (.slice a2 n2 c2)), (4, (.int .i64 k28))]) ∧ Chg [] w w27 ∧ Own (Nw w []) M w27 (f32 ++ []) ∧ (RT.rs (RT.rs (RT.int .i64))).val M w27 (.slice pa0 pn0 pc0) a_ ([]) ∧ (RT.os 22 (RT.os 3 (RT.int .i64))).val M w27 (.slice a2 n2 c2) s26 f32) (J := fun s26 a w27 => ∃ (σ : Nat → Value) (f33 : List Nat), a = fr 23 (ovl σ [(3, (.slice a2 n2 c2))]) ∧ Chg [] w w27 ∧ Own (Nw w []) M w27 (f33 ++ []) ∧ (RT.rs (RT.rs (RT.int .i64))).val M w27 (.slice pa0 pn0 pc0) a_ ([]) ∧ (RT.os 22 (RT.os 3 (RT.int .i64))).val M w27 (.slice a2 n2 c2) s26 f33) (K := (k_laws_toIntSS M w)) ?_ ?_ 0 y3 o30 _ _ ?_ hl31 ?_
  · rintro k28 s26 a w27 ⟨σ, f32, rfl, hC, hO, h0, hv32⟩ hlt
    refine c_seq ?_
    refine c_seq ?_
    refine c_region ?_
    refine pl_val (.int .i64 k28) (y_move rfl) ?_
    refine pl_val (.slice pa0 pn0 pc0) (y_move rfl) ?_
    refine pl_val (.int .i64 (a_.length : Int)) (y_len' Sl29 (rs_len h0) rfl) ?_
    refine pl_val (.bool (decide (k28 < (a_.length : Int)))) (y_lss rfl rfl) ?_
    refine c_nil ?_
    refine c_condF (congrArg Value.bool (decide_eq_false hlt)) ?_
    refine wp_exit ?_
    exact ⟨rfl, _, f32, fr_ovl 23 ⟨rfl, trivial⟩, hC, hO, h0, hv32⟩
  · rintro k28 s26 o30 a w27 ⟨σ, f32, rfl, hC, hO, h0, hv32⟩ hlt hw hs
    refine c_seq ?_
    refine c_seq ?_
    refine c_region ?_
    refine pl_val (.int .i64 k28) (y_move rfl) ?_
    refine pl_val (.slice pa0 pn0 pc0) (y_move rfl) ?_
    refine pl_val (.int .i64 (a_.length : Int)) (y_len' Sl29 (rs_len h0) rfl) ?_
    refine pl_val (.bool (decide (k28 < (a_.length : Int)))) (y_lss rfl rfl) ?_
    refine c_nil ?_
    refine c_condT (congrArg Value.bool (decide_eq_true hlt)) ?_
    refine wp_skip ?_
    refine c_seq ?_
    refine wp_block ?_
    refine c_region ?_
    refine pl_val (.slice a2 n2 c2) (y_move rfl) ?_
    refine pl_val (.int .i64 k28) (y_move rfl) ?_
    refine pl_val (.slice pa0 pn0 pc0) (y_move rfl) ?_
    refine pl_val (.int .i64 k28) (y_move rfl) ?_
    obtain ⟨x34, hx34, hs⟩ := bind_some hs
    obtain ⟨b35, o35, hp35, ha35⟩ := rs_idx Sl29 Sz22 h0 hx34
    refine pl_val (.pointer (some ⟨b35, o35, none⟩)) (hp35 _ _ _ _ _ _ _ _ _ rfl rfl) ?_
    obtain ⟨v36, hl36, hv36⟩ := at_load Ag22 Sz22 (fun _ => rfl) ha35
    obtain ⟨a36, n36, c36, rfl⟩ := rs_sl hv36
    refine pl_val (.slice a36 n36 c36) (y_load rfl (hl36 _ (Chg.refl _ _))) ?_
    obtain ⟨r39, hr39, hs⟩ := bind_some hs
    refine pl_call Bd16 rfl (c_laws_toIntS (M := M) x34 hv36 hO.fut hr39) ?_
    rintro _ w38 ⟨a38x0, n38x0, c38x0, f38x0, rfl, hC38, hv38x0, hOc38⟩
    have h0 := h0.ext hC38
    have hv32 := hv32.ext hC38
    have hv36 := hv36.ext hC38
    have hC := hC.ext hC38
    have hO := Own.join0 hO hC38 hOc38
    have hO := hO.perm (R := f38x0 ++ (f32 ++ ([]))) (by simp)
    obtain ⟨x41, hx41, hs⟩ := bind_some hs
    obtain ⟨g42, f42, hg42, hk42, hp42, ha42, hf42⟩ := os_idx Sl29 Sz22 hv32 hx41
    have hb42 := own_row (Frz.os Frz.int) ha42 hf42
    refine pl_val (.pointer (some ⟨g42, 0 + Int.toNat k28 * 1, none⟩)) (hp42 _ _ _ _ _ _ _ _ _ rfl rfl) ?_
    have hO := hO.fr1
    obtain ⟨w43, f43, hst43, hC43, hf43, hv43⟩ := os_store (P := Try.prog) (c' := [(.slice a38x0 n38x0 c38x0)]) hg42 hv32 hk42 (fun g hg => hO.inM g (os_block hv32 g (by simpa using hg))) (os_unval hv38x0) (hO.drop.perm (R := f38x0 ++ ([])) (by simp)).nd (fun g hg hq => hO.apart g hq (by simp only [List.mem_append, List.not_mem_nil, false_or, or_false] at hg ⊢; simp [hg])) (fun _ h => .inl h)
    have hG43 : ∀ q ∈ [g42], q ∈ f32 := fun q hq => os_block hv32 q (by rw [hg42]; exact hq)
    refine pl_skip (w' := w43) (ys_store rfl rfl (hst43 _ _ rfl Sz22)) ?_
    have hO := hO.fr1
    have hO := hO.fr1
    have h0 := h0.mut hC43 (fun g hg => hO.inM g (hG43 g hg)) (fun _ _ h => nomatch h)
    have hv36 := hv36.mut hC43 (fun g hg => hO.inM g (hG43 g hg)) (fun _ _ h => nomatch h)
    have hC := hC.step hC43 (fun g hg => hO.inN g (hG43 g hg))
    have hO := hO.perm (R := f32 ++ (f38x0 ++ ([]))) (by simp)
    have hO := hO.eat hC43 (fun q hq => (hf43 q hq).elim .inl (fun h => .inr (.inl h))) (os_nodup hv43) hv43.fpl
    refine c_nil ?_
    refine c_region ?_
    refine pl_val (.int .i64 k28) (y_move rfl) ?_
    refine pl_val (.int .i64 (w64 (k28 + 1))) (y_add rfl rfl) ?_
    refine pl_val (.int .i64 (w64 (k28 + 1))) (y_assign rfl) ?_
    refine c_nil ?_
    cases hs
    exact ⟨_, f43, fr_ovl 23 ⟨rfl, rfl, congrArg (Value.int .i64) hw, trivial⟩, hC, hO, h0, hv43⟩
  · skip
    exact ⟨_, f2, fr_ovl 23 ⟨rfl, rfl, rfl, trivial⟩, hC, hO, h0, hv2⟩
  · cases o30 with
    | nx _ => exact True.intro
    | rt r_ =>
      have hs := after_rt hs
      intro a1 w1 hK
      cases hs
      exact hK
    | br s26 =>
      have hs := after_br hs
      rintro a1 w27 ⟨σ, f33, rfl, hC, hO, h0, hv33⟩
      refine c_seq ?_
      refine c_region ?_
      refine pl_val (.slice a2 n2 c2) (y_move rfl) ?_
      refine pl_val (.slice a2 n2 c2) (y_assign rfl) ?_
      refine c_nil ?_
      refine wp_ret ?_
      cases hs
      exact ⟨_, a2, n2, c2, f33, fr_ovl 23 ⟨rfl, trivial⟩, hC, hv33, hO.top⟩

theorem Ag31 : AggT Try.prog 31 true := fun _ => by kernel_rfl

theorem Sz31 : SzT Try.prog 31 2 := ⟨_, rfl, rfl⟩

theorem Fa36x0 : ∀ (a : Addr) (w : World), (Instr.fieldAt 36 (.pointer (some a)) 0).run Try.prog w = .ok (.pointer (some (a.add 0))) w := fun _ _ => by kernel_rfl

theorem Fa31x0 : ∀ (a : Addr) (w : World), (Instr.fieldAt 31 (.pointer (some a)) 0).run Try.prog w = .ok (.pointer (some (a.add 0))) w := fun _ _ => by kernel_rfl

theorem Bd50 : Bodied Try.prog 50 := bodied Try.func50 (by kernel_rfl) rfl

theorem Fa31x1 : ∀ (a : Addr) (w : World), (Instr.fieldAt 31 (.pointer (some a)) 1).run Try.prog w = .ok (.pointer (some (a.add 1))) w := fun _ _ => by kernel_rfl

def k_laws_toRelation (M : Nat → Prop) (w0 : World) (r : (Int × (List (List Int)))) (a : Act) (w : World) : Prop :=
  ∃ (σ : Nat → Value) (rg2 : Nat) (ra0 : Option Addr) (rn0 rc0 : Nat) (rf0 : List Nat), a = fr 12 (ovl σ [(2, (.pointer (some ⟨rg2, 0, none⟩)))]) ∧ BoxV w rg2 31 [(.int .i64 r.1), (.slice ra0 rn0 rc0)] ∧ Chg [] w0 w ∧ (RT.os 22 (RT.os 3 (RT.int .i64))).val M w (.slice ra0 rn0 rc0) r.2 rf0 ∧ Own (Nw w0 []) (fun _ => True) w (rf0 ++ ([]))
def s_laws_toRelation (a_ : Int × (List (List Int))) : Option ((Int × (List (List Int)))) :=
  (s_laws_toIntSS a_.2).bind fun r7 =>
  some (a_.1, r7)
set_option maxHeartbeats 4000000 in
theorem c_laws_toRelation {M : Nat → Prop} {w : World} {pa0 : Option Addr} {pn0 pc0 : Nat} (a_ : Int × (List (List Int))) (h0 : (RT.rs (RT.rs (RT.int .i64))).val M w (.slice pa0 pn0 pc0) a_.2 ([])) (hM : ∀ g, w.heap.size ≤ g → M g) {r : (Int × (List (List Int)))} (hs : s_laws_toRelation a_ = some r) :
    Gives Try.prog 28 [(.agg #[(.int .i64 a_.1), (.slice pa0 pn0 pc0)])] w (fun v w' => ∃ (ra0 : Option Addr) (rn0 rc0 : Nat) (rf0 : List Nat), v = (.agg #[(.int .i64 r.1), (.slice ra0 rn0 rc0)]) ∧ Chg [] w w' ∧ (RT.os 22 (RT.os 3 (RT.int .i64))).val M w' (.slice ra0 rn0 rc0) r.2 rf0 ∧ Own (Nw w []) (fun _ => True) w' (rf0 ++ ([]))) := by
  refine calls_fr Try.func28 rfl Try.ntmps28 (Nat.le_of_ble_eq_true rfl) ?_
  have hO := Own.start (N := Nw w []) hM Nw.fut
  have hC := Chg.refl [] w
  unfold s_laws_toRelation at hs
  refine wp_mono (Q := KPost (k_laws_toRelation M w r)) ?_ (fun e a w1 h => ?_)
  rotate_left
  · cases e
    case ret =>
      obtain ⟨σ, rg2, ra0, rn0, rc0, rf0, rfl, hbrg2, hrest⟩ := h
      exact ret1x Try.results28 (res_cell rfl (box_load Ag31 Sz31 hbrg2 [] _ [] rfl rfl (fun h => nomatch h))) ⟨ra0, rn0, rc0, rf0, rfl, hrest⟩
    all_goals exact (h : False).elim
  refine c_seq ?_
  refine c_region ?_
  obtain ⟨w2, g2, ew2, eg2, hC2, hb2⟩ := new_block w [(.int .i64 a_.1), (.slice pa0 pn0 pc0)] 36
  refine pl_val (w' := w2) (.pointer (some ⟨g2, 0, none⟩)) (y_box rfl (by rw [ew2, eg2]; kernel_rfl)) ?_
  have h0 := h0.ext hC2
  have hC := hC.ext hC2
  have hO := hO.new (X' := [g2]) hC2 (fun q hq => by rw [List.mem_singleton.1 hq, eg2]; exact Nat.le_refl _) (List.nodup_cons.2 ⟨(fun h => nomatch h), List.nodup_nil⟩) (fun q hq => by rw [List.mem_singleton.1 hq]; exact hb2.lt)
  obtain ⟨w3, g3, ew3, eg3, hC3, hb3⟩ := new_block w2 [(.int .i64 0), (.slice none 0 0)] 31
  refine pl_val (w' := w3) (.pointer (some ⟨g3, 0, none⟩)) (y_alloc (by rw [ew3, eg3]; kernel_rfl)) ?_
  have h0 := h0.ext hC3
  have hb2 := hb2.chg hC3 (fun h => nomatch h)
  have hC := hC.ext hC3
  have hO := hO.new (X' := [g3]) hC3 (fun q hq => by rw [List.mem_singleton.1 hq, eg3]; exact Nat.le_refl _) (List.nodup_cons.2 ⟨(fun h => nomatch h), List.nodup_nil⟩) (fun q hq => by rw [List.mem_singleton.1 hq]; exact hb3.lt)
  refine c_nil ?_
  refine c_seq ?_
  refine c_region ?_
  obtain ⟨w4, g4, ew4, eg4, hC4, hb4⟩ := new_block w3 [(.int .i64 0), (.slice none 0 0)] 31
  refine pl_val (w' := w4) (.pointer (some ⟨g4, 0, none⟩)) (y_alloc (by rw [ew4, eg4]; kernel_rfl)) ?_
  have h0 := h0.ext hC4
  have hb2 := hb2.chg hC4 (fun h => nomatch h)
  have hb3 := hb3.chg hC4 (fun h => nomatch h)
  have hC := hC.ext hC4
  have hO := hO.new (X' := [g4]) hC4 (fun q hq => by rw [List.mem_singleton.1 hq, eg4]; exact Nat.le_refl _) (List.nodup_cons.2 ⟨(fun h => nomatch h), List.nodup_nil⟩) (fun q hq => by rw [List.mem_singleton.1 hq]; exact hb4.lt)
  refine c_nil ?_
  refine c_seq ?_
  refine c_region ?_
  refine pl_val (.pointer (some ⟨g2, 0, none⟩)) (y_faddr rfl Fa36x0) ?_
  refine pl_val (.int .i64 a_.1) (y_load rfl ((box_load Ag3 Sz3 hb2 [] [(.int .i64 a_.1)] [(.slice pa0 pn0 pc0)] rfl rfl (fun _ => rfl)) _ (Chg.refl _ _))) ?_
  refine pl_val (.pointer (some ⟨g4, 0, none⟩)) (y_faddr rfl Fa31x0) ?_
  obtain ⟨w5, hst5, hC5, hb5⟩ := box_store (P := Try.prog) hb4 [] [(.int .i64 0)] [(.slice none 0 0)] [(.int .i64 a_.1)] rfl rfl (by intro u hu; simp only [List.mem_cons, List.not_mem_nil, or_false] at hu; rcases hu with rfl <;> rfl)
  refine pl_skip (w' := w5) (ys_store rfl rfl (hst5 _ _ rfl Sz3)) ?_
  have h0 := h0.mut hC5 (fun g hg => hO.inM g ((fun _ h => h) g hg)) (fun _ _ h => nomatch h)
  have hb2 := hb2.chg hC5 (fun hg => hO.apart _ ((fun _ h => h) _ hg) (mem_r (mem_l (List.mem_singleton.2 rfl))))
  have hb3 := hb3.chg hC5 (fun hg => hO.apart _ ((fun _ h => h) _ hg) (mem_l (List.mem_singleton.2 rfl)))
  have hC := hC.step hC5 (fun g hg => hO.inN g ((fun _ h => h) g hg))
  have hO := hO.ext hC5
  have hb5 : BoxV w5 g4 31 [(.int .i64 a_.1), (.slice none 0 0)] := hb5
  refine c_nil ?_
  refine c_seq ?_
  refine c_region ?_
  refine pl_val (.pointer (some ⟨g2, 1, none⟩)) (y_faddr rfl Fa36x1) ?_
  refine pl_val (.slice pa0 pn0 pc0) (y_load rfl ((box_load Ag29 Sz29 hb2 [(.int .i64 a_.1)] [(.slice pa0 pn0 pc0)] [] rfl rfl (fun _ => rfl)) _ (Chg.refl _ _))) ?_
  obtain ⟨r7, hr7, hs⟩ := bind_some hs
  refine pl_call Bd50 rfl (c_laws_toIntSS (M := M) a_.2 h0 hO.fut hr7) ?_
  rintro _ w6 ⟨a6x0, n6x0, c6x0, f6x0, rfl, hC6, hv6x0, hOc6⟩
  have h0 := h0.ext hC6
  have hb2 := hb2.chg hC6 (fun h => nomatch h)
  have hb3 := hb3.chg hC6 (fun h => nomatch h)
  have hb5 := hb5.chg hC6 (fun h => nomatch h)
  have hC := hC.ext hC6
  have hO := Own.join0 hO hC6 hOc6
  have hO := hO.perm (R := f6x0 ++ (([g4]) ++ (([g3]) ++ (([g2]) ++ ([]))))) (by simp)
  refine pl_val (.pointer (some ⟨g4, 1, none⟩)) (y_faddr rfl Fa31x1) ?_
  obtain ⟨w9, hst9, hC9, hb9⟩ := box_store (P := Try.prog) hb5 [(.int .i64 a_.1)] [(.slice none 0 0)] [] [(.slice a6x0 n6x0 c6x0)] rfl rfl (by intro u hu; simp only [List.mem_cons, List.not_mem_nil, or_false] at hu; rcases hu with rfl <;> rfl)
  refine pl_skip (w' := w9) (ys_store rfl rfl (hst9 _ _ rfl Sz29)) ?_
  have hO := hO.fr1
  have h0 := h0.mut hC9 (fun g hg => hO.inM g ((fun _ h => h) g hg)) (fun _ _ h => nomatch h)
  have hb2 := hb2.chg hC9 (fun hg => hO.apart _ ((fun _ h => h) _ hg) (mem_r (mem_r (mem_l (List.mem_singleton.2 rfl)))))
  have hb3 := hb3.chg hC9 (fun hg => hO.apart _ ((fun _ h => h) _ hg) (mem_r (mem_l (List.mem_singleton.2 rfl))))
  have hv6x0 := hv6x0.mut hC9 (fun g hg => hO.inM g ((fun _ h => h) g hg)) (fun g hg e => hO.apart g ((fun _ h => h) g hg) (mem_l (e)))
  have hC := hC.step hC9 (fun g hg => hO.inN g ((fun _ h => h) g hg))
  have hO := hO.ext hC9
  have hb9 : BoxV w9 g4 31 [(.int .i64 a_.1), (.slice a6x0 n6x0 c6x0)] := hb9
  refine c_nil ?_
  refine c_seq ?_
  refine c_region ?_
  refine pl_val (.agg #[(.int .i64 a_.1), (.slice a6x0 n6x0 c6x0)]) (y_load rfl ((box_load Ag31 Sz31 hb9 [] [(.int .i64 a_.1), (.slice a6x0 n6x0 c6x0)] [] rfl rfl (fun h => nomatch h)) _ (Chg.refl _ _))) ?_
  obtain ⟨w10, hst10, hC10, hb10⟩ := box_store (P := Try.prog) hb3 [] [(.int .i64 0), (.slice none 0 0)] [] [(.int .i64 a_.1), (.slice a6x0 n6x0 c6x0)] rfl rfl (by intro u hu; simp only [List.mem_cons, List.not_mem_nil, or_false] at hu; rcases hu with rfl | rfl <;> rfl)
  refine pl_skip (w' := w10) (ys_store rfl rfl (hst10 _ _ rfl Sz31)) ?_
  have hO := hO.fr2
  have hb2 := hb2.chg hC10 (fun hg => hO.apart _ ((fun _ h => h) _ hg) (mem_r (mem_r (mem_l (List.mem_singleton.2 rfl)))))
  have hb9 := hb9.chg hC10 (fun hg => hO.apart _ ((fun _ h => h) _ hg) (mem_l (List.mem_singleton.2 rfl)))
  have hv6x0 := hv6x0.mut hC10 (fun g hg => hO.inM g ((fun _ h => h) g hg)) (fun g hg e => hO.apart g ((fun _ h => h) g hg) (mem_r (mem_l (e))))
  have hC := hC.step hC10 (fun g hg => hO.inN g ((fun _ h => h) g hg))
  have hO := hO.ext hC10
  have hb10 : BoxV w10 g3 31 [(.int .i64 a_.1), (.slice a6x0 n6x0 c6x0)] := hb10
  refine c_nil ?_
  refine wp_ret ?_
  cases hs
  have hO := hO.drop
  have hO := hO.drop
  have hO := hO.fr1
  have hO := hO.drop
  exact ⟨_, g3, a6x0, n6x0, c6x0, f6x0, fr_ovl 12 ⟨rfl, trivial⟩, hb10, hC, hv6x0, hO.top⟩

theorem Ag108 : AggT Try.prog 108 true := fun _ => by kernel_rfl

theorem Sz108 : SzT Try.prog 108 3 := ⟨_, rfl, rfl⟩

theorem Fa108x0 : ∀ (a : Addr) (w : World), (Instr.fieldAt 108 (.pointer (some a)) 0).run Try.prog w = .ok (.pointer (some (a.add 0))) w := fun _ _ => by kernel_rfl

theorem Bd28 : Bodied Try.prog 28 := bodied Try.func28 (by kernel_rfl) rfl

theorem Fa108x1 : ∀ (a : Addr) (w : World), (Instr.fieldAt 108 (.pointer (some a)) 1).run Try.prog w = .ok (.pointer (some (a.add 1))) w := fun _ _ => by kernel_rfl

def k_laws_toConstraint (M : Nat → Prop) (w0 : World) (r : ((List Int) × (Int × (List (List Int))))) (a : Act) (w : World) : Prop :=
  ∃ (σ : Nat → Value) (rg2 : Nat) (ra0 : Option Addr) (rn0 rc0 : Nat) (rf0 : List Nat) (ra1 : Option Addr) (rn1 rc1 : Nat) (rf1 : List Nat), a = fr 13 (ovl σ [(2, (.pointer (some ⟨rg2, 0, none⟩)))]) ∧ BoxV w rg2 108 [(.slice ra0 rn0 rc0), (.int .i64 r.2.1), (.slice ra1 rn1 rc1)] ∧ Chg [] w0 w ∧ (RT.os 3 (RT.int .i64)).val M w (.slice ra0 rn0 rc0) r.1 rf0 ∧ (RT.os 22 (RT.os 3 (RT.int .i64))).val M w (.slice ra1 rn1 rc1) r.2.2 rf1 ∧ Own (Nw w0 []) (fun _ => True) w (rf0 ++ (rf1 ++ ([])))
def s_laws_toConstraint (a_ : (List Int) × (Int × (List (List Int)))) : Option (((List Int) × (Int × (List (List Int))))) :=
  (s_laws_toIntS a_.1).bind fun r7 =>
  (s_laws_toRelation (a_.2.1, a_.2.2)).bind fun r11 =>
  some (r7, (r11.1, r11.2))
set_option maxHeartbeats 4000000 in
theorem c_laws_toConstraint {M : Nat → Prop} {w : World} {pa0 : Option Addr} {pn0 pc0 : Nat} {pa1 : Option Addr} {pn1 pc1 : Nat} (a_ : (List Int) × (Int × (List (List Int)))) (h0 : (RT.rs (RT.int .i64)).val M w (.slice pa0 pn0 pc0) a_.1 ([])) (h1 : (RT.rs (RT.rs (RT.int .i64))).val M w (.slice pa1 pn1 pc1) a_.2.2 ([])) (hM : ∀ g, w.heap.size ≤ g → M g) {r : ((List Int) × (Int × (List (List Int))))} (hs : s_laws_toConstraint a_ = some r) :
    Gives Try.prog 150 [(.agg #[(.slice pa0 pn0 pc0), (.int .i64 a_.2.1), (.slice pa1 pn1 pc1)])] w (fun v w' => ∃ (ra0 : Option Addr) (rn0 rc0 : Nat) (rf0 : List Nat) (ra1 : Option Addr) (rn1 rc1 : Nat) (rf1 : List Nat), v = (.agg #[(.slice ra0 rn0 rc0), (.int .i64 r.2.1), (.slice ra1 rn1 rc1)]) ∧ Chg [] w w' ∧ (RT.os 3 (RT.int .i64)).val M w' (.slice ra0 rn0 rc0) r.1 rf0 ∧ (RT.os 22 (RT.os 3 (RT.int .i64))).val M w' (.slice ra1 rn1 rc1) r.2.2 rf1 ∧ Own (Nw w []) (fun _ => True) w' (rf0 ++ (rf1 ++ ([])))) := by
  refine calls_fr Try.func150 rfl Try.ntmps150 (Nat.le_of_ble_eq_true rfl) ?_
  have hO := Own.start (N := Nw w []) hM Nw.fut
  have hC := Chg.refl [] w
  unfold s_laws_toConstraint at hs
  refine wp_mono (Q := KPost (k_laws_toConstraint M w r)) ?_ (fun e a w1 h => ?_)
  rotate_left
  · cases e
    case ret =>
      obtain ⟨σ, rg2, ra0, rn0, rc0, rf0, ra1, rn1, rc1, rf1, rfl, hbrg2, hrest⟩ := h
      exact ret1x Try.results150 (res_cell rfl (box_load Ag108 Sz108 hbrg2 [] _ [] rfl rfl (fun h => nomatch h))) ⟨ra0, rn0, rc0, rf0, ra1, rn1, rc1, rf1, rfl, hrest⟩
    all_goals exact (h : False).elim
  refine c_seq ?_
  refine c_region ?_
  obtain ⟨w3, g3, ew3, eg3, hC3, hb3⟩ := new_block w [(.slice pa0 pn0 pc0), (.int .i64 a_.2.1), (.slice pa1 pn1 pc1)] 152
  refine pl_val (w' := w3) (.pointer (some ⟨g3, 0, none⟩)) (y_box rfl (by rw [ew3, eg3]; kernel_rfl)) ?_
  have h0 := h0.ext hC3
  have h1 := h1.ext hC3
  have hC := hC.ext hC3
  have hO := hO.new (X' := [g3]) hC3 (fun q hq => by rw [List.mem_singleton.1 hq, eg3]; exact Nat.le_refl _) (List.nodup_cons.2 ⟨(fun h => nomatch h), List.nodup_nil⟩) (fun q hq => by rw [List.mem_singleton.1 hq]; exact hb3.lt)
  obtain ⟨w4, g4, ew4, eg4, hC4, hb4⟩ := new_block w3 [(.slice none 0 0), (.int .i64 0), (.slice none 0 0)] 108
  refine pl_val (w' := w4) (.pointer (some ⟨g4, 0, none⟩)) (y_alloc (by rw [ew4, eg4]; kernel_rfl)) ?_
  have h0 := h0.ext hC4
  have h1 := h1.ext hC4
  have hb3 := hb3.chg hC4 (fun h => nomatch h)
  have hC := hC.ext hC4
  have hO := hO.new (X' := [g4]) hC4 (fun q hq => by rw [List.mem_singleton.1 hq, eg4]; exact Nat.le_refl _) (List.nodup_cons.2 ⟨(fun h => nomatch h), List.nodup_nil⟩) (fun q hq => by rw [List.mem_singleton.1 hq]; exact hb4.lt)
  refine c_nil ?_
  refine c_seq ?_
  refine c_region ?_
  obtain ⟨w5, g5, ew5, eg5, hC5, hb5⟩ := new_block w4 [(.slice none 0 0), (.int .i64 0), (.slice none 0 0)] 108
  refine pl_val (w' := w5) (.pointer (some ⟨g5, 0, none⟩)) (y_alloc (by rw [ew5, eg5]; kernel_rfl)) ?_
  have h0 := h0.ext hC5
  have h1 := h1.ext hC5
  have hb3 := hb3.chg hC5 (fun h => nomatch h)
  have hb4 := hb4.chg hC5 (fun h => nomatch h)
  have hC := hC.ext hC5
  have hO := hO.new (X' := [g5]) hC5 (fun q hq => by rw [List.mem_singleton.1 hq, eg5]; exact Nat.le_refl _) (List.nodup_cons.2 ⟨(fun h => nomatch h), List.nodup_nil⟩) (fun q hq => by rw [List.mem_singleton.1 hq]; exact hb5.lt)
  refine c_nil ?_
  refine c_seq ?_
  refine c_region ?_
  refine pl_val (.pointer (some ⟨g3, 0, none⟩)) (y_faddr rfl Fa152x0) ?_
  refine pl_val (.slice pa0 pn0 pc0) (y_load rfl ((box_load Ag22 Sz22 hb3 [] [(.slice pa0 pn0 pc0)] [(.int .i64 a_.2.1), (.slice pa1 pn1 pc1)] rfl rfl (fun _ => rfl)) _ (Chg.refl _ _))) ?_
  obtain ⟨r7, hr7, hs⟩ := bind_some hs
  refine pl_call Bd16 rfl (c_laws_toIntS (M := M) a_.1 h0 hO.fut hr7) ?_
  rintro _ w6 ⟨a6x0, n6x0, c6x0, f6x0, rfl, hC6, hv6x0, hOc6⟩
  have h0 := h0.ext hC6
  have h1 := h1.ext hC6
  have hb3 := hb3.chg hC6 (fun h => nomatch h)
  have hb4 := hb4.chg hC6 (fun h => nomatch h)
  have hb5 := hb5.chg hC6 (fun h => nomatch h)
  have hC := hC.ext hC6
  have hO := Own.join0 hO hC6 hOc6
  have hO := hO.perm (R := f6x0 ++ (([g5]) ++ (([g4]) ++ (([g3]) ++ ([]))))) (by simp)
  refine pl_val (.pointer (some ⟨g5, 0, none⟩)) (y_faddr rfl Fa108x0) ?_
  obtain ⟨w9, hst9, hC9, hb9⟩ := box_store (P := Try.prog) hb5 [] [(.slice none 0 0)] [(.int .i64 0), (.slice none 0 0)] [(.slice a6x0 n6x0 c6x0)] rfl rfl (by intro u hu; simp only [List.mem_cons, List.not_mem_nil, or_false] at hu; rcases hu with rfl <;> rfl)
  refine pl_skip (w' := w9) (ys_store rfl rfl (hst9 _ _ rfl Sz22)) ?_
  have hO := hO.fr1
  have h0 := h0.mut hC9 (fun g hg => hO.inM g ((fun _ h => h) g hg)) (fun _ _ h => nomatch h)
  have h1 := h1.mut hC9 (fun g hg => hO.inM g ((fun _ h => h) g hg)) (fun _ _ h => nomatch h)
  have hb3 := hb3.chg hC9 (fun hg => hO.apart _ ((fun _ h => h) _ hg) (mem_r (mem_r (mem_l (List.mem_singleton.2 rfl)))))
  have hb4 := hb4.chg hC9 (fun hg => hO.apart _ ((fun _ h => h) _ hg) (mem_r (mem_l (List.mem_singleton.2 rfl))))
  have hv6x0 := hv6x0.mut hC9 (fun g hg => hO.inM g ((fun _ h => h) g hg)) (fun g hg e => hO.apart g ((fun _ h => h) g hg) (mem_l (e)))
  have hC := hC.step hC9 (fun g hg => hO.inN g ((fun _ h => h) g hg))
  have hO := hO.ext hC9
  have hb9 : BoxV w9 g5 108 [(.slice a6x0 n6x0 c6x0), (.int .i64 0), (.slice none 0 0)] := hb9
  refine c_nil ?_
  refine c_seq ?_
  refine c_region ?_
  refine pl_val (.pointer (some ⟨g3, 1, none⟩)) (y_faddr rfl Fa152x1) ?_
  refine pl_val (.agg #[(.int .i64 a_.2.1), (.slice pa1 pn1 pc1)]) (y_load rfl ((box_load Ag36 Sz36 hb3 [(.slice pa0 pn0 pc0)] [(.int .i64 a_.2.1), (.slice pa1 pn1 pc1)] [] rfl rfl (fun h => nomatch h)) _ (Chg.refl _ _))) ?_
  obtain ⟨r11, hr11, hs⟩ := bind_some hs
  refine pl_call Bd28 rfl (c_laws_toRelation (M := M) (a_.2.1, a_.2.2) h1 hO.fut hr11) ?_
  rintro _ w10 ⟨a10x0, n10x0, c10x0, f10x0, rfl, hC10, hv10x0, hOc10⟩
  have h0 := h0.ext hC10
  have h1 := h1.ext hC10
  have hb3 := hb3.chg hC10 (fun h => nomatch h)
  have hb4 := hb4.chg hC10 (fun h => nomatch h)
  have hb9 := hb9.chg hC10 (fun h => nomatch h)
  have hv6x0 := hv6x0.ext hC10
  have hC := hC.ext hC10
  have hO := Own.join0 hO hC10 hOc10
  have hO := hO.perm (R := f10x0 ++ (([g5]) ++ (f6x0 ++ (([g4]) ++ (([g3]) ++ ([])))))) (by simp)
  refine pl_val (.pointer (some ⟨g5, 1, none⟩)) (y_faddr rfl Fa108x1) ?_
  obtain ⟨w13, hst13, hC13, hb13⟩ := box_store (P := Try.prog) hb9 [(.slice a6x0 n6x0 c6x0)] [(.int .i64 0), (.slice none 0 0)] [] [(.int .i64 r11.1), (.slice a10x0 n10x0 c10x0)] rfl rfl (by intro u hu; simp only [List.mem_cons, List.not_mem_nil, or_false] at hu; rcases hu with rfl | rfl <;> rfl)
  refine pl_skip (w' := w13) (ys_store rfl rfl (hst13 _ _ rfl Sz31)) ?_
  have hO := hO.fr1
  have h0 := h0.mut hC13 (fun g hg => hO.inM g ((fun _ h => h) g hg)) (fun _ _ h => nomatch h)
  have h1 := h1.mut hC13 (fun g hg => hO.inM g ((fun _ h => h) g hg)) (fun _ _ h => nomatch h)
  have hb3 := hb3.chg hC13 (fun hg => hO.apart _ ((fun _ h => h) _ hg) (mem_r (mem_r (mem_r (mem_l (List.mem_singleton.2 rfl))))))
  have hb4 := hb4.chg hC13 (fun hg => hO.apart _ ((fun _ h => h) _ hg) (mem_r (mem_r (mem_l (List.mem_singleton.2 rfl)))))
  have hv6x0 := hv6x0.mut hC13 (fun g hg => hO.inM g ((fun _ h => h) g hg)) (fun g hg e => hO.apart g ((fun _ h => h) g hg) (mem_r (mem_l (e))))
  have hv10x0 := hv10x0.mut hC13 (fun g hg => hO.inM g ((fun _ h => h) g hg)) (fun g hg e => hO.apart g ((fun _ h => h) g hg) (mem_l (e)))
  have hC := hC.step hC13 (fun g hg => hO.inN g ((fun _ h => h) g hg))
  have hO := hO.ext hC13
  have hb13 : BoxV w13 g5 108 [(.slice a6x0 n6x0 c6x0), (.int .i64 r11.1), (.slice a10x0 n10x0 c10x0)] := hb13
  refine c_nil ?_
  refine c_seq ?_
  refine c_region ?_
  refine pl_val (.agg #[(.slice a6x0 n6x0 c6x0), (.int .i64 r11.1), (.slice a10x0 n10x0 c10x0)]) (y_load rfl ((box_load Ag108 Sz108 hb13 [] [(.slice a6x0 n6x0 c6x0), (.int .i64 r11.1), (.slice a10x0 n10x0 c10x0)] [] rfl rfl (fun h => nomatch h)) _ (Chg.refl _ _))) ?_
  obtain ⟨w14, hst14, hC14, hb14⟩ := box_store (P := Try.prog) hb4 [] [(.slice none 0 0), (.int .i64 0), (.slice none 0 0)] [] [(.slice a6x0 n6x0 c6x0), (.int .i64 r11.1), (.slice a10x0 n10x0 c10x0)] rfl rfl (by intro u hu; simp only [List.mem_cons, List.not_mem_nil, or_false] at hu; rcases hu with rfl | rfl | rfl <;> rfl)
  refine pl_skip (w' := w14) (ys_store rfl rfl (hst14 _ _ rfl Sz108)) ?_
  have hO := hO.fr3
  have hb3 := hb3.chg hC14 (fun hg => hO.apart _ ((fun _ h => h) _ hg) (mem_r (mem_r (mem_r (mem_l (List.mem_singleton.2 rfl))))))
  have hb13 := hb13.chg hC14 (fun hg => hO.apart _ ((fun _ h => h) _ hg) (mem_l (List.mem_singleton.2 rfl)))
  have hv6x0 := hv6x0.mut hC14 (fun g hg => hO.inM g ((fun _ h => h) g hg)) (fun g hg e => hO.apart g ((fun _ h => h) g hg) (mem_r (mem_r (mem_l (e)))))
  have hv10x0 := hv10x0.mut hC14 (fun g hg => hO.inM g ((fun _ h => h) g hg)) (fun g hg e => hO.apart g ((fun _ h => h) g hg) (mem_r (mem_l (e))))
  have hC := hC.step hC14 (fun g hg => hO.inN g ((fun _ h => h) g hg))
  have hO := hO.ext hC14
  have hb14 : BoxV w14 g4 108 [(.slice a6x0 n6x0 c6x0), (.int .i64 r11.1), (.slice a10x0 n10x0 c10x0)] := hb14
  refine c_nil ?_
  refine wp_ret ?_
  cases hs
  have hO := hO.drop
  have hO := hO.drop
  have hO := hO.fr2
  have hO := hO.drop
  have hO := hO.fr1
  exact ⟨_, g4, a6x0, n6x0, c6x0, f6x0, a10x0, n10x0, c10x0, f10x0, fr_ovl 13 ⟨rfl, trivial⟩, hb14, hC, hv6x0, hv10x0, hO.top⟩

theorem Rw47 : RowT Try.prog 47 108 3 [(.slice none 0 0), (.int .i64 0), (.slice none 0 0)] := ⟨Try.underlying47, ⟨_, _, rfl, rfl, rfl, rfl, by decide⟩, rfl, by decide⟩

theorem Bd150 : Bodied Try.prog 150 := bodied Try.func150 (by kernel_rfl) rfl

theorem Sl47 : SlT Try.prog 47 108 := Try.underlying47

def k_laws_toConstraintS (M : Nat → Prop) (w0 : World) (r : (List ((List Int) × (Int × (List (List Int)))))) (a : Act) (w : World) : Prop :=
  ∃ (σ : Nat → Value) (ra0 : Option Addr) (rn0 rc0 : Nat) (rf0 : List Nat), a = fr 23 (ovl σ [(2, (.slice ra0 rn0 rc0))]) ∧ Chg [] w0 w ∧ (RT.os 108 (RT.pr (RT.os 3 (RT.int .i64)) (RT.pr (RT.int .i64) (RT.os 22 (RT.os 3 (RT.int .i64)))))).val M w (.slice ra0 rn0 rc0) r rf0 ∧ Own (Nw w0 []) (fun _ => True) w (rf0 ++ ([]))
def s_laws_toConstraintS (a_ : List ((List Int) × (Int × (List (List Int))))) : Option ((List ((List Int) × (Int × (List (List Int)))))) :=
  (mks (a_.length : Int) (([], (0, [])) : (List Int) × (Int × (List (List Int))))).bind fun y3 =>
  (forC (S := (List ((List Int) × (Int × (List (List Int)))))) (R := (List ((List Int) × (Int × (List (List Int)))))) (fun k32 s30 =>
  (idx a_ k32).bind fun x38 =>
  (s_laws_toConstraint (x38.1, (x38.2.1, x38.2.2))).bind fun r44 =>
  (idx s30 k32).bind fun x47 =>
  some (.nx (List.set s30 (Int.toNat k32) (r44.1, (r44.2.1, r44.2.2))))) 0 (a_.length : Int) y3).bind fun o34 => after o34 (fun r_ => some r_) (fun s30 =>
  some s30)
set_option maxHeartbeats 4000000 in
theorem c_laws_toConstraintS {M : Nat → Prop} {w : World} {pa0 : Option Addr} {pn0 pc0 : Nat} (a_ : List ((List Int) × (Int × (List (List Int))))) (h0 : (RT.rs (RT.pr (RT.rs (RT.int .i64)) (RT.pr (RT.int .i64) (RT.rs (RT.rs (RT.int .i64)))))).val M w (.slice pa0 pn0 pc0) a_ ([])) (hM : ∀ g, w.heap.size ≤ g → M g) {r : (List ((List Int) × (Int × (List (List Int)))))} (hs : s_laws_toConstraintS a_ = some r) :
    Gives Try.prog 89 [(.slice pa0 pn0 pc0)] w (fun v w' => ∃ (ra0 : Option Addr) (rn0 rc0 : Nat) (rf0 : List Nat), v = (.slice ra0 rn0 rc0) ∧ Chg [] w w' ∧ (RT.os 108 (RT.pr (RT.os 3 (RT.int .i64)) (RT.pr (RT.int .i64) (RT.os 22 (RT.os 3 (RT.int .i64)))))).val M w' (.slice ra0 rn0 rc0) r rf0 ∧ Own (Nw w []) (fun _ => True) w' (rf0 ++ ([]))) := by
  refine calls_fr Try.func89 rfl Try.ntmps89 (Nat.le_of_ble_eq_true rfl) ?_
  have hO := Own.start (N := Nw w []) hM Nw.fut
  have hC := Chg.refl [] w
  unfold s_laws_toConstraintS at hs
  refine wp_mono (Q := KPost (k_laws_toConstraintS M w r)) ?_ (fun e a w1 h => ?_)
  rotate_left
  · cases e
    case ret =>
      obtain ⟨σ, ra0, rn0, rc0, rf0, rfl, hrest⟩ := h
      exact ret1x Try.results89 (res_tmp rfl) ⟨ra0, rn0, rc0, rf0, rfl, hrest⟩
    all_goals exact (h : False).elim
  refine c_seq ?_
  refine c_region ?_
  refine pl_val (.slice none 0 0) (y_assign rfl) ?_
  refine c_nil ?_
  refine c_seq ?_
  refine c_region ?_
  refine pl_val (.slice pa0 pn0 pc0) (y_move rfl) ?_
  refine pl_val (.int .i64 (a_.length : Int)) (y_len' Sl42 (rs_len h0) rfl) ?_
  obtain ⟨y3, hy3, hs⟩ := bind_some hs
  obtain ⟨a2, n2, c2, w2, f2, hm2, hC2, hfr2, hv2⟩ := mk_os (M := M) (w := w) (r := (RT.pr (RT.os 3 (RT.int .i64)) (RT.pr (RT.int .i64) (RT.os 22 (RT.os 3 (RT.int .i64)))))) Rw47 hy3 (fun _ _ => ⟨_, _, [], [], rfl, rfl, (os_unval os_nil), ⟨_, _, [], [], rfl, rfl, ⟨rfl, rfl⟩, (os_unval os_nil)⟩⟩)
  refine pl_val (w' := w2) (.slice a2 n2 c2) (y_make rfl rfl hm2) ?_
  have h0 := h0.ext hC2
  have hC := hC.ext hC2
  have hO := hO.new hC2 hfr2 (os_nodup hv2) hv2.fpl
  refine pl_val (.slice a2 n2 c2) (y_assign rfl) ?_
  refine c_nil ?_
  refine c_seq ?_
  refine c_seq ?_
  refine c_region ?_
  refine pl_val (.int .i64 0) (y_assign rfl) ?_
  refine c_nil ?_
  obtain ⟨o34, hl35, hs⟩ := bind_some hs
  refine wp_block ?_
  refine wp_forC (id := 0) (a_.length : Int) (I := fun k32 s30 a w31 => ∃ (σ : Nat → Value) (f36 : List Nat), a = fr 23 (ovl σ [(0, (.slice pa0 pn0 pc0)), (3, (.slice a2 n2 c2)), (4, (.int .i64 k32))]) ∧ Chg [] w w31 ∧ Own (Nw w []) M w31 (f36 ++ []) ∧ (RT.rs (RT.pr (RT.rs (RT.int .i64)) (RT.pr (RT.int .i64) (RT.rs (RT.rs (RT.int .i64)))))).val M w31 (.slice pa0 pn0 pc0) a_ ([]) ∧ (RT.os 108 (RT.pr (RT.os 3 (RT.int .i64)) (RT.pr (RT.int .i64) (RT.os 22 (RT.os 3 (RT.int .i64)))))).val M w31 (.slice a2 n2 c2) s30 f36) (J := fun s30 a w31 => ∃ (σ : Nat → Value) (f37 : List Nat), a = fr 23 (ovl σ [(3, (.slice a2 n2 c2))]) ∧ Chg [] w w31 ∧ Own (Nw w []) M w31 (f37 ++ []) ∧ (RT.rs (RT.pr (RT.rs (RT.int .i64)) (RT.pr (RT.int .i64) (RT.rs (RT.rs (RT.int .i64)))))).val M w31 (.slice pa0 pn0 pc0) a_ ([]) ∧ (RT.os 108 (RT.pr (RT.os 3 (RT.int .i64)) (RT.pr (RT.int .i64) (RT.os 22 (RT.os 3 (RT.int .i64)))))).val M w31 (.slice a2 n2 c2) s30 f37) (K := (k_laws_toConstraintS M w)) ?_ ?_ 0 y3 o34 _ _ ?_ hl35 ?_
  · rintro k32 s30 a w31 ⟨σ, f36, rfl, hC, hO, h0, hv36⟩ hlt
    refine c_seq ?_
    refine c_seq ?_
    refine c_region ?_
    refine pl_val (.int .i64 k32) (y_move rfl) ?_
    refine pl_val (.slice pa0 pn0 pc0) (y_move rfl) ?_
    refine pl_val (.int .i64 (a_.length : Int)) (y_len' Sl42 (rs_len h0) rfl) ?_
    refine pl_val (.bool (decide (k32 < (a_.length : Int)))) (y_lss rfl rfl) ?_
    refine c_nil ?_
    refine c_condF (congrArg Value.bool (decide_eq_false hlt)) ?_
    refine wp_exit ?_
    exact ⟨rfl, _, f36, fr_ovl 23 ⟨rfl, trivial⟩, hC, hO, h0, hv36⟩
  · rintro k32 s30 o34 a w31 ⟨σ, f36, rfl, hC, hO, h0, hv36⟩ hlt hw hs
    refine c_seq ?_
    refine c_seq ?_
    refine c_region ?_
    refine pl_val (.int .i64 k32) (y_move rfl) ?_
    refine pl_val (.slice pa0 pn0 pc0) (y_move rfl) ?_
    refine pl_val (.int .i64 (a_.length : Int)) (y_len' Sl42 (rs_len h0) rfl) ?_
    refine pl_val (.bool (decide (k32 < (a_.length : Int)))) (y_lss rfl rfl) ?_
    refine c_nil ?_
    refine c_condT (congrArg Value.bool (decide_eq_true hlt)) ?_
    refine wp_skip ?_
    refine c_seq ?_
    refine wp_block ?_
    refine c_region ?_
    refine pl_val (.slice a2 n2 c2) (y_move rfl) ?_
    refine pl_val (.int .i64 k32) (y_move rfl) ?_
    refine pl_val (.slice pa0 pn0 pc0) (y_move rfl) ?_
    refine pl_val (.int .i64 k32) (y_move rfl) ?_
    obtain ⟨x38, hx38, hs⟩ := bind_some hs
    obtain ⟨b39, o39, hp39, ha39⟩ := rs_idx Sl42 Sz152 h0 hx38
    refine pl_val (.pointer (some ⟨b39, o39, none⟩)) (hp39 _ _ _ _ _ _ _ _ _ rfl rfl) ?_
    obtain ⟨v40, hl40, hv40⟩ := at_load Ag152 Sz152 (by intro h; cases h) ha39
    obtain ⟨cs40, rfl, hr40⟩ := hv40
    obtain ⟨cc40x1, cd40x1, rfl, hh40x1, ht40x1⟩ := pr_open hr40
    obtain ⟨a40x1, n40x1, c40x1, rfl, hv40x1⟩ := rs_rel hh40x1
    obtain ⟨cc40x3, cd40x3, rfl, hh40x3, ht40x3⟩ := pr_open ht40x1
    obtain rfl := int_rel hh40x3
    obtain ⟨a40x4, n40x4, c40x4, rfl, hv40x4⟩ := rs_rel ht40x3
    refine pl_val (.agg #[(.slice a40x1 n40x1 c40x1), (.int .i64 x38.2.1), (.slice a40x4 n40x4 c40x4)]) (y_load rfl (hl40 _ (Chg.refl _ _))) ?_
    obtain ⟨r44, hr44, hs⟩ := bind_some hs
    refine pl_call Bd150 rfl (c_laws_toConstraint (M := M) (x38.1, (x38.2.1, x38.2.2)) hv40x1 hv40x4 hO.fut hr44) ?_
    rintro _ w43 ⟨a43x0, n43x0, c43x0, f43x0, a43x1, n43x1, c43x1, f43x1, rfl, hC43, hv43x0, hv43x1, hOc43⟩
    have h0 := h0.ext hC43
    have hv36 := hv36.ext hC43
    have hv40x1 := hv40x1.ext hC43
    have hv40x4 := hv40x4.ext hC43
    have hC := hC.ext hC43
    have hO := Own.join0 hO hC43 hOc43
    have hO := hO.perm (R := f43x0 ++ (f43x1 ++ (f36 ++ ([])))) (by simp)
    obtain ⟨x47, hx47, hs⟩ := bind_some hs
    obtain ⟨g48, f48, hg48, hk48, hp48, ha48, hf48⟩ := os_idx Sl47 Sz108 hv36 hx47
    have hb48 := own_row (Frz.pr (Frz.os Frz.int) (Frz.pr Frz.int (Frz.os (Frz.os Frz.int)))) ha48 hf48
    refine pl_val (.pointer (some ⟨g48, 0 + Int.toNat k32 * 3, none⟩)) (hp48 _ _ _ _ _ _ _ _ _ rfl rfl) ?_
    have hO := hO.fr1
    have hO := hO.fr1
    have hO := hO.fr2
    obtain ⟨w49, f49, hst49, hC49, hf49, hv49⟩ := os_store (P := Try.prog) (c' := [(.slice a43x0 n43x0 c43x0), (.int .i64 r44.2.1), (.slice a43x1 n43x1 c43x1)]) hg48 hv36 hk48 (fun g hg => hO.inM g (os_block hv36 g (by simpa using hg))) ⟨_, _, _, _, rfl, rfl, (os_unval hv43x0), ⟨_, _, _, _, rfl, rfl, ⟨rfl, rfl⟩, (os_unval hv43x1)⟩⟩ (hO.drop.perm (R := (f43x0 ++ (([] : List Nat) ++ f43x1)) ++ ([])) (by simp)).nd (fun g hg hq => hO.apart g hq (by simp only [List.mem_append, List.not_mem_nil, false_or, or_false] at hg ⊢; rcases hg with hg | hg <;> simp [hg])) (fun _ h => .inl h)
    have hG49 : ∀ q ∈ [g48], q ∈ f36 := fun q hq => os_block hv36 q (by rw [hg48]; exact hq)
    refine pl_skip (w' := w49) (ys_store rfl rfl (hst49 _ _ rfl Sz108)) ?_
    have hO := hO.fr2
    have hO := hO.fr2
    have hO := hO.fr2
    have h0 := h0.mut hC49 (fun g hg => hO.inM g (hG49 g hg)) (fun _ _ h => nomatch h)
    have hv40x1 := hv40x1.mut hC49 (fun g hg => hO.inM g (hG49 g hg)) (fun _ _ h => nomatch h)
    have hv40x4 := hv40x4.mut hC49 (fun g hg => hO.inM g (hG49 g hg)) (fun _ _ h => nomatch h)
    have hC := hC.step hC49 (fun g hg => hO.inN g (hG49 g hg))
    have hO := hO.perm (R := f36 ++ ((f43x0 ++ (([] : List Nat) ++ f43x1)) ++ ([]))) (by simp)
    have hO := hO.eat hC49 (fun q hq => (hf49 q hq).elim .inl (fun h => .inr (.inl h))) (os_nodup hv49) hv49.fpl
    refine c_nil ?_
    refine c_region ?_
    refine pl_val (.int .i64 k32) (y_move rfl) ?_
    refine pl_val (.int .i64 (w64 (k32 + 1))) (y_add rfl rfl) ?_
    refine pl_val (.int .i64 (w64 (k32 + 1))) (y_assign rfl) ?_
    refine c_nil ?_
    cases hs
    exact ⟨_, f49, fr_ovl 23 ⟨rfl, rfl, congrArg (Value.int .i64) hw, trivial⟩, hC, hO, h0, hv49⟩
  · skip
    exact ⟨_, f2, fr_ovl 23 ⟨rfl, rfl, rfl, trivial⟩, hC, hO, h0, hv2⟩
  · cases o34 with
    | nx _ => exact True.intro
    | rt r_ =>
      have hs := after_rt hs
      intro a1 w1 hK
      cases hs
      exact hK
    | br s30 =>
      have hs := after_br hs
      rintro a1 w31 ⟨σ, f37, rfl, hC, hO, h0, hv37⟩
      refine c_seq ?_
      refine c_region ?_
      refine pl_val (.slice a2 n2 c2) (y_move rfl) ?_
      refine pl_val (.slice a2 n2 c2) (y_assign rfl) ?_
      refine c_nil ?_
      refine wp_ret ?_
      cases hs
      exact ⟨_, a2, n2, c2, f37, fr_ovl 23 ⟨rfl, trivial⟩, hC, hv37, hO.top⟩

theorem Ag49 : AggT Try.prog 49 true := fun _ => by kernel_rfl

theorem Sz49 : SzT Try.prog 49 3 := ⟨_, rfl, rfl⟩

theorem Fa44x0 : ∀ (a : Addr) (w : World), (Instr.fieldAt 44 (.pointer (some a)) 0).run Try.prog w = .ok (.pointer (some (a.add 0))) w := fun _ _ => by kernel_rfl

theorem Fa49x0 : ∀ (a : Addr) (w : World), (Instr.fieldAt 49 (.pointer (some a)) 0).run Try.prog w = .ok (.pointer (some (a.add 0))) w := fun _ _ => by kernel_rfl

theorem Fa44x1 : ∀ (a : Addr) (w : World), (Instr.fieldAt 44 (.pointer (some a)) 1).run Try.prog w = .ok (.pointer (some (a.add 1))) w := fun _ _ => by kernel_rfl

theorem Fa49x1 : ∀ (a : Addr) (w : World), (Instr.fieldAt 49 (.pointer (some a)) 1).run Try.prog w = .ok (.pointer (some (a.add 1))) w := fun _ _ => by kernel_rfl

theorem Bd89 : Bodied Try.prog 89 := bodied Try.func89 (by kernel_rfl) rfl

theorem Fa49x2 : ∀ (a : Addr) (w : World), (Instr.fieldAt 49 (.pointer (some a)) 2).run Try.prog w = .ok (.pointer (some (a.add 2))) w := fun _ _ => by kernel_rfl

theorem Sz47 : SzT Try.prog 47 1 := ⟨_, rfl, rfl⟩

def k_laws_toNetwork (M : Nat → Prop) (w0 : World) (r : (Int × Int × (List ((List Int) × (Int × (List (List Int))))))) (a : Act) (w : World) : Prop :=
  ∃ (σ : Nat → Value) (rg2 : Nat) (ra0 : Option Addr) (rn0 rc0 : Nat) (rf0 : List Nat), a = fr 15 (ovl σ [(2, (.pointer (some ⟨rg2, 0, none⟩)))]) ∧ BoxV w rg2 49 [(.int .i64 r.1), (.int .i64 r.2.1), (.slice ra0 rn0 rc0)] ∧ Chg [] w0 w ∧ (RT.os 108 (RT.pr (RT.os 3 (RT.int .i64)) (RT.pr (RT.int .i64) (RT.os 22 (RT.os 3 (RT.int .i64)))))).val M w (.slice ra0 rn0 rc0) r.2.2 rf0 ∧ Own (Nw w0 []) (fun _ => True) w (rf0 ++ ([]))
def s_laws_toNetwork (a_ : Int × Int × (List ((List Int) × (Int × (List (List Int)))))) : Option ((Int × Int × (List ((List Int) × (Int × (List (List Int))))))) :=
  (s_laws_toConstraintS a_.2.2).bind fun r8 =>
  some (a_.1, a_.2.1, r8)
set_option maxHeartbeats 4000000 in
theorem c_laws_toNetwork {M : Nat → Prop} {w : World} {pa0 : Option Addr} {pn0 pc0 : Nat} (a_ : Int × Int × (List ((List Int) × (Int × (List (List Int)))))) (h0 : (RT.rs (RT.pr (RT.rs (RT.int .i64)) (RT.pr (RT.int .i64) (RT.rs (RT.rs (RT.int .i64)))))).val M w (.slice pa0 pn0 pc0) a_.2.2 ([])) (hM : ∀ g, w.heap.size ≤ g → M g) {r : (Int × Int × (List ((List Int) × (Int × (List (List Int))))))} (hs : s_laws_toNetwork a_ = some r) :
    Gives Try.prog 32 [(.agg #[(.int .i64 a_.1), (.int .i64 a_.2.1), (.slice pa0 pn0 pc0)])] w (fun v w' => ∃ (ra0 : Option Addr) (rn0 rc0 : Nat) (rf0 : List Nat), v = (.agg #[(.int .i64 r.1), (.int .i64 r.2.1), (.slice ra0 rn0 rc0)]) ∧ Chg [] w w' ∧ (RT.os 108 (RT.pr (RT.os 3 (RT.int .i64)) (RT.pr (RT.int .i64) (RT.os 22 (RT.os 3 (RT.int .i64)))))).val M w' (.slice ra0 rn0 rc0) r.2.2 rf0 ∧ Own (Nw w []) (fun _ => True) w' (rf0 ++ ([]))) := by
  refine calls_fr Try.func32 rfl Try.ntmps32 (Nat.le_of_ble_eq_true rfl) ?_
  have hO := Own.start (N := Nw w []) hM Nw.fut
  have hC := Chg.refl [] w
  unfold s_laws_toNetwork at hs
  refine wp_mono (Q := KPost (k_laws_toNetwork M w r)) ?_ (fun e a w1 h => ?_)
  rotate_left
  · cases e
    case ret =>
      obtain ⟨σ, rg2, ra0, rn0, rc0, rf0, rfl, hbrg2, hrest⟩ := h
      exact ret1x Try.results32 (res_cell rfl (box_load Ag49 Sz49 hbrg2 [] _ [] rfl rfl (fun h => nomatch h))) ⟨ra0, rn0, rc0, rf0, rfl, hrest⟩
    all_goals exact (h : False).elim
  refine c_seq ?_
  refine c_region ?_
  obtain ⟨w2, g2, ew2, eg2, hC2, hb2⟩ := new_block w [(.int .i64 a_.1), (.int .i64 a_.2.1), (.slice pa0 pn0 pc0)] 44
  refine pl_val (w' := w2) (.pointer (some ⟨g2, 0, none⟩)) (y_box rfl (by rw [ew2, eg2]; kernel_rfl)) ?_
  have h0 := h0.ext hC2
  have hC := hC.ext hC2
  have hO := hO.new (X' := [g2]) hC2 (fun q hq => by rw [List.mem_singleton.1 hq, eg2]; exact Nat.le_refl _) (List.nodup_cons.2 ⟨(fun h => nomatch h), List.nodup_nil⟩) (fun q hq => by rw [List.mem_singleton.1 hq]; exact hb2.lt)
  obtain ⟨w3, g3, ew3, eg3, hC3, hb3⟩ := new_block w2 [(.int .i64 0), (.int .i64 0), (.slice none 0 0)] 49
  refine pl_val (w' := w3) (.pointer (some ⟨g3, 0, none⟩)) (y_alloc (by rw [ew3, eg3]; kernel_rfl)) ?_
  have h0 := h0.ext hC3
  have hb2 := hb2.chg hC3 (fun h => nomatch h)
  have hC := hC.ext hC3
  have hO := hO.new (X' := [g3]) hC3 (fun q hq => by rw [List.mem_singleton.1 hq, eg3]; exact Nat.le_refl _) (List.nodup_cons.2 ⟨(fun h => nomatch h), List.nodup_nil⟩) (fun q hq => by rw [List.mem_singleton.1 hq]; exact hb3.lt)
  refine c_nil ?_
  refine c_seq ?_
  refine c_region ?_
  obtain ⟨w4, g4, ew4, eg4, hC4, hb4⟩ := new_block w3 [(.int .i64 0), (.int .i64 0), (.slice none 0 0)] 49
  refine pl_val (w' := w4) (.pointer (some ⟨g4, 0, none⟩)) (y_alloc (by rw [ew4, eg4]; kernel_rfl)) ?_
  have h0 := h0.ext hC4
  have hb2 := hb2.chg hC4 (fun h => nomatch h)
  have hb3 := hb3.chg hC4 (fun h => nomatch h)
  have hC := hC.ext hC4
  have hO := hO.new (X' := [g4]) hC4 (fun q hq => by rw [List.mem_singleton.1 hq, eg4]; exact Nat.le_refl _) (List.nodup_cons.2 ⟨(fun h => nomatch h), List.nodup_nil⟩) (fun q hq => by rw [List.mem_singleton.1 hq]; exact hb4.lt)
  refine c_nil ?_
  refine c_seq ?_
  refine c_region ?_
  refine pl_val (.pointer (some ⟨g2, 0, none⟩)) (y_faddr rfl Fa44x0) ?_
  refine pl_val (.int .i64 a_.1) (y_load rfl ((box_load Ag3 Sz3 hb2 [] [(.int .i64 a_.1)] [(.int .i64 a_.2.1), (.slice pa0 pn0 pc0)] rfl rfl (fun _ => rfl)) _ (Chg.refl _ _))) ?_
  refine pl_val (.pointer (some ⟨g4, 0, none⟩)) (y_faddr rfl Fa49x0) ?_
  obtain ⟨w5, hst5, hC5, hb5⟩ := box_store (P := Try.prog) hb4 [] [(.int .i64 0)] [(.int .i64 0), (.slice none 0 0)] [(.int .i64 a_.1)] rfl rfl (by intro u hu; simp only [List.mem_cons, List.not_mem_nil, or_false] at hu; rcases hu with rfl <;> rfl)
  refine pl_skip (w' := w5) (ys_store rfl rfl (hst5 _ _ rfl Sz3)) ?_
  have h0 := h0.mut hC5 (fun g hg => hO.inM g ((fun _ h => h) g hg)) (fun _ _ h => nomatch h)
  have hb2 := hb2.chg hC5 (fun hg => hO.apart _ ((fun _ h => h) _ hg) (mem_r (mem_l (List.mem_singleton.2 rfl))))
  have hb3 := hb3.chg hC5 (fun hg => hO.apart _ ((fun _ h => h) _ hg) (mem_l (List.mem_singleton.2 rfl)))
  have hC := hC.step hC5 (fun g hg => hO.inN g ((fun _ h => h) g hg))
  have hO := hO.ext hC5
  have hb5 : BoxV w5 g4 49 [(.int .i64 a_.1), (.int .i64 0), (.slice none 0 0)] := hb5
  refine c_nil ?_
  refine c_seq ?_
  refine c_region ?_
  refine pl_val (.pointer (some ⟨g2, 1, none⟩)) (y_faddr rfl Fa44x1) ?_
  refine pl_val (.int .i64 a_.2.1) (y_load rfl ((box_load Ag3 Sz3 hb2 [(.int .i64 a_.1)] [(.int .i64 a_.2.1)] [(.slice pa0 pn0 pc0)] rfl rfl (fun _ => rfl)) _ (Chg.refl _ _))) ?_
  refine pl_val (.pointer (some ⟨g4, 1, none⟩)) (y_faddr rfl Fa49x1) ?_
  obtain ⟨w6, hst6, hC6, hb6⟩ := box_store (P := Try.prog) hb5 [(.int .i64 a_.1)] [(.int .i64 0)] [(.slice none 0 0)] [(.int .i64 a_.2.1)] rfl rfl (by intro u hu; simp only [List.mem_cons, List.not_mem_nil, or_false] at hu; rcases hu with rfl <;> rfl)
  refine pl_skip (w' := w6) (ys_store rfl rfl (hst6 _ _ rfl Sz3)) ?_
  have h0 := h0.mut hC6 (fun g hg => hO.inM g ((fun _ h => h) g hg)) (fun _ _ h => nomatch h)
  have hb2 := hb2.chg hC6 (fun hg => hO.apart _ ((fun _ h => h) _ hg) (mem_r (mem_l (List.mem_singleton.2 rfl))))
  have hb3 := hb3.chg hC6 (fun hg => hO.apart _ ((fun _ h => h) _ hg) (mem_l (List.mem_singleton.2 rfl)))
  have hC := hC.step hC6 (fun g hg => hO.inN g ((fun _ h => h) g hg))
  have hO := hO.ext hC6
  have hb6 : BoxV w6 g4 49 [(.int .i64 a_.1), (.int .i64 a_.2.1), (.slice none 0 0)] := hb6
  refine c_nil ?_
  refine c_seq ?_
  refine c_region ?_
  refine pl_val (.pointer (some ⟨g2, 2, none⟩)) (y_faddr rfl Fa44x2) ?_
  refine pl_val (.slice pa0 pn0 pc0) (y_load rfl ((box_load Ag42 Sz42 hb2 [(.int .i64 a_.1), (.int .i64 a_.2.1)] [(.slice pa0 pn0 pc0)] [] rfl rfl (fun _ => rfl)) _ (Chg.refl _ _))) ?_
  obtain ⟨r8, hr8, hs⟩ := bind_some hs
  refine pl_call Bd89 rfl (c_laws_toConstraintS (M := M) a_.2.2 h0 hO.fut hr8) ?_
  rintro _ w7 ⟨a7x0, n7x0, c7x0, f7x0, rfl, hC7, hv7x0, hOc7⟩
  have h0 := h0.ext hC7
  have hb2 := hb2.chg hC7 (fun h => nomatch h)
  have hb3 := hb3.chg hC7 (fun h => nomatch h)
  have hb6 := hb6.chg hC7 (fun h => nomatch h)
  have hC := hC.ext hC7
  have hO := Own.join0 hO hC7 hOc7
  have hO := hO.perm (R := f7x0 ++ (([g4]) ++ (([g3]) ++ (([g2]) ++ ([]))))) (by simp)
  refine pl_val (.pointer (some ⟨g4, 2, none⟩)) (y_faddr rfl Fa49x2) ?_
  obtain ⟨w10, hst10, hC10, hb10⟩ := box_store (P := Try.prog) hb6 [(.int .i64 a_.1), (.int .i64 a_.2.1)] [(.slice none 0 0)] [] [(.slice a7x0 n7x0 c7x0)] rfl rfl (by intro u hu; simp only [List.mem_cons, List.not_mem_nil, or_false] at hu; rcases hu with rfl <;> rfl)
  refine pl_skip (w' := w10) (ys_store rfl rfl (hst10 _ _ rfl Sz47)) ?_
  have hO := hO.fr1
  have h0 := h0.mut hC10 (fun g hg => hO.inM g ((fun _ h => h) g hg)) (fun _ _ h => nomatch h)
  have hb2 := hb2.chg hC10 (fun hg => hO.apart _ ((fun _ h => h) _ hg) (mem_r (mem_r (mem_l (List.mem_singleton.2 rfl)))))
  have hb3 := hb3.chg hC10 (fun hg => hO.apart _ ((fun _ h => h) _ hg) (mem_r (mem_l (List.mem_singleton.2 rfl))))
  have hv7x0 := hv7x0.mut hC10 (fun g hg => hO.inM g ((fun _ h => h) g hg)) (fun g hg e => hO.apart g ((fun _ h => h) g hg) (mem_l (e)))
  have hC := hC.step hC10 (fun g hg => hO.inN g ((fun _ h => h) g hg))
  have hO := hO.ext hC10
  have hb10 : BoxV w10 g4 49 [(.int .i64 a_.1), (.int .i64 a_.2.1), (.slice a7x0 n7x0 c7x0)] := hb10
  refine c_nil ?_
  refine c_seq ?_
  refine c_region ?_
  refine pl_val (.agg #[(.int .i64 a_.1), (.int .i64 a_.2.1), (.slice a7x0 n7x0 c7x0)]) (y_load rfl ((box_load Ag49 Sz49 hb10 [] [(.int .i64 a_.1), (.int .i64 a_.2.1), (.slice a7x0 n7x0 c7x0)] [] rfl rfl (fun h => nomatch h)) _ (Chg.refl _ _))) ?_
  obtain ⟨w11, hst11, hC11, hb11⟩ := box_store (P := Try.prog) hb3 [] [(.int .i64 0), (.int .i64 0), (.slice none 0 0)] [] [(.int .i64 a_.1), (.int .i64 a_.2.1), (.slice a7x0 n7x0 c7x0)] rfl rfl (by intro u hu; simp only [List.mem_cons, List.not_mem_nil, or_false] at hu; rcases hu with rfl | rfl | rfl <;> rfl)
  refine pl_skip (w' := w11) (ys_store rfl rfl (hst11 _ _ rfl Sz49)) ?_
  have hO := hO.fr2
  have hb2 := hb2.chg hC11 (fun hg => hO.apart _ ((fun _ h => h) _ hg) (mem_r (mem_r (mem_l (List.mem_singleton.2 rfl)))))
  have hb10 := hb10.chg hC11 (fun hg => hO.apart _ ((fun _ h => h) _ hg) (mem_l (List.mem_singleton.2 rfl)))
  have hv7x0 := hv7x0.mut hC11 (fun g hg => hO.inM g ((fun _ h => h) g hg)) (fun g hg e => hO.apart g ((fun _ h => h) g hg) (mem_r (mem_l (e))))
  have hC := hC.step hC11 (fun g hg => hO.inN g ((fun _ h => h) g hg))
  have hO := hO.ext hC11
  have hb11 : BoxV w11 g3 49 [(.int .i64 a_.1), (.int .i64 a_.2.1), (.slice a7x0 n7x0 c7x0)] := hb11
  refine c_nil ?_
  refine wp_ret ?_
  cases hs
  have hO := hO.drop
  have hO := hO.drop
  have hO := hO.fr1
  have hO := hO.drop
  exact ⟨_, g3, a7x0, n7x0, c7x0, f7x0, fr_ovl 15 ⟨rfl, trivial⟩, hb11, hC, hv7x0, hO.top⟩

def k_spec_l1In (M : Nat → Prop) (w0 : World) (r : Bool) (a : Act) (w : World) : Prop :=
  ∃ (σ : Nat → Value) , a = fr 15 (ovl σ [(6, (.bool r))]) ∧ Chg [] w0 w
def s_spec_l1In (x_ : Int) (a_ : Int) (b : Int) : Option (Bool) :=
  (bif (decide (a_ ≤ x_)) then some (decide (x_ ≤ b)) else some false)
set_option maxHeartbeats 4000000 in
theorem c_spec_l1In {M : Nat → Prop} {w : World}  (x_ : Int) (a_ : Int) (b : Int)  (hM : ∀ g, w.heap.size ≤ g → M g) {r : Bool} (hs : s_spec_l1In x_ a_ b = some r) :
    Gives Try.prog 137 [(.int .i64 x_), (.int .i64 a_), (.int .i64 b)] w (fun v w' => v = (.bool r) ∧ Chg [] w w') := by
  refine calls_fr Try.func137 rfl Try.ntmps137 (Nat.le_of_ble_eq_true rfl) ?_
  have hO := Own.start (N := Nw w []) hM Nw.fut
  have hC := Chg.refl [] w
  unfold s_spec_l1In at hs
  refine wp_mono (Q := KPost (k_spec_l1In M w r)) ?_ (fun e a w1 h => ?_)
  rotate_left
  · cases e
    case ret =>
      obtain ⟨σ, rfl, hrest⟩ := h
      exact ret1x Try.results137 (res_tmp rfl) ⟨rfl, hrest⟩
    all_goals exact (h : False).elim
  refine c_seq ?_
  refine c_region ?_
  refine pl_val (.bool false) (y_assign rfl) ?_
  refine c_nil ?_
  refine c_seq ?_
  refine c_region ?_
  refine pl_val (.int .i64 x_) (y_move rfl) ?_
  refine pl_val (.int .i64 a_) (y_move rfl) ?_
  refine pl_val (.bool (decide (a_ ≤ x_))) (y_geq rfl rfl) ?_
  refine pl_val (.bool (decide (a_ ≤ x_))) (y_move rfl) ?_
  rcases bif_some hs with ⟨hc1, hs⟩ | ⟨hc1, hs⟩
  · skip
    refine pl_yes (.int .i64 x_) (tg := 10) (by kernel_rfl) (congrArg Value.bool hc1) (y_move rfl) ?_
    refine pl_yes (.int .i64 b) (tg := 10) (by kernel_rfl) (congrArg Value.bool hc1) (y_move rfl) ?_
    refine pl_yes (.bool (decide (x_ ≤ b))) (tg := 10) (by kernel_rfl) (congrArg Value.bool hc1) (y_leq rfl rfl) ?_
    refine pl_val (.bool (decide (x_ ≤ b))) (y_pick_t (congrArg Value.bool hc1) rfl) ?_
    refine pl_val (.bool (decide (x_ ≤ b))) (y_assign rfl) ?_
    refine c_nil ?_
    refine wp_ret ?_
    cases hs
    exact ⟨_, fr_ovl 15 ⟨rfl, trivial⟩, hC⟩
  · skip
    refine pl_not (tg := 10) (by kernel_rfl) (congrArg Value.bool hc1) ?_
    refine pl_not (tg := 10) (by kernel_rfl) (congrArg Value.bool hc1) ?_
    refine pl_not (tg := 10) (by kernel_rfl) (congrArg Value.bool hc1) ?_
    refine pl_val (.bool false) (y_pick_f (congrArg Value.bool hc1) rfl) ?_
    refine pl_val (.bool false) (y_assign rfl) ?_
    refine c_nil ?_
    refine wp_ret ?_
    cases hs
    exact ⟨_, fr_ovl 15 ⟨rfl, trivial⟩, hC⟩

def k_spec_l2Pow (M : Nat → Prop) (w0 : World) (r : Int) (a : Act) (w : World) : Prop :=
  ∃ (σ : Nat → Value) , a = fr 14 (ovl σ [(4, (.int .i64 r))]) ∧ Chg [] w0 w
def s_spec_l2Pow (n : Int) (k : Int) : Option (Int) :=
  (iter (S := Int × Int) (R := Int) (fun s2 =>
  (bif (decide (0 < s2.1)) then some (.nx (w64 (s2.1 - 1), w64 (s2.2 * n))) else some (.br (s2.1, s2.2)))) FU (k, 1)).bind fun o6 => after o6 (fun r_ => some r_) (fun s2 =>
  some s2.2)
set_option maxHeartbeats 4000000 in
theorem c_spec_l2Pow {M : Nat → Prop} {w : World}  (n : Int) (k : Int)  (hM : ∀ g, w.heap.size ≤ g → M g) {r : Int} (hs : s_spec_l2Pow n k = some r) :
    Gives Try.prog 178 [(.int .i64 n), (.int .i64 k)] w (fun v w' => v = (.int .i64 r) ∧ Chg [] w w') := by
  refine calls_fr Try.func178 rfl Try.ntmps178 (Nat.le_of_ble_eq_true rfl) ?_
  have hO := Own.start (N := Nw w []) hM Nw.fut
  have hC := Chg.refl [] w
  unfold s_spec_l2Pow at hs
  refine wp_mono (Q := KPost (k_spec_l2Pow M w r)) ?_ (fun e a w1 h => ?_)
  rotate_left
  · cases e
    case ret =>
      obtain ⟨σ, rfl, hrest⟩ := h
      exact ret1x Try.results178 (res_tmp rfl) ⟨rfl, hrest⟩
    all_goals exact (h : False).elim
  refine c_seq ?_
  refine c_region ?_
  refine pl_val (.int .i64 0) (y_assign rfl) ?_
  refine c_nil ?_
  refine c_seq ?_
  refine c_region ?_
  refine pl_val (.int .i64 1) (y_assign rfl) ?_
  refine c_nil ?_
  refine c_seq ?_
  obtain ⟨o6, hl7, hs⟩ := bind_some hs
  refine wp_block ?_
  refine wp_iter (id := 0) (I := fun s2 a w3 => ∃ (σ : Nat → Value), a = fr 14 (ovl σ [(0, (.int .i64 n)), (1, (.int .i64 s2.1)), (5, (.int .i64 s2.2))]) ∧ Chg [] w w3 ∧ Own (Nw w []) M w3 ([])) (J := fun s2 a w3 => ∃ (σ : Nat → Value), a = fr 14 (ovl σ [(5, (.int .i64 s2.2))]) ∧ Chg [] w w3 ∧ Own (Nw w []) M w3 ([])) (K := (k_spec_l2Pow M w)) ?_ FU (k, 1) o6 _ _ ?_ hl7 ?_
  · rintro s2 o6 a w3 ⟨σ, rfl, hC, hO⟩ hs
    refine c_seq ?_
    refine c_seq ?_
    refine c_region ?_
    refine pl_val (.int .i64 s2.1) (y_move rfl) ?_
    refine pl_val (.bool (decide (0 < s2.1))) (y_gtr rfl rfl) ?_
    refine c_nil ?_
    rcases bif_some hs with ⟨hc8, hs⟩ | ⟨hc8, hs⟩
    · skip
      refine c_condT (congrArg Value.bool hc8) ?_
      refine wp_skip ?_
      refine c_seq ?_
      refine wp_block ?_
      refine c_region ?_
      refine pl_val (.int .i64 s2.2) (y_move rfl) ?_
      refine pl_val (.int .i64 n) (y_move rfl) ?_
      refine pl_val (.int .i64 (w64 (s2.2 * n))) (y_mul rfl rfl) ?_
      refine pl_val (.int .i64 (w64 (s2.2 * n))) (y_assign rfl) ?_
      refine c_nil ?_
      refine c_region ?_
      refine pl_val (.int .i64 s2.1) (y_move rfl) ?_
      refine pl_val (.int .i64 (w64 (s2.1 - 1))) (y_sub rfl rfl) ?_
      refine pl_val (.int .i64 (w64 (s2.1 - 1))) (y_assign rfl) ?_
      refine c_nil ?_
      cases hs
      exact ⟨_, fr_ovl 14 ⟨rfl, rfl, rfl, trivial⟩, hC, hO⟩
    · skip
      refine c_condF (congrArg Value.bool hc8) ?_
      refine wp_exit ?_
      cases hs
      exact ⟨rfl, _, fr_ovl 14 ⟨rfl, trivial⟩, hC, hO⟩
  · skip
    exact ⟨_, fr_ovl 14 ⟨rfl, rfl, rfl, trivial⟩, hC, hO⟩
  · cases o6 with
    | nx _ => exact True.intro
    | rt r_ =>
      have hs := after_rt hs
      intro a1 w1 hK
      cases hs
      exact hK
    | br s2 =>
      have hs := after_br hs
      rintro a1 w3 ⟨σ, rfl, hC, hO⟩
      refine c_seq ?_
      refine c_region ?_
      refine pl_val (.int .i64 s2.2) (y_move rfl) ?_
      refine pl_val (.int .i64 s2.2) (y_assign rfl) ?_
      refine c_nil ?_
      refine wp_ret ?_
      cases hs
      exact ⟨_, fr_ovl 14 ⟨rfl, trivial⟩, hC⟩

theorem Bd137 : Bodied Try.prog 137 := bodied Try.func137 (by kernel_rfl) rfl

def k_spec_l2Elements (M : Nat → Prop) (w0 : World) (r : Bool) (a : Act) (w : World) : Prop :=
  ∃ (σ : Nat → Value) , a = fr 20 (ovl σ [(4, (.bool r))]) ∧ Chg [] w0 w
def s_spec_l2Elements (n : Int) (list : List Int) : Option (Bool) :=
  (forC (S := Unit) (R := Bool) (fun k9 s7 =>
  (idx list k9).bind fun x13 =>
  (s_spec_l1In x13 0 (w64 (n - 1))).bind fun r16 =>
  (bif (!r16) then some (.rt false) else some (.nx ()))) 0 (list.length : Int) ()).bind fun o11 => after o11 (fun r_ => some r_) (fun s7 =>
  some true)
set_option maxHeartbeats 4000000 in
theorem c_spec_l2Elements {M : Nat → Prop} {w : World} {pa0 : Option Addr} {pn0 pc0 : Nat} (n : Int) (list : List Int) (h0 : (RT.rs (RT.int .i64)).val M w (.slice pa0 pn0 pc0) list ([])) (hM : ∀ g, w.heap.size ≤ g → M g) {r : Bool} (hs : s_spec_l2Elements n list = some r) :
    Gives Try.prog 109 [(.int .i64 n), (.slice pa0 pn0 pc0)] w (fun v w' => v = (.bool r) ∧ Chg [] w w') := by
  refine calls_fr Try.func109 rfl Try.ntmps109 (Nat.le_of_ble_eq_true rfl) ?_
  have hO := Own.start (N := Nw w []) hM Nw.fut
  have hC := Chg.refl [] w
  unfold s_spec_l2Elements at hs
  refine wp_mono (Q := KPost (k_spec_l2Elements M w r)) ?_ (fun e a w1 h => ?_)
  rotate_left
  · cases e
    case ret =>
      obtain ⟨σ, rfl, hrest⟩ := h
      exact ret1x Try.results109 (res_tmp rfl) ⟨rfl, hrest⟩
    all_goals exact (h : False).elim
  refine c_seq ?_
  refine c_region ?_
  refine pl_val (.bool false) (y_assign rfl) ?_
  refine c_nil ?_
  refine c_seq ?_
  refine c_seq ?_
  refine c_region ?_
  refine pl_val (.int .i64 0) (y_assign rfl) ?_
  refine c_nil ?_
  obtain ⟨o11, hl12, hs⟩ := bind_some hs
  refine wp_block ?_
  refine wp_forC (id := 0) (list.length : Int) (I := fun k9 s7 a w8 => ∃ (σ : Nat → Value), a = fr 20 (ovl σ [(0, (.int .i64 n)), (1, (.slice pa0 pn0 pc0)), (5, (.int .i64 k9))]) ∧ Chg [] w w8 ∧ Own (Nw w []) M w8 ([]) ∧ (RT.rs (RT.int .i64)).val M w8 (.slice pa0 pn0 pc0) list ([])) (J := fun s7 a w8 => ∃ (σ : Nat → Value), a = fr 20 (ovl σ []) ∧ Chg [] w w8 ∧ Own (Nw w []) M w8 ([]) ∧ (RT.rs (RT.int .i64)).val M w8 (.slice pa0 pn0 pc0) list ([])) (K := (k_spec_l2Elements M w)) ?_ ?_ 0 () o11 _ _ ?_ hl12 ?_
  · rintro k9 s7 a w8 ⟨σ, rfl, hC, hO, h0⟩ hlt
    refine c_seq ?_
    refine c_seq ?_
    refine c_region ?_
    refine pl_val (.int .i64 k9) (y_move rfl) ?_
    refine pl_val (.slice pa0 pn0 pc0) (y_move rfl) ?_
    refine pl_val (.int .i64 (list.length : Int)) (y_len' Sl22 (rs_len h0) rfl) ?_
    refine pl_val (.bool (decide (k9 < (list.length : Int)))) (y_lss rfl rfl) ?_
    refine c_nil ?_
    refine c_condF (congrArg Value.bool (decide_eq_false hlt)) ?_
    refine wp_exit ?_
    exact ⟨rfl, _, fr_ovl 20 trivial, hC, hO, h0⟩
  · rintro k9 s7 o11 a w8 ⟨σ, rfl, hC, hO, h0⟩ hlt hw hs
    refine c_seq ?_
    refine c_seq ?_
    refine c_region ?_
    refine pl_val (.int .i64 k9) (y_move rfl) ?_
    refine pl_val (.slice pa0 pn0 pc0) (y_move rfl) ?_
    refine pl_val (.int .i64 (list.length : Int)) (y_len' Sl22 (rs_len h0) rfl) ?_
    refine pl_val (.bool (decide (k9 < (list.length : Int)))) (y_lss rfl rfl) ?_
    refine c_nil ?_
    refine c_condT (congrArg Value.bool (decide_eq_true hlt)) ?_
    refine wp_skip ?_
    refine c_seq ?_
    refine wp_block ?_
    refine c_seq ?_
    refine c_region ?_
    refine pl_val (.slice pa0 pn0 pc0) (y_move rfl) ?_
    refine pl_val (.int .i64 k9) (y_move rfl) ?_
    obtain ⟨x13, hx13, hs⟩ := bind_some hs
    obtain ⟨b14, o14, hp14, ha14⟩ := rs_idx Sl22 Sz3 h0 hx13
    refine pl_val (.pointer (some ⟨b14, o14, none⟩)) (hp14 _ _ _ _ _ _ _ _ _ rfl rfl) ?_
    refine pl_val (.int .i64 x13) (y_load rfl ((at_load_int Ag3 Sz3 ha14) _ (Chg.refl _ _))) ?_
    refine pl_val (.int .i64 n) (y_move rfl) ?_
    refine pl_val (.int .i64 (w64 (n - 1))) (y_sub rfl rfl) ?_
    obtain ⟨r16, hr16, hs⟩ := bind_some hs
    refine pl_call Bd137 rfl (c_spec_l1In (M := M) x13 0 (w64 (n - 1))  hO.fut hr16) ?_
    rintro _ w15 ⟨rfl, hC15⟩
    have h0 := h0.ext hC15
    have hC := hC.ext hC15
    have hO := hO.ext hC15
    refine pl_val (.bool (!r16)) (y_not rfl) ?_
    refine c_nil ?_
    rcases bif_some hs with ⟨hc17, hs⟩ | ⟨hc17, hs⟩
    · skip
      refine c_condT (congrArg Value.bool hc17) ?_
      refine c_seq ?_
      refine c_region ?_
      refine pl_val (.bool false) (y_assign rfl) ?_
      refine c_nil ?_
      refine wp_ret ?_
      cases hs
      exact ⟨_, fr_ovl 20 ⟨rfl, trivial⟩, hC⟩
    · skip
      refine c_condF (congrArg Value.bool hc17) ?_
      refine wp_skip ?_
      refine c_region ?_
      refine pl_val (.int .i64 k9) (y_move rfl) ?_
      refine pl_val (.int .i64 (w64 (k9 + 1))) (y_add rfl rfl) ?_
      refine pl_val (.int .i64 (w64 (k9 + 1))) (y_assign rfl) ?_
      refine c_nil ?_
      cases hs
      exact ⟨_, fr_ovl 20 ⟨rfl, rfl, congrArg (Value.int .i64) hw, trivial⟩, hC, hO, h0⟩
  · skip
    exact ⟨_, fr_ovl 20 ⟨rfl, rfl, rfl, trivial⟩, hC, hO, h0⟩
  · cases o11 with
    | nx _ => exact True.intro
    | rt r_ =>
      have hs := after_rt hs
      intro a1 w1 hK
      cases hs
      exact hK
    | br s7 =>
      have hs := after_br hs
      rintro a1 w8 ⟨σ, rfl, hC, hO, h0⟩
      refine c_seq ?_
      refine c_region ?_
      refine pl_val (.bool true) (y_assign rfl) ?_
      refine c_nil ?_
      refine wp_ret ?_
      cases hs
      exact ⟨_, fr_ovl 20 ⟨rfl, trivial⟩, hC⟩

theorem Bd109 : Bodied Try.prog 109 := bodied Try.func109 (by kernel_rfl) rfl

def k_spec_l8Tuple (M : Nat → Prop) (w0 : World) (r : Bool) (a : Act) (w : World) : Prop :=
  ∃ (σ : Nat → Value) , a = fr 16 (ovl σ [(6, (.bool r))]) ∧ Chg [] w0 w
def s_spec_l8Tuple (n : Int) (k : Int) (t : List Int) : Option (Bool) :=
  (bif ((t.length : Int) == k) then (s_spec_l2Elements n t).bind fun r4 =>
  some r4 else some false)
set_option maxHeartbeats 4000000 in
theorem c_spec_l8Tuple {M : Nat → Prop} {w : World} {pa0 : Option Addr} {pn0 pc0 : Nat} (n : Int) (k : Int) (t : List Int) (h0 : (RT.rs (RT.int .i64)).val M w (.slice pa0 pn0 pc0) t ([])) (hM : ∀ g, w.heap.size ≤ g → M g) {r : Bool} (hs : s_spec_l8Tuple n k t = some r) :
    Gives Try.prog 179 [(.int .i64 n), (.int .i64 k), (.slice pa0 pn0 pc0)] w (fun v w' => v = (.bool r) ∧ Chg [] w w') := by
  refine calls_fr Try.func179 rfl Try.ntmps179 (Nat.le_of_ble_eq_true rfl) ?_
  have hO := Own.start (N := Nw w []) hM Nw.fut
  have hC := Chg.refl [] w
  unfold s_spec_l8Tuple at hs
  refine wp_mono (Q := KPost (k_spec_l8Tuple M w r)) ?_ (fun e a w1 h => ?_)
  rotate_left
  · cases e
    case ret =>
      obtain ⟨σ, rfl, hrest⟩ := h
      exact ret1x Try.results179 (res_tmp rfl) ⟨rfl, hrest⟩
    all_goals exact (h : False).elim
  refine c_seq ?_
  refine c_region ?_
  refine pl_val (.bool false) (y_assign rfl) ?_
  refine c_nil ?_
  refine c_seq ?_
  refine c_region ?_
  refine pl_val (.slice pa0 pn0 pc0) (y_move rfl) ?_
  refine pl_val (.int .i64 (t.length : Int)) (y_len' Sl22 (rs_len h0) rfl) ?_
  refine pl_val (.int .i64 k) (y_move rfl) ?_
  refine pl_val (.bool ((t.length : Int) == k)) (y_eql rfl rfl) ?_
  refine pl_val (.bool ((t.length : Int) == k)) (y_move rfl) ?_
  rcases bif_some hs with ⟨hc2, hs⟩ | ⟨hc2, hs⟩
  · skip
    refine pl_yes (.int .i64 n) (tg := 11) (by kernel_rfl) (congrArg Value.bool hc2) (y_move rfl) ?_
    refine pl_yes (.slice pa0 pn0 pc0) (tg := 11) (by kernel_rfl) (congrArg Value.bool hc2) (y_move rfl) ?_
    obtain ⟨r4, hr4, hs⟩ := bind_some hs
    refine pl_cally (tg := 11) (by kernel_rfl) (congrArg Value.bool hc2) Bd109 rfl (c_spec_l2Elements (M := M) n t h0 hO.fut hr4) ?_
    rintro _ w3 ⟨rfl, hC3⟩
    have h0 := h0.ext hC3
    have hC := hC.ext hC3
    have hO := hO.ext hC3
    refine pl_val (.bool r4) (y_pick_t (congrArg Value.bool hc2) rfl) ?_
    refine pl_val (.bool r4) (y_assign rfl) ?_
    refine c_nil ?_
    refine wp_ret ?_
    cases hs
    exact ⟨_, fr_ovl 16 ⟨rfl, trivial⟩, hC⟩
  · skip
    refine pl_not (tg := 11) (by kernel_rfl) (congrArg Value.bool hc2) ?_
    refine pl_not (tg := 11) (by kernel_rfl) (congrArg Value.bool hc2) ?_
    refine pl_not (tg := 11) (by kernel_rfl) (congrArg Value.bool hc2) ?_
    refine pl_val (.bool false) (y_pick_f (congrArg Value.bool hc2) rfl) ?_
    refine pl_val (.bool false) (y_assign rfl) ?_
    refine c_nil ?_
    refine wp_ret ?_
    cases hs
    exact ⟨_, fr_ovl 16 ⟨rfl, trivial⟩, hC⟩

theorem Mx : Try.prog.follows .mixedOrders = true := by kernel_rfl

def k_spec_l3Less (M : Nat → Prop) (w0 : World) (r : Bool) (a : Act) (w : World) : Prop :=
  ∃ (σ : Nat → Value) , a = fr 30 (ovl σ [(4, (.bool r))]) ∧ Chg [] w0 w
def s_spec_l3Less (a_ : List Int) (b : List Int) : Option (Bool) :=
  (forC (S := Unit) (R := Bool) (fun k21 s19 =>
  (idx a_ k21).bind fun x31 =>
  (idx b k21).bind fun x33 =>
  (bif (x31 != x33) then (idx a_ k21).bind fun x37 =>
  (idx b k21).bind fun x39 =>
  some (.rt (decide (x37 < x39))) else some (.nx ()))) 0 (a_.length : Int) ()).bind fun o23 => after o23 (fun r_ => some r_) (fun s19 =>
  some false)
set_option maxHeartbeats 4000000 in
theorem c_spec_l3Less {M : Nat → Prop} {w : World} {pa0 : Option Addr} {pn0 pc0 : Nat} {pa1 : Option Addr} {pn1 pc1 : Nat} (a_ : List Int) (b : List Int) (h0 : (RT.rs (RT.int .i64)).val M w (.slice pa0 pn0 pc0) a_ ([])) (h1 : (RT.rs (RT.int .i64)).val M w (.slice pa1 pn1 pc1) b ([])) (hM : ∀ g, w.heap.size ≤ g → M g) {r : Bool} (hs : s_spec_l3Less a_ b = some r) :
    Gives Try.prog 177 [(.slice pa0 pn0 pc0), (.slice pa1 pn1 pc1)] w (fun v w' => v = (.bool r) ∧ Chg [] w w') := by
  refine calls_fr Try.func177 rfl Try.ntmps177 (Nat.le_of_ble_eq_true rfl) ?_
  have hO := Own.start (N := Nw w []) hM Nw.fut
  have hC := Chg.refl [] w
  unfold s_spec_l3Less at hs
  refine wp_mono (Q := KPost (k_spec_l3Less M w r)) ?_ (fun e a w1 h => ?_)
  rotate_left
  · cases e
    case ret =>
      obtain ⟨σ, rfl, hrest⟩ := h
      exact ret1x Try.results177 (res_tmp rfl) ⟨rfl, hrest⟩
    all_goals exact (h : False).elim
  refine c_seq ?_
  refine c_region ?_
  refine pl_val (.bool false) (y_assign rfl) ?_
  refine c_nil ?_
  refine c_seq ?_
  refine c_seq ?_
  refine c_region ?_
  refine pl_val (.int .i64 0) (y_assign rfl) ?_
  refine c_nil ?_
  obtain ⟨o23, hl24, hs⟩ := bind_some hs
  refine wp_block ?_
  refine wp_forC (id := 0) (a_.length : Int) (I := fun k21 s19 a w20 => ∃ (σ : Nat → Value), a = fr 30 (ovl σ [(0, (.slice pa0 pn0 pc0)), (1, (.slice pa1 pn1 pc1)), (5, (.int .i64 k21))]) ∧ Chg [] w w20 ∧ Own (Nw w []) M w20 ([]) ∧ (RT.rs (RT.int .i64)).val M w20 (.slice pa0 pn0 pc0) a_ ([]) ∧ (RT.rs (RT.int .i64)).val M w20 (.slice pa1 pn1 pc1) b ([])) (J := fun s19 a w20 => ∃ (σ : Nat → Value), a = fr 30 (ovl σ []) ∧ Chg [] w w20 ∧ Own (Nw w []) M w20 ([]) ∧ (RT.rs (RT.int .i64)).val M w20 (.slice pa0 pn0 pc0) a_ ([]) ∧ (RT.rs (RT.int .i64)).val M w20 (.slice pa1 pn1 pc1) b ([])) (K := (k_spec_l3Less M w)) ?_ ?_ 0 () o23 _ _ ?_ hl24 ?_
  · rintro k21 s19 a w20 ⟨σ, rfl, hC, hO, h0, h1⟩ hlt
    refine c_seq ?_
    refine c_seq ?_
    refine c_region ?_
    refine pl_val (.int .i64 k21) (y_move rfl) ?_
    refine pl_val (.slice pa0 pn0 pc0) (y_move rfl) ?_
    refine pl_val (.int .i64 (a_.length : Int)) (y_len' Sl22 (rs_len h0) rfl) ?_
    refine pl_val (.bool (decide (k21 < (a_.length : Int)))) (y_lss rfl rfl) ?_
    refine c_nil ?_
    refine c_condF (congrArg Value.bool (decide_eq_false hlt)) ?_
    refine wp_exit ?_
    exact ⟨rfl, _, fr_ovl 30 trivial, hC, hO, h0, h1⟩
  · rintro k21 s19 o23 a w20 ⟨σ, rfl, hC, hO, h0, h1⟩ hlt hw hs
    refine c_seq ?_
    refine c_seq ?_
    refine c_region ?_
    refine pl_val (.int .i64 k21) (y_move rfl) ?_
    refine pl_val (.slice pa0 pn0 pc0) (y_move rfl) ?_
    refine pl_val (.int .i64 (a_.length : Int)) (y_len' Sl22 (rs_len h0) rfl) ?_
    refine pl_val (.bool (decide (k21 < (a_.length : Int)))) (y_lss rfl rfl) ?_
    refine c_nil ?_
    refine c_condT (congrArg Value.bool (decide_eq_true hlt)) ?_
    refine wp_skip ?_
    refine c_seq ?_
    refine wp_block ?_
    refine c_seq ?_
    refine x_start [] Mx rfl ?_
    have hCw30 := Chg.drew w20
    generalize World.drew w20 = w30 at hCw30 ⊢
    have h0 := h0.ext hCw30
    have h1 := h1.ext hCw30
    have hC := hC.ext hCw30
    have hO := hO.ext hCw30
    have hS := Chg.refl [] w30
    refine x_p 0 (.slice pa0 pn0 pc0) rfl (by kernel_rfl)  (fun _ => y_move rfl) (fun _ => hS) ?_
    refine x_p 1 (.int .i64 k21) rfl (by kernel_rfl)  (fun _ => y_move rfl) (fun _ => hS) ?_
    obtain ⟨x31, hx31, hs⟩ := bind_some hs
    obtain ⟨b32, o32, hp32, ha32⟩ := rs_idx Sl22 Sz3 h0 hx31
    refine x_p 2 (.pointer (some ⟨b32, o32, none⟩)) rfl (by kernel_rfl)  (fun _ => hp32 _ _ _ _ _ _ _ _ _ rfl rfl) (fun _ => hS) ?_
    refine x_l 3 (.int .i64 x31) rfl (by kernel_rfl)  (fun w' hw' => y_load rfl ((at_load_int Ag3 Sz3 ha32) w' hw')) hS ?_
    refine x_p 4 (.slice pa1 pn1 pc1) rfl (by kernel_rfl)  (fun _ => y_move rfl) (fun _ => hS) ?_
    refine x_p 5 (.int .i64 k21) rfl (by kernel_rfl)  (fun _ => y_move rfl) (fun _ => hS) ?_
    obtain ⟨x33, hx33, hs⟩ := bind_some hs
    obtain ⟨b34, o34, hp34, ha34⟩ := rs_idx Sl22 Sz3 h1 hx33
    refine x_p 6 (.pointer (some ⟨b34, o34, none⟩)) rfl (by kernel_rfl)  (fun _ => hp34 _ _ _ _ _ _ _ _ _ rfl rfl) (fun _ => hS) ?_
    refine x_l 7 (.int .i64 x33) rfl (by kernel_rfl)  (fun w' hw' => y_load rfl ((at_load_int Ag3 Sz3 ha34) w' hw')) hS ?_
    refine x_p 8 (.bool (x31 != x33)) rfl (by kernel_rfl)  (fun _ => y_neq rfl rfl) (fun _ => hS) ?_
    refine x_end (by kernel_rfl) ?_
    clear hS
    rcases bif_some hs with ⟨hc35, hs⟩ | ⟨hc35, hs⟩
    · skip
      refine c_condT (congrArg Value.bool hc35) ?_
      refine c_seq ?_
      refine x_start [] Mx rfl ?_
      have hCw36 := Chg.drew w30
      generalize World.drew w30 = w36 at hCw36 ⊢
      have h0 := h0.ext hCw36
      have h1 := h1.ext hCw36
      have hC := hC.ext hCw36
      have hO := hO.ext hCw36
      have hS := Chg.refl [] w36
      refine x_p 0 (.slice pa0 pn0 pc0) rfl (by kernel_rfl)  (fun _ => y_move rfl) (fun _ => hS) ?_
      refine x_p 1 (.int .i64 k21) rfl (by kernel_rfl)  (fun _ => y_move rfl) (fun _ => hS) ?_
      obtain ⟨x37, hx37, hs⟩ := bind_some hs
      obtain ⟨b38, o38, hp38, ha38⟩ := rs_idx Sl22 Sz3 h0 hx37
      refine x_p 2 (.pointer (some ⟨b38, o38, none⟩)) rfl (by kernel_rfl)  (fun _ => hp38 _ _ _ _ _ _ _ _ _ rfl rfl) (fun _ => hS) ?_
      refine x_l 3 (.int .i64 x37) rfl (by kernel_rfl)  (fun w' hw' => y_load rfl ((at_load_int Ag3 Sz3 ha38) w' hw')) hS ?_
      refine x_p 4 (.slice pa1 pn1 pc1) rfl (by kernel_rfl)  (fun _ => y_move rfl) (fun _ => hS) ?_
      refine x_p 5 (.int .i64 k21) rfl (by kernel_rfl)  (fun _ => y_move rfl) (fun _ => hS) ?_
      obtain ⟨x39, hx39, hs⟩ := bind_some hs
      obtain ⟨b40, o40, hp40, ha40⟩ := rs_idx Sl22 Sz3 h1 hx39
      refine x_p 6 (.pointer (some ⟨b40, o40, none⟩)) rfl (by kernel_rfl)  (fun _ => hp40 _ _ _ _ _ _ _ _ _ rfl rfl) (fun _ => hS) ?_
      refine x_l 7 (.int .i64 x39) rfl (by kernel_rfl)  (fun w' hw' => y_load rfl ((at_load_int Ag3 Sz3 ha40) w' hw')) hS ?_
      refine x_p 8 (.bool (decide (x37 < x39))) rfl (by kernel_rfl)  (fun _ => y_lss rfl rfl) (fun _ => hS) ?_
      refine x_p 9 (.bool (decide (x37 < x39))) rfl (by kernel_rfl)  (fun _ => y_assign rfl) (fun _ => hS) ?_
      refine x_end (by kernel_rfl) ?_
      clear hS
      refine wp_ret ?_
      cases hs
      exact ⟨_, fr_ovl 30 ⟨rfl, trivial⟩, hC⟩
    · skip
      refine c_condF (congrArg Value.bool hc35) ?_
      refine wp_skip ?_
      refine c_region ?_
      refine pl_val (.int .i64 k21) (y_move rfl) ?_
      refine pl_val (.int .i64 (w64 (k21 + 1))) (y_add rfl rfl) ?_
      refine pl_val (.int .i64 (w64 (k21 + 1))) (y_assign rfl) ?_
      refine c_nil ?_
      cases hs
      exact ⟨_, fr_ovl 30 ⟨rfl, rfl, congrArg (Value.int .i64) hw, trivial⟩, hC, hO, h0, h1⟩
  · skip
    exact ⟨_, fr_ovl 30 ⟨rfl, rfl, rfl, trivial⟩, hC, hO, h0, h1⟩
  · cases o23 with
    | nx _ => exact True.intro
    | rt r_ =>
      have hs := after_rt hs
      intro a1 w1 hK
      cases hs
      exact hK
    | br s19 =>
      have hs := after_br hs
      rintro a1 w20 ⟨σ, rfl, hC, hO, h0, h1⟩
      refine c_seq ?_
      refine c_region ?_
      refine pl_val (.bool false) (y_assign rfl) ?_
      refine c_nil ?_
      refine wp_ret ?_
      cases hs
      exact ⟨_, fr_ovl 30 ⟨rfl, trivial⟩, hC⟩

theorem Bd178 : Bodied Try.prog 178 := bodied Try.func178 (by kernel_rfl) rfl

theorem Bd179 : Bodied Try.prog 179 := bodied Try.func179 (by kernel_rfl) rfl

theorem Bd177 : Bodied Try.prog 177 := bodied Try.func177 (by kernel_rfl) rfl

def k_spec_l13Good (M : Nat → Prop) (w0 : World) (r : Bool) (a : Act) (w : World) : Prop :=
  ∃ (σ : Nat → Value) , a = fr 56 (ovl σ [(4, (.bool r))]) ∧ Chg [] w0 w
def s_spec_l13Good (n : Int) (r_ : Int × (List (List Int))) : Option (Bool) :=
  ((s_spec_l1In r_.1 1 3).bind fun r8 =>
  (bif (!r8) then some true else (s_spec_l2Pow n r_.1).bind fun r11 =>
  some (decide (r11 < (r_.2.length : Int))))).bind fun s3 =>
  (bif s3 then some false else (forC (S := Unit) (R := Bool) (fun k82 s80 =>
  (idx r_.2 k82).bind fun x87 =>
  (s_spec_l8Tuple n r_.1 x87).bind fun r92 =>
  (bif (!r92) then some (.rt false) else (bif (decide (0 < k82)) then (idx r_.2 (w64 (k82 - 1))).bind fun x95 =>
  (idx r_.2 k82).bind fun x99 =>
  (s_spec_l3Less x95 x99).bind fun r104 =>
  (bif (!r104) then some (.rt false) else some (.nx ())) else some (.nx ())))) 0 (r_.2.length : Int) ()).bind fun o84 => after o84 (fun r_ => some r_) (fun s80 =>
  some true))
set_option maxHeartbeats 4000000 in
theorem c_spec_l13Good {M : Nat → Prop} {w : World} {pa0 : Option Addr} {pn0 pc0 : Nat} (n : Int) (r_ : Int × (List (List Int))) (h0 : (RT.rs (RT.rs (RT.int .i64))).val M w (.slice pa0 pn0 pc0) r_.2 ([])) (hM : ∀ g, w.heap.size ≤ g → M g) {r : Bool} (hs : s_spec_l13Good n r_ = some r) :
    Gives Try.prog 146 [(.int .i64 n), (.agg #[(.int .i64 r_.1), (.slice pa0 pn0 pc0)])] w (fun v w' => v = (.bool r) ∧ Chg [] w w') := by
  refine calls_fr Try.func146 rfl Try.ntmps146 (Nat.le_of_ble_eq_true rfl) ?_
  have hO := Own.start (N := Nw w []) hM Nw.fut
  have hC := Chg.refl [] w
  unfold s_spec_l13Good at hs
  refine wp_mono (Q := KPost (k_spec_l13Good M w r)) ?_ (fun e a w1 h => ?_)
  rotate_left
  · cases e
    case ret =>
      obtain ⟨σ, rfl, hrest⟩ := h
      exact ret1x Try.results146 (res_tmp rfl) ⟨rfl, hrest⟩
    all_goals exact (h : False).elim
  refine c_seq ?_
  refine c_region ?_
  obtain ⟨w2, g2, ew2, eg2, hC2, hb2⟩ := new_block w [(.int .i64 r_.1), (.slice pa0 pn0 pc0)] 31
  refine pl_val (w' := w2) (.pointer (some ⟨g2, 0, none⟩)) (y_box rfl (by rw [ew2, eg2]; kernel_rfl)) ?_
  have h0 := h0.ext hC2
  have hC := hC.ext hC2
  have hO := hO.new (X' := [g2]) hC2 (fun q hq => by rw [List.mem_singleton.1 hq, eg2]; exact Nat.le_refl _) (List.nodup_cons.2 ⟨(fun h => nomatch h), List.nodup_nil⟩) (fun q hq => by rw [List.mem_singleton.1 hq]; exact hb2.lt)
  refine pl_val (.bool false) (y_assign rfl) ?_
  refine c_nil ?_
  refine c_seq ?_
  refine c_seq ?_
  obtain ⟨s3, hm5, hs⟩ := bind_some hs
  refine c_mid (I := fun a w4 => ∃ (σ : Nat → Value), a = fr 56 (ovl σ [(0, (.int .i64 n)), (3, (.pointer (some ⟨g2, 0, none⟩))), (4, (.bool false)), (19, (.bool s3))]) ∧ Chg [] w2 w4) ?_ ?_
  · replace hs := hm5
    have hMid := Chg.refl [] w2
    refine x_start [] Mx rfl ?_
    have hCw6 := Chg.drew w2
    generalize World.drew w2 = w6 at hCw6 ⊢
    have h0 := h0.ext hCw6
    have hb2 := hb2.chg hCw6 (fun h => nomatch h)
    have hMid := hMid.ext hCw6
    have hC := hC.ext hCw6
    have hO := hO.ext hCw6
    have hS := Chg.refl [] w6
    refine x_p 0 (.pointer (some ⟨g2, 0, none⟩)) rfl (by kernel_rfl)  (fun _ => y_faddr rfl Fa31x0) (fun _ => hS) ?_
    refine x_l 1 (.int .i64 r_.1) rfl (by kernel_rfl)  (fun w' hw' => y_load rfl ((box_load Ag3 Sz3 hb2 [] [(.int .i64 r_.1)] [(.slice pa0 pn0 pc0)] rfl rfl (fun _ => rfl)) w' hw')) hS ?_
    refine x_one (i := 2) (by kernel_rfl) ?_
    obtain ⟨r8, hr8, hs⟩ := bind_some hs
    refine xk_call (b := false) rfl  Bd137 rfl (c_spec_l1In (M := M) r_.1 1 3  hO.fut hr8) rfl (by rintro _ _ _ ⟨rfl, hC7⟩; exact hS.ext hC7) ?_
    rintro _ w7 ⟨rfl, hC7⟩
    have h0 := h0.ext hC7
    have hb2 := hb2.chg hC7 (fun h => nomatch h)
    have hMid := hMid.ext hC7
    have hC := hC.ext hC7
    have hO := hO.ext hC7
    have hS := hS.ext hC7
    refine x_p 3 (.bool (!r8)) rfl (by kernel_rfl)  (fun _ => y_not rfl) (fun _ => hS) ?_
    refine x_p 4 (.bool (!r8)) rfl (by kernel_rfl)  (fun _ => y_move rfl) (fun _ => hS) ?_
    rcases bif_some hs with ⟨hc9, hs⟩ | ⟨hc9, hs⟩
    · skip
      refine x_pn 5 rfl (by kernel_rfl) (tg := 10) (by kernel_rfl) (congrArg Value.bool hc9) (fun _ => hS) ?_
      refine x_pn 6 rfl (by kernel_rfl) (tg := 10) (by kernel_rfl) (congrArg Value.bool hc9) (fun _ => hS) ?_
      refine x_pn 7 rfl (by kernel_rfl) (tg := 10) (by kernel_rfl) (congrArg Value.bool hc9) (fun _ => hS) ?_
      refine x_pn 8 rfl (by kernel_rfl) (tg := 10) (by kernel_rfl) (congrArg Value.bool hc9) (fun _ => hS) ?_
      refine x_pn 9 rfl (by kernel_rfl) (tg := 10) (by kernel_rfl) (congrArg Value.bool hc9) (fun _ => hS) ?_
      refine x_pn 10 rfl (by kernel_rfl) (tg := 10) (by kernel_rfl) (congrArg Value.bool hc9) (fun _ => hS) ?_
      refine x_pn 11 rfl (by kernel_rfl) (tg := 10) (by kernel_rfl) (congrArg Value.bool hc9) (fun _ => hS) ?_
      refine x_pn 12 rfl (by kernel_rfl) (tg := 10) (by kernel_rfl) (congrArg Value.bool hc9) (fun _ => hS) ?_
      refine x_p 13 (.bool true) rfl (by kernel_rfl)  (fun _ => y_pick_t (congrArg Value.bool hc9) rfl) (fun _ => hS) ?_
      refine x_end (by kernel_rfl) ?_
      clear hS
      cases hs
      exact ⟨_, fr_ovl 56 ⟨rfl, rfl, rfl, rfl, trivial⟩, hMid⟩
    · skip
      refine x_py 5 (.pointer (some ⟨g2, 1, none⟩)) rfl (by kernel_rfl) (tg := 10) (by kernel_rfl) (congrArg Value.bool hc9) (fun _ => y_faddr rfl Fa31x1) (fun _ => hS) ?_
      refine x_py 8 (.int .i64 n) rfl (by kernel_rfl) (tg := 10) (by kernel_rfl) (congrArg Value.bool hc9) (fun _ => y_move rfl) (fun _ => hS) ?_
      refine x_py 9 (.pointer (some ⟨g2, 0, none⟩)) rfl (by kernel_rfl) (tg := 10) (by kernel_rfl) (congrArg Value.bool hc9) (fun _ => y_faddr rfl Fa31x0) (fun _ => hS) ?_
      refine x_two (i := 6) (j := 10) (by kernel_rfl) ?_ ?_
      · skip
        refine xk_valy (b := false) (.slice pa0 pn0 pc0) rfl (tg := 10) (by kernel_rfl) (congrArg Value.bool hc9) (y_load rfl ((box_load Ag29 Sz29 hb2 [(.int .i64 r_.1)] [(.slice pa0 pn0 pc0)] [] rfl rfl (fun _ => rfl)) _ (Chg.refl _ _))) rfl (fun _ => hS) ?_
        refine x_py 7 (.int .i64 (r_.2.length : Int)) rfl (by kernel_rfl) (tg := 10) (by kernel_rfl) (congrArg Value.bool hc9) (fun _ => y_len' Sl29 (rs_len h0) rfl) (fun _ => hS) ?_
        refine x_one (i := 10) (by kernel_rfl) ?_
        refine xk_valy (b := false) (.int .i64 r_.1) rfl (tg := 10) (by kernel_rfl) (congrArg Value.bool hc9) (y_load rfl ((box_load Ag3 Sz3 hb2 [] [(.int .i64 r_.1)] [(.slice pa0 pn0 pc0)] rfl rfl (fun _ => rfl)) _ (Chg.refl _ _))) rfl (fun _ => hS) ?_
        refine x_one (i := 11) (by kernel_rfl) ?_
        obtain ⟨r11, hr11, hs⟩ := bind_some hs
        refine xk_cally (b := false) rfl (tg := 10) (by kernel_rfl) (congrArg Value.bool hc9) Bd178 rfl (c_spec_l2Pow (M := M) n r_.1  hO.fut hr11) rfl (by rintro _ _ _ ⟨rfl, hC10⟩; exact hS.ext hC10) ?_
        rintro _ w10 ⟨rfl, hC10⟩
        have h0 := h0.ext hC10
        have hb2 := hb2.chg hC10 (fun h => nomatch h)
        have hMid := hMid.ext hC10
        have hC := hC.ext hC10
        have hO := hO.ext hC10
        have hS := hS.ext hC10
        refine x_py 12 (.bool (decide (r11 < (r_.2.length : Int)))) rfl (by kernel_rfl) (tg := 10) (by kernel_rfl) (congrArg Value.bool hc9) (fun _ => y_gtr rfl rfl) (fun _ => hS) ?_
        refine x_p 13 (.bool (decide (r11 < (r_.2.length : Int)))) rfl (by kernel_rfl)  (fun _ => y_pick_f (congrArg Value.bool hc9) rfl) (fun _ => hS) ?_
        refine x_end (by kernel_rfl) ?_
        clear hS
        cases hs
        exact ⟨_, fr_ovl 56 ⟨rfl, rfl, rfl, rfl, trivial⟩, hMid⟩
      · skip
        refine xk_valy (b := false) (.int .i64 r_.1) rfl (tg := 10) (by kernel_rfl) (congrArg Value.bool hc9) (y_load rfl ((box_load Ag3 Sz3 hb2 [] [(.int .i64 r_.1)] [(.slice pa0 pn0 pc0)] rfl rfl (fun _ => rfl)) _ (Chg.refl _ _))) rfl (fun _ => hS) ?_
        refine x_two (i := 6) (j := 11) (by kernel_rfl) ?_ ?_
        · skip
          refine xk_valy (b := false) (.slice pa0 pn0 pc0) rfl (tg := 10) (by kernel_rfl) (congrArg Value.bool hc9) (y_load rfl ((box_load Ag29 Sz29 hb2 [(.int .i64 r_.1)] [(.slice pa0 pn0 pc0)] [] rfl rfl (fun _ => rfl)) _ (Chg.refl _ _))) rfl (fun _ => hS) ?_
          refine x_py 7 (.int .i64 (r_.2.length : Int)) rfl (by kernel_rfl) (tg := 10) (by kernel_rfl) (congrArg Value.bool hc9) (fun _ => y_len' Sl29 (rs_len h0) rfl) (fun _ => hS) ?_
          refine x_one (i := 11) (by kernel_rfl) ?_
          obtain ⟨r11, hr11, hs⟩ := bind_some hs
          refine xk_cally (b := false) rfl (tg := 10) (by kernel_rfl) (congrArg Value.bool hc9) Bd178 rfl (c_spec_l2Pow (M := M) n r_.1  hO.fut hr11) rfl (by rintro _ _ _ ⟨rfl, hC12⟩; exact hS.ext hC12) ?_
          rintro _ w12 ⟨rfl, hC12⟩
          have h0 := h0.ext hC12
          have hb2 := hb2.chg hC12 (fun h => nomatch h)
          have hMid := hMid.ext hC12
          have hC := hC.ext hC12
          have hO := hO.ext hC12
          have hS := hS.ext hC12
          refine x_py 12 (.bool (decide (r11 < (r_.2.length : Int)))) rfl (by kernel_rfl) (tg := 10) (by kernel_rfl) (congrArg Value.bool hc9) (fun _ => y_gtr rfl rfl) (fun _ => hS) ?_
          refine x_p 13 (.bool (decide (r11 < (r_.2.length : Int)))) rfl (by kernel_rfl)  (fun _ => y_pick_f (congrArg Value.bool hc9) rfl) (fun _ => hS) ?_
          refine x_end (by kernel_rfl) ?_
          clear hS
          cases hs
          exact ⟨_, fr_ovl 56 ⟨rfl, rfl, rfl, rfl, trivial⟩, hMid⟩
        · skip
          obtain ⟨r11, hr11, hs⟩ := bind_some hs
          refine xk_cally (b := false) rfl (tg := 10) (by kernel_rfl) (congrArg Value.bool hc9) Bd178 rfl (c_spec_l2Pow (M := M) n r_.1  hO.fut hr11) rfl (by rintro _ _ _ ⟨rfl, hC14⟩; exact hS.ext hC14) ?_
          rintro _ w14 ⟨rfl, hC14⟩
          have h0 := h0.ext hC14
          have hb2 := hb2.chg hC14 (fun h => nomatch h)
          have hMid := hMid.ext hC14
          have hC := hC.ext hC14
          have hO := hO.ext hC14
          have hS := hS.ext hC14
          refine x_one (i := 6) (by kernel_rfl) ?_
          refine xk_valy (b := false) (.slice pa0 pn0 pc0) rfl (tg := 10) (by kernel_rfl) (congrArg Value.bool hc9) (y_load rfl ((box_load Ag29 Sz29 hb2 [(.int .i64 r_.1)] [(.slice pa0 pn0 pc0)] [] rfl rfl (fun _ => rfl)) _ (Chg.refl _ _))) rfl (fun _ => hS) ?_
          refine x_py 7 (.int .i64 (r_.2.length : Int)) rfl (by kernel_rfl) (tg := 10) (by kernel_rfl) (congrArg Value.bool hc9) (fun _ => y_len' Sl29 (rs_len h0) rfl) (fun _ => hS) ?_
          refine x_py 12 (.bool (decide (r11 < (r_.2.length : Int)))) rfl (by kernel_rfl) (tg := 10) (by kernel_rfl) (congrArg Value.bool hc9) (fun _ => y_gtr rfl rfl) (fun _ => hS) ?_
          refine x_p 13 (.bool (decide (r11 < (r_.2.length : Int)))) rfl (by kernel_rfl)  (fun _ => y_pick_f (congrArg Value.bool hc9) rfl) (fun _ => hS) ?_
          refine x_end (by kernel_rfl) ?_
          clear hS
          cases hs
          exact ⟨_, fr_ovl 56 ⟨rfl, rfl, rfl, rfl, trivial⟩, hMid⟩
  · rintro a1 w4 ⟨σ, rfl, hCs3⟩
    have h0 := h0.ext hCs3
    have hb2 := hb2.chg hCs3 (fun h => nomatch h)
    have hC := hC.ext hCs3
    have hO := hO.ext hCs3
    rcases bif_some hs with ⟨hc16, hs⟩ | ⟨hc16, hs⟩
    · skip
      refine c_condT (congrArg Value.bool hc16) ?_
      refine c_seq ?_
      refine c_region ?_
      refine pl_val (.bool false) (y_assign rfl) ?_
      refine c_nil ?_
      refine wp_ret ?_
      cases hs
      exact ⟨_, fr_ovl 56 ⟨rfl, trivial⟩, hC⟩
    · skip
      refine c_condF (congrArg Value.bool hc16) ?_
      refine wp_skip ?_
      refine c_seq ?_
      refine c_seq ?_
      refine c_region ?_
      refine pl_val (.int .i64 0) (y_assign rfl) ?_
      refine c_nil ?_
      obtain ⟨o84, hl85, hs⟩ := bind_some hs
      refine wp_block ?_
      refine wp_forC (id := 0) (r_.2.length : Int) (I := fun k82 s80 a w81 => ∃ (σ : Nat → Value), a = fr 56 (ovl σ [(0, (.int .i64 n)), (3, (.pointer (some ⟨g2, 0, none⟩))), (5, (.int .i64 k82))]) ∧ Chg [] w w81 ∧ Own (Nw w []) M w81 (([g2]) ++ []) ∧ (RT.rs (RT.rs (RT.int .i64))).val M w81 (.slice pa0 pn0 pc0) r_.2 ([]) ∧ BoxV w81 g2 31 [(.int .i64 r_.1), (.slice pa0 pn0 pc0)]) (J := fun s80 a w81 => ∃ (σ : Nat → Value), a = fr 56 (ovl σ []) ∧ Chg [] w w81 ∧ Own (Nw w []) M w81 (([g2]) ++ []) ∧ (RT.rs (RT.rs (RT.int .i64))).val M w81 (.slice pa0 pn0 pc0) r_.2 ([]) ∧ BoxV w81 g2 31 [(.int .i64 r_.1), (.slice pa0 pn0 pc0)]) (K := (k_spec_l13Good M w)) ?_ ?_ 0 () o84 _ _ ?_ hl85 ?_
      · rintro k82 s80 a w81 ⟨σ, rfl, hC, hO, h0, hb2⟩ hlt
        refine c_seq ?_
        refine c_seq ?_
        refine c_region ?_
        refine pl_val (.int .i64 k82) (y_move rfl) ?_
        refine pl_val (.pointer (some ⟨g2, 1, none⟩)) (y_faddr rfl Fa31x1) ?_
        refine pl_val (.slice pa0 pn0 pc0) (y_load rfl ((box_load Ag29 Sz29 hb2 [(.int .i64 r_.1)] [(.slice pa0 pn0 pc0)] [] rfl rfl (fun _ => rfl)) _ (Chg.refl _ _))) ?_
        refine pl_val (.int .i64 (r_.2.length : Int)) (y_len' Sl29 (rs_len h0) rfl) ?_
        refine pl_val (.bool (decide (k82 < (r_.2.length : Int)))) (y_lss rfl rfl) ?_
        refine c_nil ?_
        refine c_condF (congrArg Value.bool (decide_eq_false hlt)) ?_
        refine wp_exit ?_
        exact ⟨rfl, _, fr_ovl 56 trivial, hC, hO, h0, hb2⟩
      · rintro k82 s80 o84 a w81 ⟨σ, rfl, hC, hO, h0, hb2⟩ hlt hw hs
        refine c_seq ?_
        refine c_seq ?_
        refine c_region ?_
        refine pl_val (.int .i64 k82) (y_move rfl) ?_
        refine pl_val (.pointer (some ⟨g2, 1, none⟩)) (y_faddr rfl Fa31x1) ?_
        refine pl_val (.slice pa0 pn0 pc0) (y_load rfl ((box_load Ag29 Sz29 hb2 [(.int .i64 r_.1)] [(.slice pa0 pn0 pc0)] [] rfl rfl (fun _ => rfl)) _ (Chg.refl _ _))) ?_
        refine pl_val (.int .i64 (r_.2.length : Int)) (y_len' Sl29 (rs_len h0) rfl) ?_
        refine pl_val (.bool (decide (k82 < (r_.2.length : Int)))) (y_lss rfl rfl) ?_
        refine c_nil ?_
        refine c_condT (congrArg Value.bool (decide_eq_true hlt)) ?_
        refine wp_skip ?_
        refine c_seq ?_
        refine wp_block ?_
        refine c_seq ?_
        refine x_start [] Mx rfl ?_
        have hCw86 := Chg.drew w81
        generalize World.drew w81 = w86 at hCw86 ⊢
        have h0 := h0.ext hCw86
        have hb2 := hb2.chg hCw86 (fun h => nomatch h)
        have hC := hC.ext hCw86
        have hO := hO.ext hCw86
        have hS := Chg.refl [] w86
        refine x_p 0 (.int .i64 n) rfl (by kernel_rfl)  (fun _ => y_move rfl) (fun _ => hS) ?_
        refine x_p 1 (.pointer (some ⟨g2, 0, none⟩)) rfl (by kernel_rfl)  (fun _ => y_faddr rfl Fa31x0) (fun _ => hS) ?_
        refine x_l 2 (.int .i64 r_.1) rfl (by kernel_rfl)  (fun w' hw' => y_load rfl ((box_load Ag3 Sz3 hb2 [] [(.int .i64 r_.1)] [(.slice pa0 pn0 pc0)] rfl rfl (fun _ => rfl)) w' hw')) hS ?_
        refine x_p 3 (.pointer (some ⟨g2, 1, none⟩)) rfl (by kernel_rfl)  (fun _ => y_faddr rfl Fa31x1) (fun _ => hS) ?_
        refine x_l 4 (.slice pa0 pn0 pc0) rfl (by kernel_rfl)  (fun w' hw' => y_load rfl ((box_load Ag29 Sz29 hb2 [(.int .i64 r_.1)] [(.slice pa0 pn0 pc0)] [] rfl rfl (fun _ => rfl)) w' hw')) hS ?_
        refine x_p 5 (.int .i64 k82) rfl (by kernel_rfl)  (fun _ => y_move rfl) (fun _ => hS) ?_
        obtain ⟨x87, hx87, hs⟩ := bind_some hs
        obtain ⟨b88, o88, hp88, ha88⟩ := rs_idx Sl29 Sz22 h0 hx87
        refine x_p 6 (.pointer (some ⟨b88, o88, none⟩)) rfl (by kernel_rfl)  (fun _ => hp88 _ _ _ _ _ _ _ _ _ rfl rfl) (fun _ => hS) ?_
        obtain ⟨v89, hl89, hv89⟩ := at_load Ag22 Sz22 (fun _ => rfl) ha88
        obtain ⟨a89, n89, c89, rfl⟩ := rs_sl hv89
        refine x_l 7 (.slice a89 n89 c89) rfl (by kernel_rfl)  (fun w' hw' => y_load rfl (hl89 w' hw')) hS ?_
        refine x_one (i := 8) (by kernel_rfl) ?_
        obtain ⟨r92, hr92, hs⟩ := bind_some hs
        refine xk_call (b := false) rfl  Bd179 rfl (c_spec_l8Tuple (M := M) n r_.1 x87 hv89 hO.fut hr92) rfl (by rintro _ _ _ ⟨rfl, hC91⟩; exact hS.ext hC91) ?_
        rintro _ w91 ⟨rfl, hC91⟩
        have h0 := h0.ext hC91
        have hb2 := hb2.chg hC91 (fun h => nomatch h)
        have hv89 := hv89.ext hC91
        have hC := hC.ext hC91
        have hO := hO.ext hC91
        have hS := hS.ext hC91
        refine x_p 9 (.bool (!r92)) rfl (by kernel_rfl)  (fun _ => y_not rfl) (fun _ => hS) ?_
        refine x_p 10 (.bool (!r92)) rfl (by kernel_rfl)  (fun _ => y_move rfl) (fun _ => hS) ?_
        rcases bif_some hs with ⟨hc93, hs⟩ | ⟨hc93, hs⟩
        · skip
          refine x_pn 11 rfl (by kernel_rfl) (tg := 37) (by kernel_rfl) (congrArg Value.bool hc93) (fun _ => hS) ?_
          refine x_pn 12 rfl (by kernel_rfl) (tg := 37) (by kernel_rfl) (congrArg Value.bool hc93) (fun _ => hS) ?_
          refine x_pn 13 rfl (by kernel_rfl) (tg := 37) (by kernel_rfl) (congrArg Value.bool hc93) (fun _ => hS) ?_
          refine x_pnu 14 rfl (by kernel_rfl) (tg := 40) (by kernel_rfl) rfl (fun _ => hS) ?_
          refine x_pnu 15 rfl (by kernel_rfl) (tg := 40) (by kernel_rfl) rfl (fun _ => hS) ?_
          refine x_pnu 16 rfl (by kernel_rfl) (tg := 40) (by kernel_rfl) rfl (fun _ => hS) ?_
          refine x_pnu 17 rfl (by kernel_rfl) (tg := 40) (by kernel_rfl) rfl (fun _ => hS) ?_
          refine x_pnu 18 rfl (by kernel_rfl) (tg := 40) (by kernel_rfl) rfl (fun _ => hS) ?_
          refine x_pnu 19 rfl (by kernel_rfl) (tg := 40) (by kernel_rfl) rfl (fun _ => hS) ?_
          refine x_pnu 20 rfl (by kernel_rfl) (tg := 40) (by kernel_rfl) rfl (fun _ => hS) ?_
          refine x_pnu 21 rfl (by kernel_rfl) (tg := 40) (by kernel_rfl) rfl (fun _ => hS) ?_
          refine x_pnu 22 rfl (by kernel_rfl) (tg := 40) (by kernel_rfl) rfl (fun _ => hS) ?_
          refine x_pnu 23 rfl (by kernel_rfl) (tg := 40) (by kernel_rfl) rfl (fun _ => hS) ?_
          refine x_pnu 24 rfl (by kernel_rfl) (tg := 40) (by kernel_rfl) rfl (fun _ => hS) ?_
          refine x_pnu 25 rfl (by kernel_rfl) (tg := 40) (by kernel_rfl) rfl (fun _ => hS) ?_
          refine x_pnu 26 rfl (by kernel_rfl) (tg := 40) (by kernel_rfl) rfl (fun _ => hS) ?_
          refine x_pn 27 rfl (by kernel_rfl) (tg := 37) (by kernel_rfl) (congrArg Value.bool hc93) (fun _ => hS) ?_
          refine x_p 28 (.bool true) rfl (by kernel_rfl)  (fun _ => y_pick_t (congrArg Value.bool hc93) rfl) (fun _ => hS) ?_
          refine x_end (by kernel_rfl) ?_
          clear hS
          refine c_condT (by rfl) ?_
          refine c_seq ?_
          refine c_region ?_
          refine pl_val (.bool false) (y_assign rfl) ?_
          refine c_nil ?_
          refine wp_ret ?_
          cases hs
          exact ⟨_, fr_ovl 56 ⟨rfl, trivial⟩, hC⟩
        · skip
          refine x_py 11 (.int .i64 k82) rfl (by kernel_rfl) (tg := 37) (by kernel_rfl) (congrArg Value.bool hc93) (fun _ => y_move rfl) (fun _ => hS) ?_
          refine x_py 12 (.bool (decide (0 < k82))) rfl (by kernel_rfl) (tg := 37) (by kernel_rfl) (congrArg Value.bool hc93) (fun _ => y_gtr rfl rfl) (fun _ => hS) ?_
          refine x_py 13 (.bool (decide (0 < k82))) rfl (by kernel_rfl) (tg := 37) (by kernel_rfl) (congrArg Value.bool hc93) (fun _ => y_move rfl) (fun _ => hS) ?_
          rcases bif_some hs with ⟨hc94, hs⟩ | ⟨hc94, hs⟩
          · skip
            refine x_py 14 (.pointer (some ⟨g2, 1, none⟩)) rfl (by kernel_rfl) (tg := 40) (by kernel_rfl) (congrArg Value.bool hc94) (fun _ => y_faddr rfl Fa31x1) (fun _ => hS) ?_
            refine x_py 16 (.int .i64 k82) rfl (by kernel_rfl) (tg := 40) (by kernel_rfl) (congrArg Value.bool hc94) (fun _ => y_move rfl) (fun _ => hS) ?_
            refine x_py 17 (.int .i64 (w64 (k82 - 1))) rfl (by kernel_rfl) (tg := 40) (by kernel_rfl) (congrArg Value.bool hc94) (fun _ => y_sub rfl rfl) (fun _ => hS) ?_
            refine x_py 20 (.pointer (some ⟨g2, 1, none⟩)) rfl (by kernel_rfl) (tg := 40) (by kernel_rfl) (congrArg Value.bool hc94) (fun _ => y_faddr rfl Fa31x1) (fun _ => hS) ?_
            refine x_py 22 (.int .i64 k82) rfl (by kernel_rfl) (tg := 40) (by kernel_rfl) (congrArg Value.bool hc94) (fun _ => y_move rfl) (fun _ => hS) ?_
            refine x_two (i := 15) (j := 21) (by kernel_rfl) ?_ ?_
            · skip
              refine xk_valy (b := false) (.slice pa0 pn0 pc0) rfl (tg := 40) (by kernel_rfl) (congrArg Value.bool hc94) (y_load rfl ((box_load Ag29 Sz29 hb2 [(.int .i64 r_.1)] [(.slice pa0 pn0 pc0)] [] rfl rfl (fun _ => rfl)) _ (Chg.refl _ _))) rfl (fun _ => hS) ?_
              obtain ⟨x95, hx95, hs⟩ := bind_some hs
              obtain ⟨b96, o96, hp96, ha96⟩ := rs_idx Sl29 Sz22 h0 hx95
              refine x_py 18 (.pointer (some ⟨b96, o96, none⟩)) rfl (by kernel_rfl) (tg := 40) (by kernel_rfl) (congrArg Value.bool hc94) (fun _ => hp96 _ _ _ _ _ _ _ _ _ rfl rfl) (fun _ => hS) ?_
              refine x_two (i := 19) (j := 21) (by kernel_rfl) ?_ ?_
              · skip
                obtain ⟨v97, hl97, hv97⟩ := at_load Ag22 Sz22 (fun _ => rfl) ha96
                obtain ⟨a97, n97, c97, rfl⟩ := rs_sl hv97
                refine xk_valy (b := false) (.slice a97 n97 c97) rfl (tg := 40) (by kernel_rfl) (congrArg Value.bool hc94) (y_load rfl (hl97 _ (Chg.refl _ _))) rfl (fun _ => hS) ?_
                refine x_one (i := 21) (by kernel_rfl) ?_
                refine xk_valy (b := false) (.slice pa0 pn0 pc0) rfl (tg := 40) (by kernel_rfl) (congrArg Value.bool hc94) (y_load rfl ((box_load Ag29 Sz29 hb2 [(.int .i64 r_.1)] [(.slice pa0 pn0 pc0)] [] rfl rfl (fun _ => rfl)) _ (Chg.refl _ _))) rfl (fun _ => hS) ?_
                obtain ⟨x99, hx99, hs⟩ := bind_some hs
                obtain ⟨b100, o100, hp100, ha100⟩ := rs_idx Sl29 Sz22 h0 hx99
                refine x_py 23 (.pointer (some ⟨b100, o100, none⟩)) rfl (by kernel_rfl) (tg := 40) (by kernel_rfl) (congrArg Value.bool hc94) (fun _ => hp100 _ _ _ _ _ _ _ _ _ rfl rfl) (fun _ => hS) ?_
                refine x_one (i := 24) (by kernel_rfl) ?_
                obtain ⟨v101, hl101, hv101⟩ := at_load Ag22 Sz22 (fun _ => rfl) ha100
                obtain ⟨a101, n101, c101, rfl⟩ := rs_sl hv101
                refine xk_valy (b := false) (.slice a101 n101 c101) rfl (tg := 40) (by kernel_rfl) (congrArg Value.bool hc94) (y_load rfl (hl101 _ (Chg.refl _ _))) rfl (fun _ => hS) ?_
                refine x_one (i := 25) (by kernel_rfl) ?_
                obtain ⟨r104, hr104, hs⟩ := bind_some hs
                refine xk_cally (b := false) rfl (tg := 40) (by kernel_rfl) (congrArg Value.bool hc94) Bd177 rfl (c_spec_l3Less (M := M) x95 x99 hv97 hv101 hO.fut hr104) rfl (by rintro _ _ _ ⟨rfl, hC103⟩; exact hS.ext hC103) ?_
                rintro _ w103 ⟨rfl, hC103⟩
                have h0 := h0.ext hC103
                have hb2 := hb2.chg hC103 (fun h => nomatch h)
                have hv89 := hv89.ext hC103
                have hv97 := hv97.ext hC103
                have hv101 := hv101.ext hC103
                have hC := hC.ext hC103
                have hO := hO.ext hC103
                have hS := hS.ext hC103
                refine x_py 26 (.bool (!r104)) rfl (by kernel_rfl) (tg := 40) (by kernel_rfl) (congrArg Value.bool hc94) (fun _ => y_not rfl) (fun _ => hS) ?_
                refine x_py 27 (.bool (!r104)) rfl (by kernel_rfl) (tg := 37) (by kernel_rfl) (congrArg Value.bool hc93) (fun _ => y_pick_t (congrArg Value.bool hc94) rfl) (fun _ => hS) ?_
                refine x_p 28 (.bool (!r104)) rfl (by kernel_rfl)  (fun _ => y_pick_f (congrArg Value.bool hc93) rfl) (fun _ => hS) ?_
                refine x_end (by kernel_rfl) ?_
                clear hS
                rcases bif_some hs with ⟨hc105, hs⟩ | ⟨hc105, hs⟩
                · skip
                  refine c_condT (congrArg Value.bool hc105) ?_
                  refine c_seq ?_
                  refine c_region ?_
                  refine pl_val (.bool false) (y_assign rfl) ?_
                  refine c_nil ?_
                  refine wp_ret ?_
                  cases hs
                  exact ⟨_, fr_ovl 56 ⟨rfl, trivial⟩, hC⟩
                · skip
                  refine c_condF (congrArg Value.bool hc105) ?_
                  refine wp_skip ?_
                  refine c_region ?_
                  refine pl_val (.int .i64 k82) (y_move rfl) ?_
                  refine pl_val (.int .i64 (w64 (k82 + 1))) (y_add rfl rfl) ?_
                  refine pl_val (.int .i64 (w64 (k82 + 1))) (y_assign rfl) ?_
                  refine c_nil ?_
                  cases hs
                  exact ⟨_, fr_ovl 56 ⟨rfl, rfl, congrArg (Value.int .i64) hw, trivial⟩, hC, hO, h0, hb2⟩
              · skip
                refine xk_valy (b := false) (.slice pa0 pn0 pc0) rfl (tg := 40) (by kernel_rfl) (congrArg Value.bool hc94) (y_load rfl ((box_load Ag29 Sz29 hb2 [(.int .i64 r_.1)] [(.slice pa0 pn0 pc0)] [] rfl rfl (fun _ => rfl)) _ (Chg.refl _ _))) rfl (fun _ => hS) ?_
                obtain ⟨x99, hx99, hs⟩ := bind_some hs
                obtain ⟨b107, o107, hp107, ha107⟩ := rs_idx Sl29 Sz22 h0 hx99
                refine x_py 23 (.pointer (some ⟨b107, o107, none⟩)) rfl (by kernel_rfl) (tg := 40) (by kernel_rfl) (congrArg Value.bool hc94) (fun _ => hp107 _ _ _ _ _ _ _ _ _ rfl rfl) (fun _ => hS) ?_
                refine x_two (i := 19) (j := 24) (by kernel_rfl) ?_ ?_
                · skip
                  obtain ⟨v108, hl108, hv108⟩ := at_load Ag22 Sz22 (fun _ => rfl) ha96
                  obtain ⟨a108, n108, c108, rfl⟩ := rs_sl hv108
                  refine xk_valy (b := false) (.slice a108 n108 c108) rfl (tg := 40) (by kernel_rfl) (congrArg Value.bool hc94) (y_load rfl (hl108 _ (Chg.refl _ _))) rfl (fun _ => hS) ?_
                  refine x_one (i := 24) (by kernel_rfl) ?_
                  obtain ⟨v110, hl110, hv110⟩ := at_load Ag22 Sz22 (fun _ => rfl) ha107
                  obtain ⟨a110, n110, c110, rfl⟩ := rs_sl hv110
                  refine xk_valy (b := false) (.slice a110 n110 c110) rfl (tg := 40) (by kernel_rfl) (congrArg Value.bool hc94) (y_load rfl (hl110 _ (Chg.refl _ _))) rfl (fun _ => hS) ?_
                  refine x_one (i := 25) (by kernel_rfl) ?_
                  obtain ⟨r104, hr104, hs⟩ := bind_some hs
                  refine xk_cally (b := false) rfl (tg := 40) (by kernel_rfl) (congrArg Value.bool hc94) Bd177 rfl (c_spec_l3Less (M := M) x95 x99 hv108 hv110 hO.fut hr104) rfl (by rintro _ _ _ ⟨rfl, hC112⟩; exact hS.ext hC112) ?_
                  rintro _ w112 ⟨rfl, hC112⟩
                  have h0 := h0.ext hC112
                  have hb2 := hb2.chg hC112 (fun h => nomatch h)
                  have hv89 := hv89.ext hC112
                  have hv108 := hv108.ext hC112
                  have hv110 := hv110.ext hC112
                  have hC := hC.ext hC112
                  have hO := hO.ext hC112
                  have hS := hS.ext hC112
                  refine x_py 26 (.bool (!r104)) rfl (by kernel_rfl) (tg := 40) (by kernel_rfl) (congrArg Value.bool hc94) (fun _ => y_not rfl) (fun _ => hS) ?_
                  refine x_py 27 (.bool (!r104)) rfl (by kernel_rfl) (tg := 37) (by kernel_rfl) (congrArg Value.bool hc93) (fun _ => y_pick_t (congrArg Value.bool hc94) rfl) (fun _ => hS) ?_
                  refine x_p 28 (.bool (!r104)) rfl (by kernel_rfl)  (fun _ => y_pick_f (congrArg Value.bool hc93) rfl) (fun _ => hS) ?_
                  refine x_end (by kernel_rfl) ?_
                  clear hS
                  rcases bif_some hs with ⟨hc114, hs⟩ | ⟨hc114, hs⟩
                  · skip
                    refine c_condT (congrArg Value.bool hc114) ?_
                    refine c_seq ?_
                    refine c_region ?_
                    refine pl_val (.bool false) (y_assign rfl) ?_
                    refine c_nil ?_
                    refine wp_ret ?_
                    cases hs
                    exact ⟨_, fr_ovl 56 ⟨rfl, trivial⟩, hC⟩
                  · skip
                    refine c_condF (congrArg Value.bool hc114) ?_
                    refine wp_skip ?_
                    refine c_region ?_
                    refine pl_val (.int .i64 k82) (y_move rfl) ?_
                    refine pl_val (.int .i64 (w64 (k82 + 1))) (y_add rfl rfl) ?_
                    refine pl_val (.int .i64 (w64 (k82 + 1))) (y_assign rfl) ?_
                    refine c_nil ?_
                    cases hs
                    exact ⟨_, fr_ovl 56 ⟨rfl, rfl, congrArg (Value.int .i64) hw, trivial⟩, hC, hO, h0, hb2⟩
                · skip
                  obtain ⟨v115, hl115, hv115⟩ := at_load Ag22 Sz22 (fun _ => rfl) ha107
                  obtain ⟨a115, n115, c115, rfl⟩ := rs_sl hv115
                  refine xk_valy (b := false) (.slice a115 n115 c115) rfl (tg := 40) (by kernel_rfl) (congrArg Value.bool hc94) (y_load rfl (hl115 _ (Chg.refl _ _))) rfl (fun _ => hS) ?_
                  refine x_one (i := 19) (by kernel_rfl) ?_
                  obtain ⟨v117, hl117, hv117⟩ := at_load Ag22 Sz22 (fun _ => rfl) ha96
                  obtain ⟨a117, n117, c117, rfl⟩ := rs_sl hv117
                  refine xk_valy (b := false) (.slice a117 n117 c117) rfl (tg := 40) (by kernel_rfl) (congrArg Value.bool hc94) (y_load rfl (hl117 _ (Chg.refl _ _))) rfl (fun _ => hS) ?_
                  refine x_one (i := 25) (by kernel_rfl) ?_
                  obtain ⟨r104, hr104, hs⟩ := bind_some hs
                  refine xk_cally (b := false) rfl (tg := 40) (by kernel_rfl) (congrArg Value.bool hc94) Bd177 rfl (c_spec_l3Less (M := M) x95 x99 hv117 hv115 hO.fut hr104) rfl (by rintro _ _ _ ⟨rfl, hC119⟩; exact hS.ext hC119) ?_
                  rintro _ w119 ⟨rfl, hC119⟩
                  have h0 := h0.ext hC119
                  have hb2 := hb2.chg hC119 (fun h => nomatch h)
                  have hv89 := hv89.ext hC119
                  have hv115 := hv115.ext hC119
                  have hv117 := hv117.ext hC119
                  have hC := hC.ext hC119
                  have hO := hO.ext hC119
                  have hS := hS.ext hC119
                  refine x_py 26 (.bool (!r104)) rfl (by kernel_rfl) (tg := 40) (by kernel_rfl) (congrArg Value.bool hc94) (fun _ => y_not rfl) (fun _ => hS) ?_
                  refine x_py 27 (.bool (!r104)) rfl (by kernel_rfl) (tg := 37) (by kernel_rfl) (congrArg Value.bool hc93) (fun _ => y_pick_t (congrArg Value.bool hc94) rfl) (fun _ => hS) ?_
                  refine x_p 28 (.bool (!r104)) rfl (by kernel_rfl)  (fun _ => y_pick_f (congrArg Value.bool hc93) rfl) (fun _ => hS) ?_
                  refine x_end (by kernel_rfl) ?_
                  clear hS
                  rcases bif_some hs with ⟨hc121, hs⟩ | ⟨hc121, hs⟩
                  · skip
                    refine c_condT (congrArg Value.bool hc121) ?_
                    refine c_seq ?_
                    refine c_region ?_
                    refine pl_val (.bool false) (y_assign rfl) ?_
                    refine c_nil ?_
                    refine wp_ret ?_
                    cases hs
                    exact ⟨_, fr_ovl 56 ⟨rfl, trivial⟩, hC⟩
                  · skip
                    refine c_condF (congrArg Value.bool hc121) ?_
                    refine wp_skip ?_
                    refine c_region ?_
                    refine pl_val (.int .i64 k82) (y_move rfl) ?_
                    refine pl_val (.int .i64 (w64 (k82 + 1))) (y_add rfl rfl) ?_
                    refine pl_val (.int .i64 (w64 (k82 + 1))) (y_assign rfl) ?_
                    refine c_nil ?_
                    cases hs
                    exact ⟨_, fr_ovl 56 ⟨rfl, rfl, congrArg (Value.int .i64) hw, trivial⟩, hC, hO, h0, hb2⟩
            · skip
              refine xk_valy (b := false) (.slice pa0 pn0 pc0) rfl (tg := 40) (by kernel_rfl) (congrArg Value.bool hc94) (y_load rfl ((box_load Ag29 Sz29 hb2 [(.int .i64 r_.1)] [(.slice pa0 pn0 pc0)] [] rfl rfl (fun _ => rfl)) _ (Chg.refl _ _))) rfl (fun _ => hS) ?_
              obtain ⟨x95, hx95, hs⟩ := bind_some hs
              obtain ⟨x99, hx99, hs⟩ := bind_some hs
              obtain ⟨b123, o123, hp123, ha123⟩ := rs_idx Sl29 Sz22 h0 hx99
              refine x_py 23 (.pointer (some ⟨b123, o123, none⟩)) rfl (by kernel_rfl) (tg := 40) (by kernel_rfl) (congrArg Value.bool hc94) (fun _ => hp123 _ _ _ _ _ _ _ _ _ rfl rfl) (fun _ => hS) ?_
              refine x_two (i := 15) (j := 24) (by kernel_rfl) ?_ ?_
              · skip
                refine xk_valy (b := false) (.slice pa0 pn0 pc0) rfl (tg := 40) (by kernel_rfl) (congrArg Value.bool hc94) (y_load rfl ((box_load Ag29 Sz29 hb2 [(.int .i64 r_.1)] [(.slice pa0 pn0 pc0)] [] rfl rfl (fun _ => rfl)) _ (Chg.refl _ _))) rfl (fun _ => hS) ?_
                obtain ⟨b125, o125, hp125, ha125⟩ := rs_idx Sl29 Sz22 h0 hx95
                refine x_py 18 (.pointer (some ⟨b125, o125, none⟩)) rfl (by kernel_rfl) (tg := 40) (by kernel_rfl) (congrArg Value.bool hc94) (fun _ => hp125 _ _ _ _ _ _ _ _ _ rfl rfl) (fun _ => hS) ?_
                refine x_two (i := 19) (j := 24) (by kernel_rfl) ?_ ?_
                · skip
                  obtain ⟨v126, hl126, hv126⟩ := at_load Ag22 Sz22 (fun _ => rfl) ha125
                  obtain ⟨a126, n126, c126, rfl⟩ := rs_sl hv126
                  refine xk_valy (b := false) (.slice a126 n126 c126) rfl (tg := 40) (by kernel_rfl) (congrArg Value.bool hc94) (y_load rfl (hl126 _ (Chg.refl _ _))) rfl (fun _ => hS) ?_
                  refine x_one (i := 24) (by kernel_rfl) ?_
                  obtain ⟨v128, hl128, hv128⟩ := at_load Ag22 Sz22 (fun _ => rfl) ha123
                  obtain ⟨a128, n128, c128, rfl⟩ := rs_sl hv128
                  refine xk_valy (b := false) (.slice a128 n128 c128) rfl (tg := 40) (by kernel_rfl) (congrArg Value.bool hc94) (y_load rfl (hl128 _ (Chg.refl _ _))) rfl (fun _ => hS) ?_
                  refine x_one (i := 25) (by kernel_rfl) ?_
                  obtain ⟨r104, hr104, hs⟩ := bind_some hs
                  refine xk_cally (b := false) rfl (tg := 40) (by kernel_rfl) (congrArg Value.bool hc94) Bd177 rfl (c_spec_l3Less (M := M) x95 x99 hv126 hv128 hO.fut hr104) rfl (by rintro _ _ _ ⟨rfl, hC130⟩; exact hS.ext hC130) ?_
                  rintro _ w130 ⟨rfl, hC130⟩
                  have h0 := h0.ext hC130
                  have hb2 := hb2.chg hC130 (fun h => nomatch h)
                  have hv89 := hv89.ext hC130
                  have hv126 := hv126.ext hC130
                  have hv128 := hv128.ext hC130
                  have hC := hC.ext hC130
                  have hO := hO.ext hC130
                  have hS := hS.ext hC130
                  refine x_py 26 (.bool (!r104)) rfl (by kernel_rfl) (tg := 40) (by kernel_rfl) (congrArg Value.bool hc94) (fun _ => y_not rfl) (fun _ => hS) ?_
                  refine x_py 27 (.bool (!r104)) rfl (by kernel_rfl) (tg := 37) (by kernel_rfl) (congrArg Value.bool hc93) (fun _ => y_pick_t (congrArg Value.bool hc94) rfl) (fun _ => hS) ?_
                  refine x_p 28 (.bool (!r104)) rfl (by kernel_rfl)  (fun _ => y_pick_f (congrArg Value.bool hc93) rfl) (fun _ => hS) ?_
                  refine x_end (by kernel_rfl) ?_
                  clear hS
                  rcases bif_some hs with ⟨hc132, hs⟩ | ⟨hc132, hs⟩
                  · skip
                    refine c_condT (congrArg Value.bool hc132) ?_
                    refine c_seq ?_
                    refine c_region ?_
                    refine pl_val (.bool false) (y_assign rfl) ?_
                    refine c_nil ?_
                    refine wp_ret ?_
                    cases hs
                    exact ⟨_, fr_ovl 56 ⟨rfl, trivial⟩, hC⟩
                  · skip
                    refine c_condF (congrArg Value.bool hc132) ?_
                    refine wp_skip ?_
                    refine c_region ?_
                    refine pl_val (.int .i64 k82) (y_move rfl) ?_
                    refine pl_val (.int .i64 (w64 (k82 + 1))) (y_add rfl rfl) ?_
                    refine pl_val (.int .i64 (w64 (k82 + 1))) (y_assign rfl) ?_
                    refine c_nil ?_
                    cases hs
                    exact ⟨_, fr_ovl 56 ⟨rfl, rfl, congrArg (Value.int .i64) hw, trivial⟩, hC, hO, h0, hb2⟩
                · skip
                  obtain ⟨v133, hl133, hv133⟩ := at_load Ag22 Sz22 (fun _ => rfl) ha123
                  obtain ⟨a133, n133, c133, rfl⟩ := rs_sl hv133
                  refine xk_valy (b := false) (.slice a133 n133 c133) rfl (tg := 40) (by kernel_rfl) (congrArg Value.bool hc94) (y_load rfl (hl133 _ (Chg.refl _ _))) rfl (fun _ => hS) ?_
                  refine x_one (i := 19) (by kernel_rfl) ?_
                  obtain ⟨v135, hl135, hv135⟩ := at_load Ag22 Sz22 (fun _ => rfl) ha125
                  obtain ⟨a135, n135, c135, rfl⟩ := rs_sl hv135
                  refine xk_valy (b := false) (.slice a135 n135 c135) rfl (tg := 40) (by kernel_rfl) (congrArg Value.bool hc94) (y_load rfl (hl135 _ (Chg.refl _ _))) rfl (fun _ => hS) ?_
                  refine x_one (i := 25) (by kernel_rfl) ?_
                  obtain ⟨r104, hr104, hs⟩ := bind_some hs
                  refine xk_cally (b := false) rfl (tg := 40) (by kernel_rfl) (congrArg Value.bool hc94) Bd177 rfl (c_spec_l3Less (M := M) x95 x99 hv135 hv133 hO.fut hr104) rfl (by rintro _ _ _ ⟨rfl, hC137⟩; exact hS.ext hC137) ?_
                  rintro _ w137 ⟨rfl, hC137⟩
                  have h0 := h0.ext hC137
                  have hb2 := hb2.chg hC137 (fun h => nomatch h)
                  have hv89 := hv89.ext hC137
                  have hv133 := hv133.ext hC137
                  have hv135 := hv135.ext hC137
                  have hC := hC.ext hC137
                  have hO := hO.ext hC137
                  have hS := hS.ext hC137
                  refine x_py 26 (.bool (!r104)) rfl (by kernel_rfl) (tg := 40) (by kernel_rfl) (congrArg Value.bool hc94) (fun _ => y_not rfl) (fun _ => hS) ?_
                  refine x_py 27 (.bool (!r104)) rfl (by kernel_rfl) (tg := 37) (by kernel_rfl) (congrArg Value.bool hc93) (fun _ => y_pick_t (congrArg Value.bool hc94) rfl) (fun _ => hS) ?_
                  refine x_p 28 (.bool (!r104)) rfl (by kernel_rfl)  (fun _ => y_pick_f (congrArg Value.bool hc93) rfl) (fun _ => hS) ?_
                  refine x_end (by kernel_rfl) ?_
                  clear hS
                  rcases bif_some hs with ⟨hc139, hs⟩ | ⟨hc139, hs⟩
                  · skip
                    refine c_condT (congrArg Value.bool hc139) ?_
                    refine c_seq ?_
                    refine c_region ?_
                    refine pl_val (.bool false) (y_assign rfl) ?_
                    refine c_nil ?_
                    refine wp_ret ?_
                    cases hs
                    exact ⟨_, fr_ovl 56 ⟨rfl, trivial⟩, hC⟩
                  · skip
                    refine c_condF (congrArg Value.bool hc139) ?_
                    refine wp_skip ?_
                    refine c_region ?_
                    refine pl_val (.int .i64 k82) (y_move rfl) ?_
                    refine pl_val (.int .i64 (w64 (k82 + 1))) (y_add rfl rfl) ?_
                    refine pl_val (.int .i64 (w64 (k82 + 1))) (y_assign rfl) ?_
                    refine c_nil ?_
                    cases hs
                    exact ⟨_, fr_ovl 56 ⟨rfl, rfl, congrArg (Value.int .i64) hw, trivial⟩, hC, hO, h0, hb2⟩
              · skip
                obtain ⟨v140, hl140, hv140⟩ := at_load Ag22 Sz22 (fun _ => rfl) ha123
                obtain ⟨a140, n140, c140, rfl⟩ := rs_sl hv140
                refine xk_valy (b := false) (.slice a140 n140 c140) rfl (tg := 40) (by kernel_rfl) (congrArg Value.bool hc94) (y_load rfl (hl140 _ (Chg.refl _ _))) rfl (fun _ => hS) ?_
                refine x_one (i := 15) (by kernel_rfl) ?_
                refine xk_valy (b := false) (.slice pa0 pn0 pc0) rfl (tg := 40) (by kernel_rfl) (congrArg Value.bool hc94) (y_load rfl ((box_load Ag29 Sz29 hb2 [(.int .i64 r_.1)] [(.slice pa0 pn0 pc0)] [] rfl rfl (fun _ => rfl)) _ (Chg.refl _ _))) rfl (fun _ => hS) ?_
                obtain ⟨b143, o143, hp143, ha143⟩ := rs_idx Sl29 Sz22 h0 hx95
                refine x_py 18 (.pointer (some ⟨b143, o143, none⟩)) rfl (by kernel_rfl) (tg := 40) (by kernel_rfl) (congrArg Value.bool hc94) (fun _ => hp143 _ _ _ _ _ _ _ _ _ rfl rfl) (fun _ => hS) ?_
                refine x_one (i := 19) (by kernel_rfl) ?_
                obtain ⟨v144, hl144, hv144⟩ := at_load Ag22 Sz22 (fun _ => rfl) ha143
                obtain ⟨a144, n144, c144, rfl⟩ := rs_sl hv144
                refine xk_valy (b := false) (.slice a144 n144 c144) rfl (tg := 40) (by kernel_rfl) (congrArg Value.bool hc94) (y_load rfl (hl144 _ (Chg.refl _ _))) rfl (fun _ => hS) ?_
                refine x_one (i := 25) (by kernel_rfl) ?_
                obtain ⟨r104, hr104, hs⟩ := bind_some hs
                refine xk_cally (b := false) rfl (tg := 40) (by kernel_rfl) (congrArg Value.bool hc94) Bd177 rfl (c_spec_l3Less (M := M) x95 x99 hv144 hv140 hO.fut hr104) rfl (by rintro _ _ _ ⟨rfl, hC146⟩; exact hS.ext hC146) ?_
                rintro _ w146 ⟨rfl, hC146⟩
                have h0 := h0.ext hC146
                have hb2 := hb2.chg hC146 (fun h => nomatch h)
                have hv89 := hv89.ext hC146
                have hv140 := hv140.ext hC146
                have hv144 := hv144.ext hC146
                have hC := hC.ext hC146
                have hO := hO.ext hC146
                have hS := hS.ext hC146
                refine x_py 26 (.bool (!r104)) rfl (by kernel_rfl) (tg := 40) (by kernel_rfl) (congrArg Value.bool hc94) (fun _ => y_not rfl) (fun _ => hS) ?_
                refine x_py 27 (.bool (!r104)) rfl (by kernel_rfl) (tg := 37) (by kernel_rfl) (congrArg Value.bool hc93) (fun _ => y_pick_t (congrArg Value.bool hc94) rfl) (fun _ => hS) ?_
                refine x_p 28 (.bool (!r104)) rfl (by kernel_rfl)  (fun _ => y_pick_f (congrArg Value.bool hc93) rfl) (fun _ => hS) ?_
                refine x_end (by kernel_rfl) ?_
                clear hS
                rcases bif_some hs with ⟨hc148, hs⟩ | ⟨hc148, hs⟩
                · skip
                  refine c_condT (congrArg Value.bool hc148) ?_
                  refine c_seq ?_
                  refine c_region ?_
                  refine pl_val (.bool false) (y_assign rfl) ?_
                  refine c_nil ?_
                  refine wp_ret ?_
                  cases hs
                  exact ⟨_, fr_ovl 56 ⟨rfl, trivial⟩, hC⟩
                · skip
                  refine c_condF (congrArg Value.bool hc148) ?_
                  refine wp_skip ?_
                  refine c_region ?_
                  refine pl_val (.int .i64 k82) (y_move rfl) ?_
                  refine pl_val (.int .i64 (w64 (k82 + 1))) (y_add rfl rfl) ?_
                  refine pl_val (.int .i64 (w64 (k82 + 1))) (y_assign rfl) ?_
                  refine c_nil ?_
                  cases hs
                  exact ⟨_, fr_ovl 56 ⟨rfl, rfl, congrArg (Value.int .i64) hw, trivial⟩, hC, hO, h0, hb2⟩
          · skip
            refine x_pn 14 rfl (by kernel_rfl) (tg := 40) (by kernel_rfl) (congrArg Value.bool hc94) (fun _ => hS) ?_
            refine x_pn 15 rfl (by kernel_rfl) (tg := 40) (by kernel_rfl) (congrArg Value.bool hc94) (fun _ => hS) ?_
            refine x_pn 16 rfl (by kernel_rfl) (tg := 40) (by kernel_rfl) (congrArg Value.bool hc94) (fun _ => hS) ?_
            refine x_pn 17 rfl (by kernel_rfl) (tg := 40) (by kernel_rfl) (congrArg Value.bool hc94) (fun _ => hS) ?_
            refine x_pn 18 rfl (by kernel_rfl) (tg := 40) (by kernel_rfl) (congrArg Value.bool hc94) (fun _ => hS) ?_
            refine x_pn 19 rfl (by kernel_rfl) (tg := 40) (by kernel_rfl) (congrArg Value.bool hc94) (fun _ => hS) ?_
            refine x_pn 20 rfl (by kernel_rfl) (tg := 40) (by kernel_rfl) (congrArg Value.bool hc94) (fun _ => hS) ?_
            refine x_pn 21 rfl (by kernel_rfl) (tg := 40) (by kernel_rfl) (congrArg Value.bool hc94) (fun _ => hS) ?_
            refine x_pn 22 rfl (by kernel_rfl) (tg := 40) (by kernel_rfl) (congrArg Value.bool hc94) (fun _ => hS) ?_
            refine x_pn 23 rfl (by kernel_rfl) (tg := 40) (by kernel_rfl) (congrArg Value.bool hc94) (fun _ => hS) ?_
            refine x_pn 24 rfl (by kernel_rfl) (tg := 40) (by kernel_rfl) (congrArg Value.bool hc94) (fun _ => hS) ?_
            refine x_pn 25 rfl (by kernel_rfl) (tg := 40) (by kernel_rfl) (congrArg Value.bool hc94) (fun _ => hS) ?_
            refine x_pn 26 rfl (by kernel_rfl) (tg := 40) (by kernel_rfl) (congrArg Value.bool hc94) (fun _ => hS) ?_
            refine x_py 27 (.bool false) rfl (by kernel_rfl) (tg := 37) (by kernel_rfl) (congrArg Value.bool hc93) (fun _ => y_pick_f (congrArg Value.bool hc94) rfl) (fun _ => hS) ?_
            refine x_p 28 (.bool false) rfl (by kernel_rfl)  (fun _ => y_pick_f (congrArg Value.bool hc93) rfl) (fun _ => hS) ?_
            refine x_end (by kernel_rfl) ?_
            clear hS
            refine c_condF (by rfl) ?_
            refine wp_skip ?_
            refine c_region ?_
            refine pl_val (.int .i64 k82) (y_move rfl) ?_
            refine pl_val (.int .i64 (w64 (k82 + 1))) (y_add rfl rfl) ?_
            refine pl_val (.int .i64 (w64 (k82 + 1))) (y_assign rfl) ?_
            refine c_nil ?_
            cases hs
            exact ⟨_, fr_ovl 56 ⟨rfl, rfl, congrArg (Value.int .i64) hw, trivial⟩, hC, hO, h0, hb2⟩
      · skip
        exact ⟨_, fr_ovl 56 ⟨rfl, rfl, rfl, trivial⟩, hC, hO, h0, hb2⟩
      · cases o84 with
        | nx _ => exact True.intro
        | rt r_ =>
          have hs := after_rt hs
          intro a1 w1 hK
          cases hs
          exact hK
        | br s80 =>
          have hs := after_br hs
          rintro a1 w81 ⟨σ, rfl, hC, hO, h0, hb2⟩
          refine c_seq ?_
          refine c_region ?_
          refine pl_val (.bool true) (y_assign rfl) ?_
          refine c_nil ?_
          refine wp_ret ?_
          cases hs
          exact ⟨_, fr_ovl 56 ⟨rfl, trivial⟩, hC⟩

theorem Bd146 : Bodied Try.prog 146 := bodied Try.func146 (by kernel_rfl) rfl

def k_spec_l19Is (M : Nat → Prop) (w0 : World) (r : Bool) (a : Act) (w : World) : Prop :=
  ∃ (σ : Nat → Value) , a = fr 26 (ovl σ [(6, (.bool r))]) ∧ Chg [] w0 w
def s_spec_l19Is (vars : Int) (size : Int) (c : (List Int) × (Int × (List (List Int)))) : Option (Bool) :=
  (s_spec_l13Good size (c.2.1, c.2.2)).bind fun r5 =>
  (bif r5 then (bif ((c.1.length : Int) == c.2.1) then (s_spec_l2Elements vars c.1).bind fun r9 =>
  some r9 else some false) else some false)
set_option maxHeartbeats 4000000 in
theorem c_spec_l19Is {M : Nat → Prop} {w : World} {pa0 : Option Addr} {pn0 pc0 : Nat} {pa1 : Option Addr} {pn1 pc1 : Nat} (vars : Int) (size : Int) (c : (List Int) × (Int × (List (List Int)))) (h0 : (RT.rs (RT.int .i64)).val M w (.slice pa0 pn0 pc0) c.1 ([])) (h1 : (RT.rs (RT.rs (RT.int .i64))).val M w (.slice pa1 pn1 pc1) c.2.2 ([])) (hM : ∀ g, w.heap.size ≤ g → M g) {r : Bool} (hs : s_spec_l19Is vars size c = some r) :
    Gives Try.prog 149 [(.int .i64 vars), (.int .i64 size), (.agg #[(.slice pa0 pn0 pc0), (.int .i64 c.2.1), (.slice pa1 pn1 pc1)])] w (fun v w' => v = (.bool r) ∧ Chg [] w w') := by
  refine calls_fr Try.func149 rfl Try.ntmps149 (Nat.le_of_ble_eq_true rfl) ?_
  have hO := Own.start (N := Nw w []) hM Nw.fut
  have hC := Chg.refl [] w
  unfold s_spec_l19Is at hs
  refine wp_mono (Q := KPost (k_spec_l19Is M w r)) ?_ (fun e a w1 h => ?_)
  rotate_left
  · cases e
    case ret =>
      obtain ⟨σ, rfl, hrest⟩ := h
      exact ret1x Try.results149 (res_tmp rfl) ⟨rfl, hrest⟩
    all_goals exact (h : False).elim
  refine c_seq ?_
  refine c_region ?_
  obtain ⟨w3, g3, ew3, eg3, hC3, hb3⟩ := new_block w [(.slice pa0 pn0 pc0), (.int .i64 c.2.1), (.slice pa1 pn1 pc1)] 108
  refine pl_val (w' := w3) (.pointer (some ⟨g3, 0, none⟩)) (y_box rfl (by rw [ew3, eg3]; kernel_rfl)) ?_
  have h0 := h0.ext hC3
  have h1 := h1.ext hC3
  have hC := hC.ext hC3
  have hO := hO.new (X' := [g3]) hC3 (fun q hq => by rw [List.mem_singleton.1 hq, eg3]; exact Nat.le_refl _) (List.nodup_cons.2 ⟨(fun h => nomatch h), List.nodup_nil⟩) (fun q hq => by rw [List.mem_singleton.1 hq]; exact hb3.lt)
  refine pl_val (.bool false) (y_assign rfl) ?_
  refine c_nil ?_
  refine c_seq ?_
  refine c_region ?_
  refine pl_val (.int .i64 size) (y_move rfl) ?_
  refine pl_val (.pointer (some ⟨g3, 1, none⟩)) (y_faddr rfl Fa108x1) ?_
  refine pl_val (.agg #[(.int .i64 c.2.1), (.slice pa1 pn1 pc1)]) (y_load rfl ((box_load Ag31 Sz31 hb3 [(.slice pa0 pn0 pc0)] [(.int .i64 c.2.1), (.slice pa1 pn1 pc1)] [] rfl rfl (fun h => nomatch h)) _ (Chg.refl _ _))) ?_
  obtain ⟨r5, hr5, hs⟩ := bind_some hs
  refine pl_call Bd146 rfl (c_spec_l13Good (M := M) size (c.2.1, c.2.2) h1 hO.fut hr5) ?_
  rintro _ w4 ⟨rfl, hC4⟩
  have h0 := h0.ext hC4
  have h1 := h1.ext hC4
  have hb3 := hb3.chg hC4 (fun h => nomatch h)
  have hC := hC.ext hC4
  have hO := hO.ext hC4
  refine pl_val (.bool r5) (y_move rfl) ?_
  rcases bif_some hs with ⟨hc6, hs⟩ | ⟨hc6, hs⟩
  · skip
    refine pl_yes (.pointer (some ⟨g3, 0, none⟩)) (tg := 11) (by kernel_rfl) (congrArg Value.bool hc6) (y_faddr rfl Fa108x0) ?_
    refine pl_yes (.slice pa0 pn0 pc0) (tg := 11) (by kernel_rfl) (congrArg Value.bool hc6) (y_load rfl ((box_load Ag22 Sz22 hb3 [] [(.slice pa0 pn0 pc0)] [(.int .i64 c.2.1), (.slice pa1 pn1 pc1)] rfl rfl (fun _ => rfl)) _ (Chg.refl _ _))) ?_
    refine pl_yes (.int .i64 (c.1.length : Int)) (tg := 11) (by kernel_rfl) (congrArg Value.bool hc6) (y_len' Sl22 (rs_len h0) rfl) ?_
    refine pl_yes (.pointer (some ⟨g3, 1, none⟩)) (tg := 11) (by kernel_rfl) (congrArg Value.bool hc6) (y_faddr rfl Fa108x1) ?_
    refine pl_yes (.pointer (some ⟨g3, 1, none⟩)) (tg := 11) (by kernel_rfl) (congrArg Value.bool hc6) (y_faddr rfl Fa31x0) ?_
    refine pl_yes (.int .i64 c.2.1) (tg := 11) (by kernel_rfl) (congrArg Value.bool hc6) (y_load rfl ((box_load Ag3 Sz3 hb3 [(.slice pa0 pn0 pc0)] [(.int .i64 c.2.1)] [(.slice pa1 pn1 pc1)] rfl rfl (fun _ => rfl)) _ (Chg.refl _ _))) ?_
    refine pl_yes (.bool ((c.1.length : Int) == c.2.1)) (tg := 11) (by kernel_rfl) (congrArg Value.bool hc6) (y_eql rfl rfl) ?_
    refine pl_val (.bool ((c.1.length : Int) == c.2.1)) (y_pick_t (congrArg Value.bool hc6) rfl) ?_
    refine pl_val (.bool ((c.1.length : Int) == c.2.1)) (y_move rfl) ?_
    rcases bif_some hs with ⟨hc7, hs⟩ | ⟨hc7, hs⟩
    · skip
      refine pl_yes (.int .i64 vars) (tg := 20) (by kernel_rfl) (congrArg Value.bool hc7) (y_move rfl) ?_
      refine pl_yes (.pointer (some ⟨g3, 0, none⟩)) (tg := 20) (by kernel_rfl) (congrArg Value.bool hc7) (y_faddr rfl Fa108x0) ?_
      refine pl_yes (.slice pa0 pn0 pc0) (tg := 20) (by kernel_rfl) (congrArg Value.bool hc7) (y_load rfl ((box_load Ag22 Sz22 hb3 [] [(.slice pa0 pn0 pc0)] [(.int .i64 c.2.1), (.slice pa1 pn1 pc1)] rfl rfl (fun _ => rfl)) _ (Chg.refl _ _))) ?_
      obtain ⟨r9, hr9, hs⟩ := bind_some hs
      refine pl_cally (tg := 20) (by kernel_rfl) (congrArg Value.bool hc7) Bd109 rfl (c_spec_l2Elements (M := M) vars c.1 h0 hO.fut hr9) ?_
      rintro _ w8 ⟨rfl, hC8⟩
      have h0 := h0.ext hC8
      have h1 := h1.ext hC8
      have hb3 := hb3.chg hC8 (fun h => nomatch h)
      have hC := hC.ext hC8
      have hO := hO.ext hC8
      refine pl_val (.bool r9) (y_pick_t (congrArg Value.bool hc7) rfl) ?_
      refine pl_val (.bool r9) (y_assign rfl) ?_
      refine c_nil ?_
      refine wp_ret ?_
      cases hs
      exact ⟨_, fr_ovl 26 ⟨rfl, trivial⟩, hC⟩
    · skip
      refine pl_not (tg := 20) (by kernel_rfl) (congrArg Value.bool hc7) ?_
      refine pl_not (tg := 20) (by kernel_rfl) (congrArg Value.bool hc7) ?_
      refine pl_not (tg := 20) (by kernel_rfl) (congrArg Value.bool hc7) ?_
      refine pl_not (tg := 20) (by kernel_rfl) (congrArg Value.bool hc7) ?_
      refine pl_val (.bool false) (y_pick_f (congrArg Value.bool hc7) rfl) ?_
      refine pl_val (.bool false) (y_assign rfl) ?_
      refine c_nil ?_
      refine wp_ret ?_
      cases hs
      exact ⟨_, fr_ovl 26 ⟨rfl, trivial⟩, hC⟩
  · skip
    refine pl_not (tg := 11) (by kernel_rfl) (congrArg Value.bool hc6) ?_
    refine pl_not (tg := 11) (by kernel_rfl) (congrArg Value.bool hc6) ?_
    refine pl_not (tg := 11) (by kernel_rfl) (congrArg Value.bool hc6) ?_
    refine pl_not (tg := 11) (by kernel_rfl) (congrArg Value.bool hc6) ?_
    refine pl_not (tg := 11) (by kernel_rfl) (congrArg Value.bool hc6) ?_
    refine pl_not (tg := 11) (by kernel_rfl) (congrArg Value.bool hc6) ?_
    refine pl_not (tg := 11) (by kernel_rfl) (congrArg Value.bool hc6) ?_
    refine pl_val (.bool false) (y_pick_f (congrArg Value.bool hc6) rfl) ?_
    refine pl_val (.bool false) (y_move rfl) ?_
    refine pl_not (tg := 20) (by kernel_rfl) (by rfl) ?_
    refine pl_not (tg := 20) (by kernel_rfl) (by rfl) ?_
    refine pl_not (tg := 20) (by kernel_rfl) (by rfl) ?_
    refine pl_not (tg := 20) (by kernel_rfl) (by rfl) ?_
    refine pl_val (.bool false) (y_pick_f (by rfl) rfl) ?_
    refine pl_val (.bool false) (y_assign rfl) ?_
    refine c_nil ?_
    refine wp_ret ?_
    cases hs
    exact ⟨_, fr_ovl 26 ⟨rfl, trivial⟩, hC⟩

theorem Ag47 : AggT Try.prog 47 false := fun _ => by kernel_rfl

theorem Bd149 : Bodied Try.prog 149 := bodied Try.func149 (by kernel_rfl) rfl

def k_spec_l19Good (M : Nat → Prop) (w0 : World) (r : Bool) (a : Act) (w : World) : Prop :=
  ∃ (σ : Nat → Value) , a = fr 38 (ovl σ [(2, (.bool r))]) ∧ Chg [] w0 w
def s_spec_l19Good (net : Int × Int × (List ((List Int) × (Int × (List (List Int)))))) : Option (Bool) :=
  ((s_spec_l1In net.1 0 9).bind fun r7 =>
  (bif (!r7) then some true else (s_spec_l1In net.2.1 1 4).bind fun r10 =>
  (bif (!r10) then some true else some (decide (40 < (net.2.2.length : Int)))))).bind fun s3 =>
  (bif s3 then some false else (forC (S := Unit) (R := Bool) (fun k24 s22 =>
  (idx net.2.2 k24).bind fun x29 =>
  (s_spec_l19Is net.1 net.2.1 (x29.1, (x29.2.1, x29.2.2))).bind fun r35 =>
  (bif (!r35) then some (.rt false) else some (.nx ()))) 0 (net.2.2.length : Int) ()).bind fun o26 => after o26 (fun r_ => some r_) (fun s22 =>
  some true))
set_option maxHeartbeats 4000000 in
theorem c_spec_l19Good {M : Nat → Prop} {w : World} {pa0 : Option Addr} {pn0 pc0 : Nat} (net : Int × Int × (List ((List Int) × (Int × (List (List Int)))))) (h0 : (RT.rs (RT.pr (RT.rs (RT.int .i64)) (RT.pr (RT.int .i64) (RT.rs (RT.rs (RT.int .i64)))))).val M w (.slice pa0 pn0 pc0) net.2.2 ([])) (hM : ∀ g, w.heap.size ≤ g → M g) {r : Bool} (hs : s_spec_l19Good net = some r) :
    Gives Try.prog 88 [(.agg #[(.int .i64 net.1), (.int .i64 net.2.1), (.slice pa0 pn0 pc0)])] w (fun v w' => v = (.bool r) ∧ Chg [] w w') := by
  refine calls_fr Try.func88 rfl Try.ntmps88 (Nat.le_of_ble_eq_true rfl) ?_
  have hO := Own.start (N := Nw w []) hM Nw.fut
  have hC := Chg.refl [] w
  unfold s_spec_l19Good at hs
  refine wp_mono (Q := KPost (k_spec_l19Good M w r)) ?_ (fun e a w1 h => ?_)
  rotate_left
  · cases e
    case ret =>
      obtain ⟨σ, rfl, hrest⟩ := h
      exact ret1x Try.results88 (res_tmp rfl) ⟨rfl, hrest⟩
    all_goals exact (h : False).elim
  refine c_seq ?_
  refine c_region ?_
  obtain ⟨w2, g2, ew2, eg2, hC2, hb2⟩ := new_block w [(.int .i64 net.1), (.int .i64 net.2.1), (.slice pa0 pn0 pc0)] 49
  refine pl_val (w' := w2) (.pointer (some ⟨g2, 0, none⟩)) (y_box rfl (by rw [ew2, eg2]; kernel_rfl)) ?_
  have h0 := h0.ext hC2
  have hC := hC.ext hC2
  have hO := hO.new (X' := [g2]) hC2 (fun q hq => by rw [List.mem_singleton.1 hq, eg2]; exact Nat.le_refl _) (List.nodup_cons.2 ⟨(fun h => nomatch h), List.nodup_nil⟩) (fun q hq => by rw [List.mem_singleton.1 hq]; exact hb2.lt)
  refine pl_val (.bool false) (y_assign rfl) ?_
  refine c_nil ?_
  refine c_seq ?_
  refine c_seq ?_
  obtain ⟨s3, hm5, hs⟩ := bind_some hs
  refine c_mid (I := fun a w4 => ∃ (σ : Nat → Value), a = fr 38 (ovl σ [(1, (.pointer (some ⟨g2, 0, none⟩))), (2, (.bool false)), (19, (.bool s3))]) ∧ Chg [] w2 w4) ?_ ?_
  · replace hs := hm5
    have hMid := Chg.refl [] w2
    refine c_region ?_
    refine pl_val (.pointer (some ⟨g2, 0, none⟩)) (y_faddr rfl Fa49x0) ?_
    refine pl_val (.int .i64 net.1) (y_load rfl ((box_load Ag3 Sz3 hb2 [] [(.int .i64 net.1)] [(.int .i64 net.2.1), (.slice pa0 pn0 pc0)] rfl rfl (fun _ => rfl)) _ (Chg.refl _ _))) ?_
    obtain ⟨r7, hr7, hs⟩ := bind_some hs
    refine pl_call Bd137 rfl (c_spec_l1In (M := M) net.1 0 9  hO.fut hr7) ?_
    rintro _ w6 ⟨rfl, hC6⟩
    have h0 := h0.ext hC6
    have hb2 := hb2.chg hC6 (fun h => nomatch h)
    have hMid := hMid.ext hC6
    have hC := hC.ext hC6
    have hO := hO.ext hC6
    refine pl_val (.bool (!r7)) (y_not rfl) ?_
    refine pl_val (.bool (!r7)) (y_move rfl) ?_
    rcases bif_some hs with ⟨hc8, hs⟩ | ⟨hc8, hs⟩
    · skip
      refine pl_not (tg := 8) (by kernel_rfl) (congrArg Value.bool hc8) ?_
      refine pl_not (tg := 8) (by kernel_rfl) (congrArg Value.bool hc8) ?_
      refine pl_not (tg := 8) (by kernel_rfl) (congrArg Value.bool hc8) ?_
      refine pl_not (tg := 8) (by kernel_rfl) (congrArg Value.bool hc8) ?_
      refine pl_val (.bool true) (y_pick_t (congrArg Value.bool hc8) rfl) ?_
      refine pl_val (.bool true) (y_move rfl) ?_
      refine pl_not (tg := 14) (by kernel_rfl) (by rfl) ?_
      refine pl_not (tg := 14) (by kernel_rfl) (by rfl) ?_
      refine pl_not (tg := 14) (by kernel_rfl) (by rfl) ?_
      refine pl_not (tg := 14) (by kernel_rfl) (by rfl) ?_
      refine pl_val (.bool true) (y_pick_t (by rfl) rfl) ?_
      refine c_nil ?_
      cases hs
      exact ⟨_, fr_ovl 38 ⟨rfl, rfl, rfl, trivial⟩, hMid⟩
    · skip
      refine pl_yes (.pointer (some ⟨g2, 1, none⟩)) (tg := 8) (by kernel_rfl) (congrArg Value.bool hc8) (y_faddr rfl Fa49x1) ?_
      refine pl_yes (.int .i64 net.2.1) (tg := 8) (by kernel_rfl) (congrArg Value.bool hc8) (y_load rfl ((box_load Ag3 Sz3 hb2 [(.int .i64 net.1)] [(.int .i64 net.2.1)] [(.slice pa0 pn0 pc0)] rfl rfl (fun _ => rfl)) _ (Chg.refl _ _))) ?_
      obtain ⟨r10, hr10, hs⟩ := bind_some hs
      refine pl_cally (tg := 8) (by kernel_rfl) (congrArg Value.bool hc8) Bd137 rfl (c_spec_l1In (M := M) net.2.1 1 4  hO.fut hr10) ?_
      rintro _ w9 ⟨rfl, hC9⟩
      have h0 := h0.ext hC9
      have hb2 := hb2.chg hC9 (fun h => nomatch h)
      have hMid := hMid.ext hC9
      have hC := hC.ext hC9
      have hO := hO.ext hC9
      refine pl_yes (.bool (!r10)) (tg := 8) (by kernel_rfl) (congrArg Value.bool hc8) (y_not rfl) ?_
      refine pl_val (.bool (!r10)) (y_pick_f (congrArg Value.bool hc8) rfl) ?_
      refine pl_val (.bool (!r10)) (y_move rfl) ?_
      rcases bif_some hs with ⟨hc11, hs⟩ | ⟨hc11, hs⟩
      · skip
        refine pl_not (tg := 14) (by kernel_rfl) (congrArg Value.bool hc11) ?_
        refine pl_not (tg := 14) (by kernel_rfl) (congrArg Value.bool hc11) ?_
        refine pl_not (tg := 14) (by kernel_rfl) (congrArg Value.bool hc11) ?_
        refine pl_not (tg := 14) (by kernel_rfl) (congrArg Value.bool hc11) ?_
        refine pl_val (.bool true) (y_pick_t (congrArg Value.bool hc11) rfl) ?_
        refine c_nil ?_
        cases hs
        exact ⟨_, fr_ovl 38 ⟨rfl, rfl, rfl, trivial⟩, hMid⟩
      · skip
        refine pl_yes (.pointer (some ⟨g2, 2, none⟩)) (tg := 14) (by kernel_rfl) (congrArg Value.bool hc11) (y_faddr rfl Fa49x2) ?_
        refine pl_yes (.slice pa0 pn0 pc0) (tg := 14) (by kernel_rfl) (congrArg Value.bool hc11) (y_load rfl ((box_load Ag47 Sz47 hb2 [(.int .i64 net.1), (.int .i64 net.2.1)] [(.slice pa0 pn0 pc0)] [] rfl rfl (fun _ => rfl)) _ (Chg.refl _ _))) ?_
        refine pl_yes (.int .i64 (net.2.2.length : Int)) (tg := 14) (by kernel_rfl) (congrArg Value.bool hc11) (y_len' Sl47 (rs_len h0) rfl) ?_
        refine pl_yes (.bool (decide (40 < (net.2.2.length : Int)))) (tg := 14) (by kernel_rfl) (congrArg Value.bool hc11) (y_gtr rfl rfl) ?_
        refine pl_val (.bool (decide (40 < (net.2.2.length : Int)))) (y_pick_f (congrArg Value.bool hc11) rfl) ?_
        refine c_nil ?_
        cases hs
        exact ⟨_, fr_ovl 38 ⟨rfl, rfl, rfl, trivial⟩, hMid⟩
  · rintro a1 w4 ⟨σ, rfl, hCs3⟩
    have h0 := h0.ext hCs3
    have hb2 := hb2.chg hCs3 (fun h => nomatch h)
    have hC := hC.ext hCs3
    have hO := hO.ext hCs3
    rcases bif_some hs with ⟨hc12, hs⟩ | ⟨hc12, hs⟩
    · skip
      refine c_condT (congrArg Value.bool hc12) ?_
      refine c_seq ?_
      refine c_region ?_
      refine pl_val (.bool false) (y_assign rfl) ?_
      refine c_nil ?_
      refine wp_ret ?_
      cases hs
      exact ⟨_, fr_ovl 38 ⟨rfl, trivial⟩, hC⟩
    · skip
      refine c_condF (congrArg Value.bool hc12) ?_
      refine wp_skip ?_
      refine c_seq ?_
      refine c_seq ?_
      refine c_region ?_
      refine pl_val (.int .i64 0) (y_assign rfl) ?_
      refine c_nil ?_
      obtain ⟨o26, hl27, hs⟩ := bind_some hs
      refine wp_block ?_
      refine wp_forC (id := 0) (net.2.2.length : Int) (I := fun k24 s22 a w23 => ∃ (σ : Nat → Value), a = fr 38 (ovl σ [(1, (.pointer (some ⟨g2, 0, none⟩))), (3, (.int .i64 k24))]) ∧ Chg [] w w23 ∧ Own (Nw w []) M w23 (([g2]) ++ []) ∧ (RT.rs (RT.pr (RT.rs (RT.int .i64)) (RT.pr (RT.int .i64) (RT.rs (RT.rs (RT.int .i64)))))).val M w23 (.slice pa0 pn0 pc0) net.2.2 ([]) ∧ BoxV w23 g2 49 [(.int .i64 net.1), (.int .i64 net.2.1), (.slice pa0 pn0 pc0)]) (J := fun s22 a w23 => ∃ (σ : Nat → Value), a = fr 38 (ovl σ []) ∧ Chg [] w w23 ∧ Own (Nw w []) M w23 (([g2]) ++ []) ∧ (RT.rs (RT.pr (RT.rs (RT.int .i64)) (RT.pr (RT.int .i64) (RT.rs (RT.rs (RT.int .i64)))))).val M w23 (.slice pa0 pn0 pc0) net.2.2 ([]) ∧ BoxV w23 g2 49 [(.int .i64 net.1), (.int .i64 net.2.1), (.slice pa0 pn0 pc0)]) (K := (k_spec_l19Good M w)) ?_ ?_ 0 () o26 _ _ ?_ hl27 ?_
      · rintro k24 s22 a w23 ⟨σ, rfl, hC, hO, h0, hb2⟩ hlt
        refine c_seq ?_
        refine c_seq ?_
        refine c_region ?_
        refine pl_val (.int .i64 k24) (y_move rfl) ?_
        refine pl_val (.pointer (some ⟨g2, 2, none⟩)) (y_faddr rfl Fa49x2) ?_
        refine pl_val (.slice pa0 pn0 pc0) (y_load rfl ((box_load Ag47 Sz47 hb2 [(.int .i64 net.1), (.int .i64 net.2.1)] [(.slice pa0 pn0 pc0)] [] rfl rfl (fun _ => rfl)) _ (Chg.refl _ _))) ?_
        refine pl_val (.int .i64 (net.2.2.length : Int)) (y_len' Sl47 (rs_len h0) rfl) ?_
        refine pl_val (.bool (decide (k24 < (net.2.2.length : Int)))) (y_lss rfl rfl) ?_
        refine c_nil ?_
        refine c_condF (congrArg Value.bool (decide_eq_false hlt)) ?_
        refine wp_exit ?_
        exact ⟨rfl, _, fr_ovl 38 trivial, hC, hO, h0, hb2⟩
      · rintro k24 s22 o26 a w23 ⟨σ, rfl, hC, hO, h0, hb2⟩ hlt hw hs
        refine c_seq ?_
        refine c_seq ?_
        refine c_region ?_
        refine pl_val (.int .i64 k24) (y_move rfl) ?_
        refine pl_val (.pointer (some ⟨g2, 2, none⟩)) (y_faddr rfl Fa49x2) ?_
        refine pl_val (.slice pa0 pn0 pc0) (y_load rfl ((box_load Ag47 Sz47 hb2 [(.int .i64 net.1), (.int .i64 net.2.1)] [(.slice pa0 pn0 pc0)] [] rfl rfl (fun _ => rfl)) _ (Chg.refl _ _))) ?_
        refine pl_val (.int .i64 (net.2.2.length : Int)) (y_len' Sl47 (rs_len h0) rfl) ?_
        refine pl_val (.bool (decide (k24 < (net.2.2.length : Int)))) (y_lss rfl rfl) ?_
        refine c_nil ?_
        refine c_condT (congrArg Value.bool (decide_eq_true hlt)) ?_
        refine wp_skip ?_
        refine c_seq ?_
        refine wp_block ?_
        refine c_seq ?_
        refine x_start [] Mx rfl ?_
        have hCw28 := Chg.drew w23
        generalize World.drew w23 = w28 at hCw28 ⊢
        have h0 := h0.ext hCw28
        have hb2 := hb2.chg hCw28 (fun h => nomatch h)
        have hC := hC.ext hCw28
        have hO := hO.ext hCw28
        have hS := Chg.refl [] w28
        refine x_p 0 (.pointer (some ⟨g2, 0, none⟩)) rfl (by kernel_rfl)  (fun _ => y_faddr rfl Fa49x0) (fun _ => hS) ?_
        refine x_l 1 (.int .i64 net.1) rfl (by kernel_rfl)  (fun w' hw' => y_load rfl ((box_load Ag3 Sz3 hb2 [] [(.int .i64 net.1)] [(.int .i64 net.2.1), (.slice pa0 pn0 pc0)] rfl rfl (fun _ => rfl)) w' hw')) hS ?_
        refine x_p 2 (.pointer (some ⟨g2, 1, none⟩)) rfl (by kernel_rfl)  (fun _ => y_faddr rfl Fa49x1) (fun _ => hS) ?_
        refine x_l 3 (.int .i64 net.2.1) rfl (by kernel_rfl)  (fun w' hw' => y_load rfl ((box_load Ag3 Sz3 hb2 [(.int .i64 net.1)] [(.int .i64 net.2.1)] [(.slice pa0 pn0 pc0)] rfl rfl (fun _ => rfl)) w' hw')) hS ?_
        refine x_p 4 (.pointer (some ⟨g2, 2, none⟩)) rfl (by kernel_rfl)  (fun _ => y_faddr rfl Fa49x2) (fun _ => hS) ?_
        refine x_l 5 (.slice pa0 pn0 pc0) rfl (by kernel_rfl)  (fun w' hw' => y_load rfl ((box_load Ag47 Sz47 hb2 [(.int .i64 net.1), (.int .i64 net.2.1)] [(.slice pa0 pn0 pc0)] [] rfl rfl (fun _ => rfl)) w' hw')) hS ?_
        refine x_p 6 (.int .i64 k24) rfl (by kernel_rfl)  (fun _ => y_move rfl) (fun _ => hS) ?_
        obtain ⟨x29, hx29, hs⟩ := bind_some hs
        obtain ⟨b30, o30, hp30, ha30⟩ := rs_idx Sl47 Sz108 h0 hx29
        refine x_p 7 (.pointer (some ⟨b30, o30, none⟩)) rfl (by kernel_rfl)  (fun _ => hp30 _ _ _ _ _ _ _ _ _ rfl rfl) (fun _ => hS) ?_
        obtain ⟨v31, hl31, hv31⟩ := at_load Ag108 Sz108 (by intro h; cases h) ha30
        obtain ⟨cs31, rfl, hr31⟩ := hv31
        obtain ⟨cc31x1, cd31x1, rfl, hh31x1, ht31x1⟩ := pr_open hr31
        obtain ⟨a31x1, n31x1, c31x1, rfl, hv31x1⟩ := rs_rel hh31x1
        obtain ⟨cc31x3, cd31x3, rfl, hh31x3, ht31x3⟩ := pr_open ht31x1
        obtain rfl := int_rel hh31x3
        obtain ⟨a31x4, n31x4, c31x4, rfl, hv31x4⟩ := rs_rel ht31x3
        refine x_l 8 (.agg #[(.slice a31x1 n31x1 c31x1), (.int .i64 x29.2.1), (.slice a31x4 n31x4 c31x4)]) rfl (by kernel_rfl)  (fun w' hw' => y_load rfl (hl31 w' hw')) hS ?_
        refine x_one (i := 9) (by kernel_rfl) ?_
        obtain ⟨r35, hr35, hs⟩ := bind_some hs
        refine xk_call (b := false) rfl  Bd149 rfl (c_spec_l19Is (M := M) net.1 net.2.1 (x29.1, (x29.2.1, x29.2.2)) hv31x1 hv31x4 hO.fut hr35) rfl (by rintro _ _ _ ⟨rfl, hC34⟩; exact hS.ext hC34) ?_
        rintro _ w34 ⟨rfl, hC34⟩
        have h0 := h0.ext hC34
        have hb2 := hb2.chg hC34 (fun h => nomatch h)
        have hv31x1 := hv31x1.ext hC34
        have hv31x4 := hv31x4.ext hC34
        have hC := hC.ext hC34
        have hO := hO.ext hC34
        have hS := hS.ext hC34
        refine x_p 10 (.bool (!r35)) rfl (by kernel_rfl)  (fun _ => y_not rfl) (fun _ => hS) ?_
        refine x_end (by kernel_rfl) ?_
        clear hS
        rcases bif_some hs with ⟨hc36, hs⟩ | ⟨hc36, hs⟩
        · skip
          refine c_condT (congrArg Value.bool hc36) ?_
          refine c_seq ?_
          refine c_region ?_
          refine pl_val (.bool false) (y_assign rfl) ?_
          refine c_nil ?_
          refine wp_ret ?_
          cases hs
          exact ⟨_, fr_ovl 38 ⟨rfl, trivial⟩, hC⟩
        · skip
          refine c_condF (congrArg Value.bool hc36) ?_
          refine wp_skip ?_
          refine c_region ?_
          refine pl_val (.int .i64 k24) (y_move rfl) ?_
          refine pl_val (.int .i64 (w64 (k24 + 1))) (y_add rfl rfl) ?_
          refine pl_val (.int .i64 (w64 (k24 + 1))) (y_assign rfl) ?_
          refine c_nil ?_
          cases hs
          exact ⟨_, fr_ovl 38 ⟨rfl, congrArg (Value.int .i64) hw, trivial⟩, hC, hO, h0, hb2⟩
      · skip
        exact ⟨_, fr_ovl 38 ⟨rfl, rfl, trivial⟩, hC, hO, h0, hb2⟩
      · cases o26 with
        | nx _ => exact True.intro
        | rt r_ =>
          have hs := after_rt hs
          intro a1 w1 hK
          cases hs
          exact hK
        | br s22 =>
          have hs := after_br hs
          rintro a1 w23 ⟨σ, rfl, hC, hO, h0, hb2⟩
          refine c_seq ?_
          refine c_region ?_
          refine pl_val (.bool true) (y_assign rfl) ?_
          refine c_nil ?_
          refine wp_ret ?_
          cases hs
          exact ⟨_, fr_ovl 38 ⟨rfl, trivial⟩, hC⟩

def k_spec_l1Own (M : Nat → Prop) (w0 : World) (r : (List Int)) (a : Act) (w : World) : Prop :=
  ∃ (σ : Nat → Value) (ra0 : Option Addr) (rn0 rc0 : Nat) (rf0 : List Nat), a = fr 6 (ovl σ [(2, (.slice ra0 rn0 rc0))]) ∧ Chg [] w0 w ∧ (RT.os 3 (RT.int .i64)).val M w (.slice ra0 rn0 rc0) r rf0 ∧ Own (Nw w0 []) (fun _ => True) w (rf0 ++ ([]))
def s_spec_l1Own (l : List Int) : Option ((List Int)) :=
  (app ([]) l).bind fun y5 =>
  some y5
set_option maxHeartbeats 4000000 in
theorem c_spec_l1Own {M : Nat → Prop} {w : World} {pa0 : Option Addr} {pn0 pc0 : Nat} (l : List Int) (h0 : (RT.rs (RT.int .i64)).val M w (.slice pa0 pn0 pc0) l ([])) (hM : ∀ g, w.heap.size ≤ g → M g) {r : (List Int)} (hs : s_spec_l1Own l = some r) :
    Gives Try.prog 169 [(.slice pa0 pn0 pc0)] w (fun v w' => ∃ (ra0 : Option Addr) (rn0 rc0 : Nat) (rf0 : List Nat), v = (.slice ra0 rn0 rc0) ∧ Chg [] w w' ∧ (RT.os 3 (RT.int .i64)).val M w' (.slice ra0 rn0 rc0) r rf0 ∧ Own (Nw w []) (fun _ => True) w' (rf0 ++ ([]))) := by
  refine calls_fr Try.func169 rfl Try.ntmps169 (Nat.le_of_ble_eq_true rfl) ?_
  have hO := Own.start (N := Nw w []) hM Nw.fut
  have hC := Chg.refl [] w
  unfold s_spec_l1Own at hs
  refine wp_mono (Q := KPost (k_spec_l1Own M w r)) ?_ (fun e a w1 h => ?_)
  rotate_left
  · cases e
    case ret =>
      obtain ⟨σ, ra0, rn0, rc0, rf0, rfl, hrest⟩ := h
      exact ret1x Try.results169 (res_tmp rfl) ⟨ra0, rn0, rc0, rf0, rfl, hrest⟩
    all_goals exact (h : False).elim
  refine c_seq ?_
  refine c_region ?_
  refine pl_val (.slice none 0 0) (y_assign rfl) ?_
  refine c_nil ?_
  refine c_seq ?_
  refine c_region ?_
  obtain ⟨w2, g2, ew2, eg2, hC2, hb2⟩ := new_block w [] 3
  refine pl_val (w' := w2) (.slice (some ⟨g2, 0, none⟩) 0 0) (y_bslice rfl (by rw [ew2, eg2]; kernel_rfl)) ?_
  have h0 := h0.ext hC2
  have hC := hC.ext hC2
  have hO := hO.new (X' := [g2]) hC2 (fun q hq => by rw [List.mem_singleton.1 hq, eg2]; exact Nat.le_refl _) (List.nodup_cons.2 ⟨(fun h => nomatch h), List.nodup_nil⟩) (fun q hq => by rw [List.mem_singleton.1 hq]; exact hb2.lt)
  have hv2 := os_of_box (r := (RT.int .i64)) (M := M) (css := []) (fps := []) (xs := ([] : List Int)) hb2 trivial (Nat.zero_le _) (List.nodup_cons.2 ⟨(fun h => nomatch h), List.nodup_nil⟩)
  have hv2 : (RT.os 3 (RT.int .i64)).val M w2 (.slice (some ⟨g2, 0, none⟩) 0 0) [] [g2] := hv2
  refine pl_val (.slice pa0 pn0 pc0) (y_move rfl) ?_
  obtain ⟨y5, hy5, hs⟩ := bind_some hs
  obtain ⟨a4, n4, c4, w4, f4, hr4, hC4, hf4, hv4⟩ := app_rs Rw22 hy5 hv2 h0 hO.inM
  have hG4 := os_block hv2
  refine pl_val (w' := w4) (.slice a4 n4 c4) (y_append rfl rfl (hr4 _)) ?_
  have h0 := h0.mut hC4 (fun g hg => hO.inM g (hG4 g hg)) (fun _ _ h => nomatch h)
  have hC := hC.step hC4 (fun g hg => hO.inN g (hG4 g hg))
  have hO := hO.grow hC4 hf4 (os_nodup hv4) hv4.fpl
  refine pl_val (.slice a4 n4 c4) (y_assign rfl) ?_
  refine c_nil ?_
  refine wp_ret ?_
  cases hs
  exact ⟨_, a4, n4, c4, f4, fr_ovl 6 ⟨rfl, trivial⟩, hC, hv4, hO.top⟩

theorem Bd169 : Bodied Try.prog 169 := bodied Try.func169 (by kernel_rfl) rfl

end Go.Proofs
