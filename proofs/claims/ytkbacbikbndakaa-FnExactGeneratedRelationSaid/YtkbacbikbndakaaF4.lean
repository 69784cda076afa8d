/- What functions of the program compute, as plain functions, and that a call gives just that. Conditions: those named in each theorem. -/
import Derived.Test.YtkbacbikbndakaaF3
set_option linter.unusedVariables false
namespace Go.Proofs
open Go.G Go.RowKit
set_option maxRecDepth 100000

def k_laws_heldIntS (M : Nat → Prop) (w0 : World) (r : Int) (a : Act) (w : World) : Prop :=
  ∃ (σ : Nat → Value) , a = fr 21 (ovl σ [(4, (.int .i64 r))]) ∧ Chg [] w0 w
def s_laws_heldIntS (a_ : List Int) (k : Int) : Option (Int) :=
  (forC (S := Int) (R := Int) (fun k7 s5 =>
  (idx a_ k7).bind fun x11 =>
  (bif (x11 != s5) then some (.rt (-1)) else some (.nx (w64 (s5 + 1))))) 0 (a_.length : Int) k).bind fun o9 => after o9 (fun r_ => some r_) (fun s5 =>
  some s5)
set_option maxHeartbeats 4000000 in
theorem c_laws_heldIntS {M : Nat → Prop} {w : World} {pa0 : Option Addr} {pn0 pc0 : Nat} (a_ : List Int) (k : Int) (h0 : (RT.rs (RT.int .i64)).val M w (.slice pa0 pn0 pc0) a_ ([])) (hM : ∀ g, w.heap.size ≤ g → M g) {r : Int} (hs : s_laws_heldIntS a_ k = some r) :
    Gives Try.prog 61 [(.slice pa0 pn0 pc0), (.int .i64 k)] w (fun v w' => v = (.int .i64 r) ∧ Chg [] w w') := by
 refine calls_fr Try.func61 rfl Try.ntmps61 (Nat.le_of_ble_eq_true rfl) ?_
 have hO := Own.start (N := Nw w []) hM Nw.fut
 have hC := Chg.refl [] w
 unfold s_laws_heldIntS at hs
 refine wp_mono (Q := KPost (k_laws_heldIntS M w r)) ?_ (fun e a a2 h => ?_)
 rotate_left
 ·cases e
  case ret =>
   obtain ⟨σ, rfl, hrest⟩ := h
   exact ret1x Try.results61 (res_tmp rfl) ⟨rfl, hrest⟩
  all_goals exact (h : False).elim
 refine c_sr ?_
 refine pl_val (.int .i64 0) (y_assign rfl) ?_
 refine c_nil ?_
 refine c_seq ?_
 refine c_sr ?_
 refine pl_val (.int .i64 0) (y_assign rfl) ?_
 refine c_nil ?_
 obtain ⟨o9, a3, hs⟩ := bind_some hs
 refine wp_block ?_
 refine wp_forC (id := 0) (a_.length : Int) (I := fun k7 s5 a a0 => ∃ (σ : Nat → Value), a = fr 21 (ovl σ [(0, (.slice pa0 pn0 pc0)), (1, (.int .i64 s5)), (5, (.int .i64 k7))]) ∧ Chg [] w a0 ∧ Own (Nw w []) M a0 ([]) ∧ (RT.rs (RT.int .i64)).val M a0 (.slice pa0 pn0 pc0) a_ ([])) (J := fun s5 a a0 => ∃ (σ : Nat → Value), a = fr 21 (ovl σ [(1, (.int .i64 s5))]) ∧ Chg [] w a0 ∧ Own (Nw w []) M a0 ([]) ∧ (RT.rs (RT.int .i64)).val M a0 (.slice pa0 pn0 pc0) a_ ([])) (K := (k_laws_heldIntS M w)) ?_ ?_ 0 k o9 _ _ ?_ a3 ?_
 ·rintro k7 s5 a a0 ⟨σ, rfl, hC, hO, h0⟩ hlt
  refine c_seq ?_
  refine c_sr ?_
  refine pl_val (.int .i64 k7) (y_move rfl) ?_
  refine pl_val (.slice pa0 pn0 pc0) (y_move rfl) ?_
  refine pl_val (.int .i64 (a_.length : Int)) (y_len' Sl43 (rs_len h0) rfl) ?_
  refine pl_val (.bool (decide (k7 < (a_.length : Int)))) (y_lss rfl rfl) ?_
  refine c_nil ?_
  refine c_condF (congrArg Value.bool (decide_eq_false hlt)) ?_
  refine wp_exit ?_
  exact ⟨rfl, _, fr_ovl 21 ⟨rfl, trivial⟩, hC, hO, h0⟩
 ·rintro k7 s5 o9 a a0 ⟨σ, rfl, hC, hO, h0⟩ hlt hw hs
  refine c_seq ?_
  refine c_sr ?_
  refine pl_val (.int .i64 k7) (y_move rfl) ?_
  refine pl_val (.slice pa0 pn0 pc0) (y_move rfl) ?_
  refine pl_val (.int .i64 (a_.length : Int)) (y_len' Sl43 (rs_len h0) rfl) ?_
  refine pl_val (.bool (decide (k7 < (a_.length : Int)))) (y_lss rfl rfl) ?_
  refine c_nil ?_
  refine c_condT (congrArg Value.bool (decide_eq_true hlt)) ?_
  refine wp_skip ?_
  refine c_seq ?_
  refine wp_block ?_
  refine c_seq ?_
  refine c_sr ?_
  refine pl_val (.slice pa0 pn0 pc0) (y_move rfl) ?_
  refine pl_val (.int .i64 k7) (y_move rfl) ?_
  obtain ⟨x11, a4, hs⟩ := bind_some hs
  obtain ⟨a5, a6, a7, a8⟩ := rs_idx Sl43 Sz3 h0 a4
  refine pl_val (.pointer (some ⟨a5, a6, none⟩)) (a7 _ _ _ _ _ _ _ _ _ rfl rfl) ?_
  refine pl_val (.int .i64 x11) (y_load rfl ((at_load_int Ag3 Sz3 a8) _ (Chg.refl _ _))) ?_
  refine pl_val (.int .i64 s5) (y_move rfl) ?_
  refine pl_val (.bool (x11 != s5)) (y_neq rfl rfl) ?_
  refine c_nil ?_
  rcases bif_some hs with ⟨a1, hs⟩ | ⟨a1, hs⟩
  ·refine c_condT (congrArg Value.bool a1) ?_
   refine c_sr ?_
   refine pl_val (.int .i64 (-1)) (y_assign rfl) ?_
   refine c_nil ?_
   refine wp_ret ?_
   cases hs
   exact ⟨_, fr_ovl 21 ⟨rfl, trivial⟩, hC⟩
  refine c_condF (congrArg Value.bool a1) ?_
  refine wp_skip ?_
  refine c_region ?_
  refine pl_val (.int .i64 s5) (y_move rfl) ?_
  refine pl_val (.int .i64 (w64 (s5 + 1))) (y_add rfl rfl) ?_
  refine pl_val (.int .i64 (w64 (s5 + 1))) (y_assign rfl) ?_
  refine c_nil ?_
  refine c_region ?_
  refine pl_val (.int .i64 k7) (y_move rfl) ?_
  refine pl_val (.int .i64 (w64 (k7 + 1))) (y_add rfl rfl) ?_
  refine pl_val (.int .i64 (w64 (k7 + 1))) (y_assign rfl) ?_
  refine c_nil ?_
  cases hs
  exact ⟨_, fr_ovl 21 ⟨rfl, rfl, congrArg (Value.int .i64) hw, trivial⟩, hC, hO, h0⟩
 ·skip
  exact ⟨_, fr_ovl 21 ⟨rfl, rfl, rfl, trivial⟩, hC, hO, h0⟩
 cases o9 with
 | nx _ => exact True.intro
 | rt r_ =>
  have hs := after_rt hs
  intro a9 a2 hK
  cases hs
  exact hK
 | br s5 =>
  have hs := after_br hs
  rintro a9 a0 ⟨σ, rfl, hC, hO, h0⟩
  refine c_sr ?_
  refine pl_val (.int .i64 s5) (y_move rfl) ?_
  refine pl_val (.int .i64 s5) (y_assign rfl) ?_
  refine c_nil ?_
  refine wp_ret ?_
  cases hs
  exact ⟨_, fr_ovl 21 ⟨rfl, trivial⟩, hC⟩

theorem Bd61 : Bodied Try.prog 61 := bodied Try.func61 (by kernel_rfl) rfl

def k_laws_heldIntSS (M : Nat → Prop) (w0 : World) (r : Int) (a : Act) (w : World) : Prop :=
  ∃ (σ : Nat → Value) , a = fr 21 (ovl σ [(4, (.int .i64 r))]) ∧ Chg [] w0 w
def s_laws_heldIntSS (a_ : List (List Int)) (k : Int) : Option (Int) :=
  (forC (S := Int) (R := Int) (fun k11 s9 =>
  (idx a_ k11).bind fun x15 =>
  (s_laws_heldIntS x15 s9).bind fun r20 =>
  (bif (decide (r20 < 0)) then some (.rt (-1)) else some (.nx r20))) 0 (a_.length : Int) k).bind fun o13 => after o13 (fun r_ => some r_) (fun s9 =>
  some s9)
set_option maxHeartbeats 4000000 in
theorem c_laws_heldIntSS {M : Nat → Prop} {w : World} {pa0 : Option Addr} {pn0 pc0 : Nat} (a_ : List (List Int)) (k : Int) (h0 : (RT.rs (RT.rs (RT.int .i64))).val M w (.slice pa0 pn0 pc0) a_ ([])) (hM : ∀ g, w.heap.size ≤ g → M g) {r : Int} (hs : s_laws_heldIntSS a_ k = some r) :
    Gives Try.prog 31 [(.slice pa0 pn0 pc0), (.int .i64 k)] w (fun v w' => v = (.int .i64 r) ∧ Chg [] w w') := by
 refine calls_fr Try.func31 rfl Try.ntmps31 (Nat.le_of_ble_eq_true rfl) ?_
 have hO := Own.start (N := Nw w []) hM Nw.fut
 have hC := Chg.refl [] w
 unfold s_laws_heldIntSS at hs
 refine wp_mono (Q := KPost (k_laws_heldIntSS M w r)) ?_ (fun e a a5 h => ?_)
 rotate_left
 ·cases e
  case ret =>
   obtain ⟨σ, rfl, hrest⟩ := h
   exact ret1x Try.results31 (res_tmp rfl) ⟨rfl, hrest⟩
  all_goals exact (h : False).elim
 refine c_sr ?_
 refine pl_val (.int .i64 0) (y_assign rfl) ?_
 refine c_nil ?_
 refine c_seq ?_
 refine c_sr ?_
 refine pl_val (.int .i64 0) (y_assign rfl) ?_
 refine c_nil ?_
 obtain ⟨o13, a6, hs⟩ := bind_some hs
 refine wp_block ?_
 refine wp_forC (id := 0) (a_.length : Int) (I := fun k11 s9 a a0 => ∃ (σ : Nat → Value), a = fr 21 (ovl σ [(0, (.slice pa0 pn0 pc0)), (1, (.int .i64 s9)), (5, (.int .i64 k11))]) ∧ Chg [] w a0 ∧ Own (Nw w []) M a0 ([]) ∧ (RT.rs (RT.rs (RT.int .i64))).val M a0 (.slice pa0 pn0 pc0) a_ ([])) (J := fun s9 a a0 => ∃ (σ : Nat → Value), a = fr 21 (ovl σ [(1, (.int .i64 s9))]) ∧ Chg [] w a0 ∧ Own (Nw w []) M a0 ([]) ∧ (RT.rs (RT.rs (RT.int .i64))).val M a0 (.slice pa0 pn0 pc0) a_ ([])) (K := (k_laws_heldIntSS M w)) ?_ ?_ 0 k o13 _ _ ?_ a6 ?_
 ·rintro k11 s9 a a0 ⟨σ, rfl, hC, hO, h0⟩ hlt
  refine c_seq ?_
  refine c_sr ?_
  refine pl_val (.int .i64 k11) (y_move rfl) ?_
  refine pl_val (.slice pa0 pn0 pc0) (y_move rfl) ?_
  refine pl_val (.int .i64 (a_.length : Int)) (y_len' Sl25 (rs_len h0) rfl) ?_
  refine pl_val (.bool (decide (k11 < (a_.length : Int)))) (y_lss rfl rfl) ?_
  refine c_nil ?_
  refine c_condF (congrArg Value.bool (decide_eq_false hlt)) ?_
  refine wp_exit ?_
  exact ⟨rfl, _, fr_ovl 21 ⟨rfl, trivial⟩, hC, hO, h0⟩
 ·rintro k11 s9 o13 a a0 ⟨σ, rfl, hC, hO, h0⟩ hlt hw hs
  refine c_seq ?_
  refine c_sr ?_
  refine pl_val (.int .i64 k11) (y_move rfl) ?_
  refine pl_val (.slice pa0 pn0 pc0) (y_move rfl) ?_
  refine pl_val (.int .i64 (a_.length : Int)) (y_len' Sl25 (rs_len h0) rfl) ?_
  refine pl_val (.bool (decide (k11 < (a_.length : Int)))) (y_lss rfl rfl) ?_
  refine c_nil ?_
  refine c_condT (congrArg Value.bool (decide_eq_true hlt)) ?_
  refine wp_skip ?_
  refine c_seq ?_
  refine wp_block ?_
  refine c_sr ?_
  refine pl_val (.slice pa0 pn0 pc0) (y_move rfl) ?_
  refine pl_val (.int .i64 k11) (y_move rfl) ?_
  obtain ⟨x15, a7, hs⟩ := bind_some hs
  obtain ⟨a8, a9, b0, a3⟩ := rs_idx Sl25 Sz43 h0 a7
  refine pl_val (.pointer (some ⟨a8, a9, none⟩)) (b0 _ _ _ _ _ _ _ _ _ rfl rfl) ?_
  obtain ⟨b7, b1, a2⟩ := at_load Ag43 Sz43 (fun _ => rfl) a3
  obtain ⟨b2, b3, b4, rfl⟩ := rs_sl a2
  refine pl_val (.slice b2 b3 b4) (y_load rfl (b1 _ (Chg.refl _ _))) ?_
  refine pl_val (.int .i64 s9) (y_move rfl) ?_
  obtain ⟨r20, b5, hs⟩ := bind_some hs
  refine pl_call Bd61 rfl (c_laws_heldIntS (M := M) x15 s9 a2 hO.fut b5) ?_
  rintro _ b8 ⟨rfl, a1⟩
  have h0 := h0.ext a1
  have a2 := a2.ext a1
  have a3 := at_ext a3 a1
  have hC := hC.ext a1
  have hO := hO.ext a1
  refine pl_val (.int .i64 r20) (y_assign rfl) ?_
  refine c_nil ?_
  refine c_sr ?_
  refine pl_val (.int .i64 r20) (y_move rfl) ?_
  refine pl_val (.bool (decide (r20 < 0))) (y_lss rfl rfl) ?_
  refine c_nil ?_
  rcases bif_some hs with ⟨a4, hs⟩ | ⟨a4, hs⟩
  ·refine c_condT (congrArg Value.bool a4) ?_
   refine c_sr ?_
   refine pl_val (.int .i64 (-1)) (y_assign rfl) ?_
   refine c_nil ?_
   refine wp_ret ?_
   cases hs
   exact ⟨_, fr_ovl 21 ⟨rfl, trivial⟩, hC⟩
  refine c_condF (congrArg Value.bool a4) ?_
  refine wp_skip ?_
  refine c_region ?_
  refine pl_val (.int .i64 k11) (y_move rfl) ?_
  refine pl_val (.int .i64 (w64 (k11 + 1))) (y_add rfl rfl) ?_
  refine pl_val (.int .i64 (w64 (k11 + 1))) (y_assign rfl) ?_
  refine c_nil ?_
  cases hs
  exact ⟨_, fr_ovl 21 ⟨rfl, rfl, congrArg (Value.int .i64) hw, trivial⟩, hC, hO, h0⟩
 ·skip
  exact ⟨_, fr_ovl 21 ⟨rfl, rfl, rfl, trivial⟩, hC, hO, h0⟩
 cases o13 with
 | nx _ => exact True.intro
 | rt r_ =>
  have hs := after_rt hs
  intro b6 a5 hK
  cases hs
  exact hK
 | br s9 =>
  have hs := after_br hs
  rintro b6 a0 ⟨σ, rfl, hC, hO, h0⟩
  refine c_sr ?_
  refine pl_val (.int .i64 s9) (y_move rfl) ?_
  refine pl_val (.int .i64 s9) (y_assign rfl) ?_
  refine c_nil ?_
  refine wp_ret ?_
  cases hs
  exact ⟨_, fr_ovl 21 ⟨rfl, trivial⟩, hC⟩

theorem Bd31 : Bodied Try.prog 31 := bodied Try.func31 (by kernel_rfl) rfl

def k_laws_heldRelation (M : Nat → Prop) (w0 : World) (r : Int) (a : Act) (w : World) : Prop :=
  ∃ (σ : Nat → Value) , a = fr 12 (ovl σ [(4, (.int .i64 r))]) ∧ Chg [] w0 w
def s_laws_heldRelation (a_ : Int × (List (List Int))) (k : Int) : Option (Int) :=
  (s_laws_heldIntSS a_.2 k).bind fun r4 =>
  (bif (decide (r4 < 0)) then some (-1) else some r4)
set_option maxHeartbeats 4000000 in
theorem c_laws_heldRelation {M : Nat → Prop} {w : World} {pa0 : Option Addr} {pn0 pc0 : Nat} (a_ : Int × (List (List Int))) (k : Int) (h0 : (RT.rs (RT.rs (RT.int .i64))).val M w (.slice pa0 pn0 pc0) a_.2 ([])) (hM : ∀ g, w.heap.size ≤ g → M g) {r : Int} (hs : s_laws_heldRelation a_ k = some r) :
    Gives Try.prog 18 [(.agg #[(.int .i64 a_.1), (.slice pa0 pn0 pc0)]), (.int .i64 k)] w (fun v w' => v = (.int .i64 r) ∧ Chg [] w w') := by
 refine calls_fr Try.func18 rfl Try.ntmps18 (Nat.le_of_ble_eq_true rfl) ?_
 have hO := Own.start (N := Nw w []) hM Nw.fut
 have hC := Chg.refl [] w
 unfold s_laws_heldRelation at hs
 refine wp_mono (Q := KPost (k_laws_heldRelation M w r)) ?_ (fun e a a9 h => ?_)
 rotate_left
 ·cases e
  case ret =>
   obtain ⟨σ, rfl, hrest⟩ := h
   exact ret1x Try.results18 (res_tmp rfl) ⟨rfl, hrest⟩
  all_goals exact (h : False).elim
 refine c_sr ?_
 obtain ⟨a6, a4, a7, a5, a2, a0⟩ := new_block w [(.int .i64 a_.1), (.slice pa0 pn0 pc0)] 30
 refine pl_val (w' := a6) (.pointer (some ⟨a4, 0, none⟩)) (y_box rfl (by rw [a7, a5]; kernel_rfl)) ?_
 have h0 := h0.ext a2
 have hC := hC.ext a2
 have hO := hO.new1 a2 a5 a0.lt
 refine pl_val (.int .i64 0) (y_assign rfl) ?_
 refine c_nil ?_
 refine c_sr ?_
 refine pl_val (.pointer (some ⟨a4, 1, none⟩)) (y_faddr rfl Fa30x1) ?_
 refine pl_val (.slice pa0 pn0 pc0) (y_load rfl ((box_load Ag25 Sz25 a0 [(.int .i64 a_.1)] [(.slice pa0 pn0 pc0)] [] rfl rfl (fun _ => rfl)) _ (Chg.refl _ _))) ?_
 refine pl_val (.int .i64 k) (y_move rfl) ?_
 obtain ⟨r4, a8, hs⟩ := bind_some hs
 refine pl_call Bd31 rfl (c_laws_heldIntSS (M := M) a_.2 k h0 hO.fut a8) ?_
 rintro _ b0 ⟨rfl, a1⟩
 have h0 := h0.ext a1
 have a0 := a0.cn a1
 have hC := hC.ext a1
 have hO := hO.ext a1
 refine pl_val (.int .i64 r4) (y_assign rfl) ?_
 refine c_nil ?_
 have hO := hO.drop
 refine c_seq ?_
 refine c_sr ?_
 refine pl_val (.int .i64 r4) (y_move rfl) ?_
 refine pl_val (.bool (decide (r4 < 0))) (y_lss rfl rfl) ?_
 refine c_nil ?_
 rcases bif_some hs with ⟨a3, hs⟩ | ⟨a3, hs⟩
 ·refine c_condT (congrArg Value.bool a3) ?_
  refine c_sr ?_
  refine pl_val (.int .i64 (-1)) (y_assign rfl) ?_
  refine c_nil ?_
  refine wp_ret ?_
  cases hs
  exact ⟨_, fr_ovl 12 ⟨rfl, trivial⟩, hC⟩
 refine c_condF (congrArg Value.bool a3) ?_
 refine wp_skip ?_
 refine c_sr ?_
 refine pl_val (.int .i64 r4) (y_move rfl) ?_
 refine pl_val (.int .i64 r4) (y_assign rfl) ?_
 refine c_nil ?_
 refine wp_ret ?_
 cases hs
 exact ⟨_, fr_ovl 12 ⟨rfl, trivial⟩, hC⟩

theorem Ag24 : AggT Try.prog 24 true := fun _ => by kernel_rfl

theorem Sz24 : SzT Try.prog 24 2 := ⟨_, rfl, rfl⟩

theorem Bd8 : Bodied Try.prog 8 := bodied Try.func8 (by kernel_rfl) rfl

theorem Ag27 : AggT Try.prog 27 true := fun _ => by kernel_rfl

theorem Sz27 : SzT Try.prog 27 2 := ⟨_, rfl, rfl⟩

theorem Bd9 : Bodied Try.prog 9 := bodied Try.func9 (by kernel_rfl) rfl

theorem Bd11 : Bodied Try.prog 11 := bodied Try.func11 (by kernel_rfl) rfl

theorem Bd12 : Bodied Try.prog 12 := bodied Try.func12 (by kernel_rfl) rfl

theorem Bd10 : Bodied Try.prog 10 := bodied Try.func10 (by kernel_rfl) rfl

theorem Bd13 : Bodied Try.prog 13 := bodied Try.func13 (by kernel_rfl) rfl

theorem Bd14 : Bodied Try.prog 14 := bodied Try.func14 (by kernel_rfl) rfl

theorem Bd15 : Bodied Try.prog 15 := bodied Try.func15 (by kernel_rfl) rfl

theorem Bd16 : Bodied Try.prog 16 := bodied Try.func16 (by kernel_rfl) rfl

theorem Bd17 : Bodied Try.prog 17 := bodied Try.func17 (by kernel_rfl) rfl

theorem Bd18 : Bodied Try.prog 18 := bodied Try.func18 (by kernel_rfl) rfl

def k_laws_FnExactGeneratedRelation (M : Nat → Prop) (w0 : World) (r : Bool) (a : Act) (w : World) : Prop :=
  ∃ (σ : Nat → Value) , a = fr 119 (ovl σ [(4, (.bool r))]) ∧ Chg [] w0 w
def s_laws_FnExactGeneratedRelation (aA : Int × (List (Int × (List Int)))) (aR : Int × (List (List Int))) : Option (Bool) :=
  (s_laws_szAlgebra (aA.1, aA.2) 1048576).bind fun r6 =>
  (bif (decide (r6 < 0)) then some true else (s_laws_szRelation (aR.1, aR.2) r6).bind fun r9 =>
  (bif (decide (r9 < 0)) then some true else (s_laws_toAlgebra (aA.1, aA.2)).bind fun r13 =>
  (s_laws_toRelation (aR.1, aR.2)).bind fun r16 =>
  (s_spec_GeneratedRelation (r13.1, r13.2) (r16.1, r16.2)).bind fun r21 =>
  (s_laws_toAlgebra (aA.1, aA.2)).bind fun r102 =>
  (s_laws_toRelation (aR.1, aR.2)).bind fun r107 =>
  (s_impl_GeneratedRelation (r102.1, r102.2) (r107.1, r107.2)).bind fun r112 =>
  ((s_laws_eqRelation (r112.1.1, r112.1.2) (r21.1.1, r21.1.2)).bind fun r120 =>
  (bif (!r120) then some true else some (!(r112.2 == r21.2)))).bind fun s116 =>
  (bif s116 then some false else (s_laws_toAlgebra (aA.1, aA.2)).bind fun r131 =>
  (s_laws_eqAlgebra (r102.1, r102.2) (r131.1, r131.2)).bind fun r134 =>
  (bif (!r134) then some false else (s_laws_toRelation (aR.1, aR.2)).bind fun r144 =>
  (s_laws_eqRelation (r107.1, r107.2) (r144.1, r144.2)).bind fun r147 =>
  (bif (!r147) then some false else (s_laws_markAlgebra (r102.1, r102.2) 1).bind fun r150 =>
  (s_laws_markRelation (r107.1, r107.2) r150.1).bind fun r152 =>
  ((bif (decide (r152.1 < 0)) then some true else (s_laws_eqRelation (r112.1.1, r112.1.2) (r21.1.1, r21.1.2)).bind fun r158 =>
  (bif (!r158) then some true else some (!(r112.2 == r21.2))))).bind fun s153 =>
  (bif s153 then some false else (s_laws_markRelation (r112.1.1, r112.1.2) 1).bind fun r162 =>
  (s_laws_heldRelation (r112.1.1, r162.2) 1).bind fun r164 =>
  (bif (decide (r164 < 0)) then some false else (bif (r164 != r162.1) then some false else (s_laws_toAlgebra (aA.1, aA.2)).bind fun r169 =>
  (s_laws_toRelation (aR.1, aR.2)).bind fun r172 =>
  (s_impl_GeneratedRelation (r169.1, r169.2) (r172.1, r172.2)).bind fun r175 =>
  ((s_laws_eqRelation (r175.1.1, r175.1.2) (r21.1.1, r21.1.2)).bind fun r243 =>
  (bif (!r243) then some true else some (!(r175.2 == r21.2)))).bind fun s239 =>
  (bif s239 then some false else (s_laws_heldRelation (r112.1.1, r162.2) 1).bind fun r247 =>
  (bif (decide (r247 < 0)) then some false else (bif (r247 != r162.1) then some false else some true)))))))))))
set_option maxHeartbeats 4000000 in
theorem c_laws_FnExactGeneratedRelation {M : Nat → Prop} {w : World} {pa0 : Option Addr} {pn0 pc0 : Nat} {pa1 : Option Addr} {pn1 pc1 : Nat} (aA : Int × (List (Int × (List Int)))) (aR : Int × (List (List Int))) (h0 : (RT.rs (RT.pr (RT.int .i64) (RT.rs (RT.int .i64)))).val M w (.slice pa0 pn0 pc0) aA.2 ([])) (h1 : (RT.rs (RT.rs (RT.int .i64))).val M w (.slice pa1 pn1 pc1) aR.2 ([])) (hM : ∀ g, w.heap.size ≤ g → M g) {r : Bool} (hs : s_laws_FnExactGeneratedRelation aA aR = some r) :
    Gives Try.prog 3 [(.agg #[(.int .i64 aA.1), (.slice pa0 pn0 pc0)]), (.agg #[(.int .i64 aR.1), (.slice pa1 pn1 pc1)])] w (fun v w' => v = (.bool r) ∧ Chg [] w w') := by
 refine calls_fr Try.func3 rfl Try.ntmps3 (Nat.le_of_ble_eq_true rfl) ?_
 have hO := Own.start (N := Nw w []) hM Nw.fut
 have hC := Chg.refl [] w
 unfold s_laws_FnExactGeneratedRelation at hs
 refine wp_mono (Q := KPost (k_laws_FnExactGeneratedRelation M w r)) ?_ (fun e a Q9 h => ?_)
 rotate_left
 ·cases e
  case ret =>
   obtain ⟨σ, rfl, hrest⟩ := h
   exact ret1x Try.results3 (res_tmp rfl) ⟨rfl, hrest⟩
  all_goals exact (h : False).elim
 refine c_sr ?_
 obtain ⟨y9, a9, F0, z0, s1, a0⟩ := new_block w [(.int .i64 aA.1), (.slice pa0 pn0 pc0)] 24
 refine pl_val (w' := y9) (.pointer (some ⟨a9, 0, none⟩)) (y_box rfl (by rw [F0, z0]; kernel_rfl)) ?_
 have h0 := h0.ext s1
 have h1 := h1.ext s1
 have hC := hC.ext s1
 have hO := hO.new1 s1 z0 a0.lt
 obtain ⟨F1, b0, F2, z1, p7, a1⟩ := new_block y9 [(.int .i64 aR.1), (.slice pa1 pn1 pc1)] 27
 refine pl_val (w' := F1) (.pointer (some ⟨b0, 0, none⟩)) (y_box rfl (by rw [F2, z1]; kernel_rfl)) ?_
 have h0 := h0.ext p7
 have h1 := h1.ext p7
 have a0 := a0.cn p7
 have hC := hC.ext p7
 have hO := hO.new1 p7 z1 a1.lt
 refine pl_val (.bool false) (y_assign rfl) ?_
 refine c_nil ?_
 refine c_sr ?_
 refine pl_val (.int .i64 1048576) (y_assign rfl) ?_
 refine c_nil ?_
 refine c_sr ?_
 refine pl_val (.agg #[(.int .i64 aA.1), (.slice pa0 pn0 pc0)]) (y_load rfl ((box_load Ag24 Sz24 a0 [] [(.int .i64 aA.1), (.slice pa0 pn0 pc0)] [] rfl rfl (fun h => nomatch h)) _ (Chg.refl _ _))) ?_
 refine pl_val (.int .i64 1048576) (y_move rfl) ?_
 obtain ⟨r6, F3, hs⟩ := bind_some hs
 refine pl_call Bd8 rfl (c_laws_szAlgebra (M := M) (aA.1, aA.2) 1048576 h0 hO.fut F3) ?_
 rintro _ R0 ⟨rfl, m9⟩
 have h0 := h0.ext m9
 have h1 := h1.ext m9
 have a0 := a0.cn m9
 have a1 := a1.cn m9
 have hC := hC.ext m9
 have hO := hO.ext m9
 refine pl_val (.int .i64 r6) (y_assign rfl) ?_
 refine c_nil ?_
 refine c_seq ?_
 refine c_sr ?_
 refine pl_val (.int .i64 r6) (y_move rfl) ?_
 refine pl_val (.bool (decide (r6 < 0))) (y_lss rfl rfl) ?_
 refine c_nil ?_
 rcases bif_some hs with ⟨u2, hs⟩ | ⟨u2, hs⟩
 ·refine c_condT (congrArg Value.bool u2) ?_
  refine c_sr ?_
  refine pl_val (.bool true) (y_assign rfl) ?_
  refine c_nil ?_
  refine wp_ret ?_
  cases hs
  exact ⟨_, fr_ovl 119 ⟨rfl, trivial⟩, hC⟩
 refine c_condF (congrArg Value.bool u2) ?_
 refine wp_skip ?_
 refine c_sr ?_
 refine pl_val (.agg #[(.int .i64 aR.1), (.slice pa1 pn1 pc1)]) (y_load rfl ((box_load Ag27 Sz27 a1 [] [(.int .i64 aR.1), (.slice pa1 pn1 pc1)] [] rfl rfl (fun h => nomatch h)) _ (Chg.refl _ _))) ?_
 refine pl_val (.int .i64 r6) (y_move rfl) ?_
 obtain ⟨r9, F4, hs⟩ := bind_some hs
 refine pl_call Bd9 rfl (c_laws_szRelation (M := M) (aR.1, aR.2) r6 h1 hO.fut F4) ?_
 rintro _ z2 ⟨rfl, n0⟩
 have h0 := h0.ext n0
 have h1 := h1.ext n0
 have a0 := a0.cn n0
 have a1 := a1.cn n0
 have hC := hC.ext n0
 have hO := hO.ext n0
 refine pl_val (.int .i64 r9) (y_assign rfl) ?_
 refine c_nil ?_
 refine c_seq ?_
 refine c_sr ?_
 refine pl_val (.int .i64 r9) (y_move rfl) ?_
 refine pl_val (.bool (decide (r9 < 0))) (y_lss rfl rfl) ?_
 refine c_nil ?_
 rcases bif_some hs with ⟨u3, hs⟩ | ⟨u3, hs⟩
 ·refine c_condT (congrArg Value.bool u3) ?_
  refine c_sr ?_
  refine pl_val (.bool true) (y_assign rfl) ?_
  refine c_nil ?_
  refine wp_ret ?_
  cases hs
  exact ⟨_, fr_ovl 119 ⟨rfl, trivial⟩, hC⟩
 refine c_condF (congrArg Value.bool u3) ?_
 refine wp_skip ?_
 refine c_seq ?_
 obtain ⟨r13, z3, hs⟩ := bind_some hs
 obtain ⟨r16, u4, hs⟩ := bind_some hs
 obtain ⟨r21, s2, hs⟩ := bind_some hs
 refine c_mid (I := fun a i3 => ∃ (σ : Nat → Value) (a6 : Nat → Prop) (f4 : Option Addr) (f5 : Nat) (b2 : Nat) (f6 : Nat), a = fr 119 (ovl σ [(2, (.pointer (some ⟨a9, 0, none⟩))), (3, (.pointer (some ⟨b0, 0, none⟩))), (4, (.bool false)), (6, (.pointer (some ⟨b2, 0, none⟩))), (7, (.bool r21.2))]) ∧ Chg [] w i3 ∧ Own (Nw w []) a6 i3 (([b2]) ++ (([b0]) ++ (([a9]) ++ []))) ∧ Keeps w M a6 ∧ (RT.rs (RT.pr (RT.int .i64) (RT.rs (RT.int .i64)))).val a6 i3 (.slice pa0 pn0 pc0) aA.2 ([]) ∧ (RT.rs (RT.rs (RT.int .i64))).val a6 i3 (.slice pa1 pn1 pc1) aR.2 ([]) ∧ BoxV i3 a9 24 [(.int .i64 aA.1), (.slice pa0 pn0 pc0)] ∧ BoxV i3 b0 27 [(.int .i64 aR.1), (.slice pa1 pn1 pc1)] ∧ (RT.rs (RT.rs (RT.int .i64))).val a6 i3 (.slice f4 f6 f5) r21.1.2 ([]) ∧ BoxV i3 b2 30 [(.int .i64 r21.1.1), (.slice f4 f6 f5)]) ?_ ?_
 ·skip
  refine x_start [4, 9] Mx rfl ?_
  have m1 := Chg.drew z2
  generalize World.drew z2 = z4 at m1 ⊢
  have h0 := h0.ext m1
  have h1 := h1.ext m1
  have a0 := a0.cn m1
  have a1 := a1.cn m1
  have hC := hC.ext m1
  have hO := hO.ext m1
  have hS := Chg.refl [] z4
  refine x_l 0 (.agg #[(.int .i64 aA.1), (.slice pa0 pn0 pc0)]) rfl (by kernel_rfl)  (fun w' hw' => y_load rfl ((box_load Ag24 Sz24 a0 [] [(.int .i64 aA.1), (.slice pa0 pn0 pc0)] [] rfl rfl (fun h => nomatch h)) w' hw')) hS ?_
  refine x_l 2 (.agg #[(.int .i64 aR.1), (.slice pa1 pn1 pc1)]) rfl (by kernel_rfl)  (fun w' hw' => y_load rfl ((box_load Ag27 Sz27 a1 [] [(.int .i64 aR.1), (.slice pa1 pn1 pc1)] [] rfl rfl (fun h => nomatch h)) w' hw')) hS ?_
  refine x_two (i := 1) (j := 8) (by kernel_rfl) ?_ ?_
  ·skip
   refine xk_call (b := false) rfl  Bd11 rfl (c_laws_toAlgebra (M := M) (aA.1, aA.2) h0 hO.fut z3) rfl (by rintro _ _ _ ⟨F5, F6, F7, s3, rfl, i4, f0, z5⟩; exact hS.ext i4) ?_
   rintro _ F8 ⟨F5, F6, F7, s3, rfl, i4, f0, z5⟩
   have h0 := h0.ext i4
   have h1 := h1.ext i4
   have a0 := a0.cn i4
   have a1 := a1.cn i4
   have hC := hC.ext i4
   have hO := Own.join0 hO i4 z5
   have hO := hO.perm (R := s3 ++ (([b0]) ++ (([a9]) ++ ([])))) (by simp)
   have hS := hS.ext i4
   refine x_two (i := 3) (j := 8) (by kernel_rfl) ?_ ?_
   ·skip
    refine xk_call (b := false) rfl  Bd12 rfl (c_laws_toRelation (M := M) (aR.1, aR.2) h1 hO.fut u4) rfl (by rintro _ _ _ ⟨F9, G0, G1, z6, rfl, h4, i5, z7⟩; exact hS.ext h4) ?_
    rintro _ m2 ⟨F9, G0, G1, z6, rfl, h4, i5, z7⟩
    have h0 := h0.ext h4
    have h1 := h1.ext h4
    have a0 := a0.cn h4
    have a1 := a1.cn h4
    have f0 := f0.ext h4
    have hC := hC.ext h4
    have hO := Own.join0 hO h4 z7
    have hO := hO.perm (R := z6 ++ (s3 ++ (([b0]) ++ (([a9]) ++ ([]))))) (by simp)
    have hS := hS.ext h4
    refine x_two (i := 4) (j := 8) (by kernel_rfl) ?_ ?_
    ·skip
     have hO := hO.fr1
     obtain ⟨u5, R1, u6, G2, hO, f7⟩ := frz_own (Frz.os (Frz.pr Frz.int (Frz.os Frz.int))) f0 hO
     have h0 := h0.sub (M' := u5) u6
     have h1 := h1.sub (M' := u5) u6
     have i5 := i5.sub (M' := u5) u6
     have hK := G2
     obtain ⟨f8, R2, u7, G3, hO, i6⟩ := frz_own (Frz.os (Frz.os Frz.int)) i5 hO
     have h0 := h0.sub (M' := f8) u7
     have h1 := h1.sub (M' := f8) u7
     have f7 := f7.sub (M' := f8) u7
     have hK := hK.trans G3
     refine xk_call (b := true) rfl  Bd10 rfl (c_spec_GeneratedRelation (M := f8) (r13.1, r13.2) (r16.1, r16.2) f7 i6 hO.fut s2) rfl (fun h => nomatch h) ?_
     rintro _ m3 ⟨p8, p9, q0, rfl, k8, q1⟩
     have hK := hK.trans (show Keeps w f8 (Past f8 m2 m3) from Keeps.past hC.size)
     have h0 := h0.ext k8
     have h1 := h1.ext k8
     have a0 := a0.cn k8
     have a1 := a1.cn k8
     have f7 := f7.ext k8
     have i6 := i6.ext k8
     have hC := hC.ext k8
     have hO := hO.past k8
     have h0 := h0.sub (M' := (Past f8 m2 m3)) (fun g hg => .inl hg.1)
     have h1 := h1.sub (M' := (Past f8 m2 m3)) (fun g hg => .inl hg.1)
     have f7 := f7.sub (M' := (Past f8 m2 m3)) (fun g hg => .inl hg.1)
     have i6 := i6.sub (M' := (Past f8 m2 m3)) (fun g hg => .inl hg.1)
     refine x_p 5 (.tuple #[(.agg #[(.int .i64 r21.1.1), (.slice p8 p9 q0)]), (.bool r21.2)]) rfl (by kernel_rfl)  (fun _ => y_move rfl) (fun h => nomatch h) ?_
     refine x_p 6 (.agg #[(.int .i64 r21.1.1), (.slice p8 p9 q0)]) rfl (by kernel_rfl)  (fun _ => y_extract rfl (by kernel_rfl)) (fun h => nomatch h) ?_
     refine x_p 7 (.bool r21.2) rfl (by kernel_rfl)  (fun _ => y_extract rfl (by kernel_rfl)) (fun h => nomatch h) ?_
     refine x_one (i := 8) (by kernel_rfl) ?_
     obtain ⟨G4, u9, G5, z8, i7, z9⟩ := new_block m3 [(.int .i64 0), (.slice none 0 0)] 30
     refine xk_val (w' := G4) (b := true) (.pointer (some ⟨u9, 0, none⟩)) rfl  (y_alloc (by rw [G5, z8]; kernel_rfl)) rfl (fun h => nomatch h) ?_
     have h0 := h0.ext i7
     have h1 := h1.ext i7
     have a0 := a0.cn i7
     have a1 := a1.cn i7
     have f7 := f7.ext i7
     have i6 := i6.ext i7
     have q1 := q1.ext i7
     have hC := hC.ext i7
     have hO := hO.new1 i7 z8 z9.lt
     refine x_one (i := 9) (by kernel_rfl) ?_
     obtain ⟨A0, G6, i9, v0⟩ := box_store (P := Try.prog) z9 [] [(.int .i64 0), (.slice none 0 0)] [] [(.int .i64 r21.1.1), (.slice p8 p9 q0)] rfl rfl (by intro u hu; simp only [List.mem_cons, List.not_mem_nil, or_false] at hu; rcases hu with rfl | rfl <;> rfl)
     refine xk_skip (w' := A0) (b := true) rfl (ys_store rfl rfl (G6 _ _ rfl Sz30)) rfl (fun h => nomatch h) ?_
     have h0 := h0.mt i9 hO same_
     have h1 := h1.mt i9 hO same_
     have a0 := a0.ap i9 hO same_ (mem_r (mem_l (List.mem_singleton.2 rfl)))
     have a1 := a1.ap i9 hO same_ (mem_l (List.mem_singleton.2 rfl))
     have f7 := f7.mt i9 hO same_
     have i6 := i6.mt i9 hO same_
     have q1 := q1.mt i9 hO same_
     have hC := hC.st i9 hO same_
     have hO := hO.ext i9
     have v0 : BoxV A0 u9 30 [(.int .i64 r21.1.1), (.slice p8 p9 q0)] := v0
     refine x_p 10 (.bool r21.2) rfl (by kernel_rfl)  (fun _ => y_assign rfl) (fun h => nomatch h) ?_
     refine x_end (by kernel_rfl) ?_
     clear hS
     have hO := hO.fr2
     have hO := hO.fr2
     have hO := hO.fr2
     exact ⟨_, (Past f8 m2 m3), p8, q0, u9, p9, fr_ovl 119 ⟨rfl, rfl, rfl, rfl, rfl, trivial⟩, hC, hO, hK, h0, h1, a0, a1, q1, v0⟩
    ·skip
     obtain ⟨m4, v1, G7, A1, h5, s4⟩ := new_block m2 [(.int .i64 0), (.slice none 0 0)] 30
     refine xk_val (w' := m4) (b := false) (.pointer (some ⟨v1, 0, none⟩)) rfl  (y_alloc (by rw [G7, A1]; kernel_rfl)) rfl (fun _ => hS.ext h5) ?_
     have h0 := h0.ext h5
     have h1 := h1.ext h5
     have a0 := a0.cn h5
     have a1 := a1.cn h5
     have f0 := f0.ext h5
     have i5 := i5.ext h5
     have hC := hC.ext h5
     have hO := hO.new1 h5 A1 s4.lt
     have hS := hS.ext h5
     refine x_one (i := 4) (by kernel_rfl) ?_
     have hO := hO.fr2
     obtain ⟨v2, R3, v3, G8, hO, j0⟩ := frz_own (Frz.os (Frz.pr Frz.int (Frz.os Frz.int))) f0 hO
     have h0 := h0.sub (M' := v2) v3
     have h1 := h1.sub (M' := v2) v3
     have i5 := i5.sub (M' := v2) v3
     have hK := G8
     have hO := hO.fr1
     obtain ⟨f9, R4, v4, G9, hO, m5⟩ := frz_own (Frz.os (Frz.os Frz.int)) i5 hO
     have h0 := h0.sub (M' := f9) v4
     have h1 := h1.sub (M' := f9) v4
     have j0 := j0.sub (M' := f9) v4
     have hK := hK.trans G9
     refine xk_call (b := true) rfl  Bd10 rfl (c_spec_GeneratedRelation (M := f9) (r13.1, r13.2) (r16.1, r16.2) j0 m5 hO.fut s2) rfl (fun h => nomatch h) ?_
     rintro _ n1 ⟨q2, q3, q4, rfl, j1, v5⟩
     have hK := hK.trans (show Keeps w f9 (Past f9 m4 n1) from Keeps.past hC.size)
     have h0 := h0.ext j1
     have h1 := h1.ext j1
     have a0 := a0.cn j1
     have a1 := a1.cn j1
     have j0 := j0.ext j1
     have m5 := m5.ext j1
     have s4 := s4.cn j1
     have hC := hC.ext j1
     have hO := hO.past j1
     have h0 := h0.sub (M' := (Past f9 m4 n1)) (fun g hg => .inl hg.1)
     have h1 := h1.sub (M' := (Past f9 m4 n1)) (fun g hg => .inl hg.1)
     have j0 := j0.sub (M' := (Past f9 m4 n1)) (fun g hg => .inl hg.1)
     have m5 := m5.sub (M' := (Past f9 m4 n1)) (fun g hg => .inl hg.1)
     refine x_p 5 (.tuple #[(.agg #[(.int .i64 r21.1.1), (.slice q2 q3 q4)]), (.bool r21.2)]) rfl (by kernel_rfl)  (fun _ => y_move rfl) (fun h => nomatch h) ?_
     refine x_p 6 (.agg #[(.int .i64 r21.1.1), (.slice q2 q3 q4)]) rfl (by kernel_rfl)  (fun _ => y_extract rfl (by kernel_rfl)) (fun h => nomatch h) ?_
     refine x_p 7 (.bool r21.2) rfl (by kernel_rfl)  (fun _ => y_extract rfl (by kernel_rfl)) (fun h => nomatch h) ?_
     refine x_one (i := 9) (by kernel_rfl) ?_
     obtain ⟨A2, H0, j2, v6⟩ := box_store (P := Try.prog) s4 [] [(.int .i64 0), (.slice none 0 0)] [] [(.int .i64 r21.1.1), (.slice q2 q3 q4)] rfl rfl (by intro u hu; simp only [List.mem_cons, List.not_mem_nil, or_false] at hu; rcases hu with rfl | rfl <;> rfl)
     refine xk_skip (w' := A2) (b := true) rfl (ys_store rfl rfl (H0 _ _ rfl Sz30)) rfl (fun h => nomatch h) ?_
     have h0 := h0.mt j2 hO same_
     have h1 := h1.mt j2 hO same_
     have a0 := a0.ap j2 hO same_ (mem_r (mem_l (List.mem_singleton.2 rfl)))
     have a1 := a1.ap j2 hO same_ (mem_l (List.mem_singleton.2 rfl))
     have j0 := j0.mt j2 hO same_
     have m5 := m5.mt j2 hO same_
     have v5 := v5.mt j2 hO same_
     have hC := hC.st j2 hO same_
     have hO := hO.ext j2
     have v6 : BoxV A2 v1 30 [(.int .i64 r21.1.1), (.slice q2 q3 q4)] := v6
     refine x_p 10 (.bool r21.2) rfl (by kernel_rfl)  (fun _ => y_assign rfl) (fun h => nomatch h) ?_
     refine x_end (by kernel_rfl) ?_
     clear hS
     have hO := hO.fr2
     have hO := hO.fr2
     have hO := hO.fr2
     exact ⟨_, (Past f9 m4 n1), q2, q4, v1, q3, fr_ovl 119 ⟨rfl, rfl, rfl, rfl, rfl, trivial⟩, hC, hO, hK, h0, h1, a0, a1, v5, v6⟩
   ·skip
    obtain ⟨H1, s5, H2, A3, j3, n2⟩ := new_block F8 [(.int .i64 0), (.slice none 0 0)] 30
    refine xk_val (w' := H1) (b := false) (.pointer (some ⟨s5, 0, none⟩)) rfl  (y_alloc (by rw [H2, A3]; kernel_rfl)) rfl (fun _ => hS.ext j3) ?_
    have h0 := h0.ext j3
    have h1 := h1.ext j3
    have a0 := a0.cn j3
    have a1 := a1.cn j3
    have f0 := f0.ext j3
    have hC := hC.ext j3
    have hO := hO.new1 j3 A3 n2.lt
    have hS := hS.ext j3
    refine x_one (i := 3) (by kernel_rfl) ?_
    refine xk_call (b := false) rfl  Bd12 rfl (c_laws_toRelation (M := M) (aR.1, aR.2) h1 hO.fut u4) rfl (by rintro _ _ _ ⟨H3, H4, H5, A4, rfl, g0, s6, A5⟩; exact hS.ext g0) ?_
    rintro _ n3 ⟨H3, H4, H5, A4, rfl, g0, s6, A5⟩
    have h0 := h0.ext g0
    have h1 := h1.ext g0
    have a0 := a0.cn g0
    have a1 := a1.cn g0
    have f0 := f0.ext g0
    have n2 := n2.cn g0
    have hC := hC.ext g0
    have hO := Own.join0 hO g0 A5
    have hO := hO.perm (R := A4 ++ (([s5]) ++ (s3 ++ (([b0]) ++ (([a9]) ++ ([])))))) (by simp)
    have hS := hS.ext g0
    refine x_one (i := 4) (by kernel_rfl) ?_
    have hO := hO.fr2
    obtain ⟨v7, R5, v8, H6, hO, j4⟩ := frz_own (Frz.os (Frz.pr Frz.int (Frz.os Frz.int))) f0 hO
    have h0 := h0.sub (M' := v7) v8
    have h1 := h1.sub (M' := v7) v8
    have s6 := s6.sub (M' := v7) v8
    have hK := H6
    obtain ⟨g1, R6, v9, H7, hO, m6⟩ := frz_own (Frz.os (Frz.os Frz.int)) s6 hO
    have h0 := h0.sub (M' := g1) v9
    have h1 := h1.sub (M' := g1) v9
    have j4 := j4.sub (M' := g1) v9
    have hK := hK.trans H7
    refine xk_call (b := true) rfl  Bd10 rfl (c_spec_GeneratedRelation (M := g1) (r13.1, r13.2) (r16.1, r16.2) j4 m6 hO.fut s2) rfl (fun h => nomatch h) ?_
    rintro _ n4 ⟨q5, q6, q7, rfl, j5, w1⟩
    have hK := hK.trans (show Keeps w g1 (Past g1 n3 n4) from Keeps.past hC.size)
    have h0 := h0.ext j5
    have h1 := h1.ext j5
    have a0 := a0.cn j5
    have a1 := a1.cn j5
    have j4 := j4.ext j5
    have n2 := n2.cn j5
    have m6 := m6.ext j5
    have hC := hC.ext j5
    have hO := hO.past j5
    have h0 := h0.sub (M' := (Past g1 n3 n4)) (fun g hg => .inl hg.1)
    have h1 := h1.sub (M' := (Past g1 n3 n4)) (fun g hg => .inl hg.1)
    have j4 := j4.sub (M' := (Past g1 n3 n4)) (fun g hg => .inl hg.1)
    have m6 := m6.sub (M' := (Past g1 n3 n4)) (fun g hg => .inl hg.1)
    refine x_p 5 (.tuple #[(.agg #[(.int .i64 r21.1.1), (.slice q5 q6 q7)]), (.bool r21.2)]) rfl (by kernel_rfl)  (fun _ => y_move rfl) (fun h => nomatch h) ?_
    refine x_p 6 (.agg #[(.int .i64 r21.1.1), (.slice q5 q6 q7)]) rfl (by kernel_rfl)  (fun _ => y_extract rfl (by kernel_rfl)) (fun h => nomatch h) ?_
    refine x_p 7 (.bool r21.2) rfl (by kernel_rfl)  (fun _ => y_extract rfl (by kernel_rfl)) (fun h => nomatch h) ?_
    refine x_one (i := 9) (by kernel_rfl) ?_
    obtain ⟨A6, H8, j6, w2⟩ := box_store (P := Try.prog) n2 [] [(.int .i64 0), (.slice none 0 0)] [] [(.int .i64 r21.1.1), (.slice q5 q6 q7)] rfl rfl (by intro u hu; simp only [List.mem_cons, List.not_mem_nil, or_false] at hu; rcases hu with rfl | rfl <;> rfl)
    refine xk_skip (w' := A6) (b := true) rfl (ys_store rfl rfl (H8 _ _ rfl Sz30)) rfl (fun h => nomatch h) ?_
    have h0 := h0.mt j6 hO same_
    have h1 := h1.mt j6 hO same_
    have a0 := a0.ap j6 hO same_ (mem_r (mem_l (List.mem_singleton.2 rfl)))
    have a1 := a1.ap j6 hO same_ (mem_l (List.mem_singleton.2 rfl))
    have j4 := j4.mt j6 hO same_
    have m6 := m6.mt j6 hO same_
    have w1 := w1.mt j6 hO same_
    have hC := hC.st j6 hO same_
    have hO := hO.ext j6
    have w2 : BoxV A6 s5 30 [(.int .i64 r21.1.1), (.slice q5 q6 q7)] := w2
    refine x_p 10 (.bool r21.2) rfl (by kernel_rfl)  (fun _ => y_assign rfl) (fun h => nomatch h) ?_
    refine x_end (by kernel_rfl) ?_
    clear hS
    have hO := hO.fr2
    have hO := hO.fr2
    have hO := hO.fr2
    exact ⟨_, (Past g1 n3 n4), q5, q7, s5, q6, fr_ovl 119 ⟨rfl, rfl, rfl, rfl, rfl, trivial⟩, hC, hO, hK, h0, h1, a0, a1, w1, w2⟩
  ·skip
   obtain ⟨H9, q8, I0, A7, k9, l0⟩ := new_block z4 [(.int .i64 0), (.slice none 0 0)] 30
   refine xk_val (w' := H9) (b := false) (.pointer (some ⟨q8, 0, none⟩)) rfl  (y_alloc (by rw [I0, A7]; kernel_rfl)) rfl (fun _ => hS.ext k9) ?_
   have h0 := h0.ext k9
   have h1 := h1.ext k9
   have a0 := a0.cn k9
   have a1 := a1.cn k9
   have hC := hC.ext k9
   have hO := hO.new1 k9 A7 l0.lt
   have hS := hS.ext k9
   refine x_one (i := 1) (by kernel_rfl) ?_
   refine xk_call (b := false) rfl  Bd11 rfl (c_laws_toAlgebra (M := M) (aA.1, aA.2) h0 hO.fut z3) rfl (by rintro _ _ _ ⟨I1, I2, I3, w3, rfl, h6, s7, A8⟩; exact hS.ext h6) ?_
   rintro _ R7 ⟨I1, I2, I3, w3, rfl, h6, s7, A8⟩
   have h0 := h0.ext h6
   have h1 := h1.ext h6
   have a0 := a0.cn h6
   have a1 := a1.cn h6
   have l0 := l0.cn h6
   have hC := hC.ext h6
   have hO := Own.join0 hO h6 A8
   have hO := hO.perm (R := w3 ++ (([q8]) ++ (([b0]) ++ (([a9]) ++ ([]))))) (by simp)
   have hS := hS.ext h6
   refine x_one (i := 3) (by kernel_rfl) ?_
   refine xk_call (b := false) rfl  Bd12 rfl (c_laws_toRelation (M := M) (aR.1, aR.2) h1 hO.fut u4) rfl (by rintro _ _ _ ⟨I4, I5, I6, A9, rfl, g2, s8, B0⟩; exact hS.ext g2) ?_
   rintro _ n5 ⟨I4, I5, I6, A9, rfl, g2, s8, B0⟩
   have h0 := h0.ext g2
   have h1 := h1.ext g2
   have a0 := a0.cn g2
   have a1 := a1.cn g2
   have l0 := l0.cn g2
   have s7 := s7.ext g2
   have hC := hC.ext g2
   have hO := Own.join0 hO g2 B0
   have hO := hO.perm (R := A9 ++ (w3 ++ (([q8]) ++ (([b0]) ++ (([a9]) ++ ([])))))) (by simp)
   have hS := hS.ext g2
   refine x_one (i := 4) (by kernel_rfl) ?_
   have hO := hO.fr1
   obtain ⟨w4, R8, w5, I7, hO, j7⟩ := frz_own (Frz.os (Frz.pr Frz.int (Frz.os Frz.int))) s7 hO
   have h0 := h0.sub (M' := w4) w5
   have h1 := h1.sub (M' := w4) w5
   have s8 := s8.sub (M' := w4) w5
   have hK := I7
   obtain ⟨g3, R9, w6, I8, hO, m7⟩ := frz_own (Frz.os (Frz.os Frz.int)) s8 hO
   have h0 := h0.sub (M' := g3) w6
   have h1 := h1.sub (M' := g3) w6
   have j7 := j7.sub (M' := g3) w6
   have hK := hK.trans I8
   refine xk_call (b := true) rfl  Bd10 rfl (c_spec_GeneratedRelation (M := g3) (r13.1, r13.2) (r16.1, r16.2) j7 m7 hO.fut s2) rfl (fun h => nomatch h) ?_
   rintro _ n6 ⟨q9, r0, r1, rfl, j8, w7⟩
   have hK := hK.trans (show Keeps w g3 (Past g3 n5 n6) from Keeps.past hC.size)
   have h0 := h0.ext j8
   have h1 := h1.ext j8
   have a0 := a0.cn j8
   have a1 := a1.cn j8
   have l0 := l0.cn j8
   have j7 := j7.ext j8
   have m7 := m7.ext j8
   have hC := hC.ext j8
   have hO := hO.past j8
   have h0 := h0.sub (M' := (Past g3 n5 n6)) (fun g hg => .inl hg.1)
   have h1 := h1.sub (M' := (Past g3 n5 n6)) (fun g hg => .inl hg.1)
   have j7 := j7.sub (M' := (Past g3 n5 n6)) (fun g hg => .inl hg.1)
   have m7 := m7.sub (M' := (Past g3 n5 n6)) (fun g hg => .inl hg.1)
   refine x_p 5 (.tuple #[(.agg #[(.int .i64 r21.1.1), (.slice q9 r0 r1)]), (.bool r21.2)]) rfl (by kernel_rfl)  (fun _ => y_move rfl) (fun h => nomatch h) ?_
   refine x_p 6 (.agg #[(.int .i64 r21.1.1), (.slice q9 r0 r1)]) rfl (by kernel_rfl)  (fun _ => y_extract rfl (by kernel_rfl)) (fun h => nomatch h) ?_
   refine x_p 7 (.bool r21.2) rfl (by kernel_rfl)  (fun _ => y_extract rfl (by kernel_rfl)) (fun h => nomatch h) ?_
   refine x_one (i := 9) (by kernel_rfl) ?_
   obtain ⟨B1, I9, j9, w8⟩ := box_store (P := Try.prog) l0 [] [(.int .i64 0), (.slice none 0 0)] [] [(.int .i64 r21.1.1), (.slice q9 r0 r1)] rfl rfl (by intro u hu; simp only [List.mem_cons, List.not_mem_nil, or_false] at hu; rcases hu with rfl | rfl <;> rfl)
   refine xk_skip (w' := B1) (b := true) rfl (ys_store rfl rfl (I9 _ _ rfl Sz30)) rfl (fun h => nomatch h) ?_
   have h0 := h0.mt j9 hO same_
   have h1 := h1.mt j9 hO same_
   have a0 := a0.ap j9 hO same_ (mem_r (mem_l (List.mem_singleton.2 rfl)))
   have a1 := a1.ap j9 hO same_ (mem_l (List.mem_singleton.2 rfl))
   have j7 := j7.mt j9 hO same_
   have m7 := m7.mt j9 hO same_
   have w7 := w7.mt j9 hO same_
   have hC := hC.st j9 hO same_
   have hO := hO.ext j9
   have w8 : BoxV B1 q8 30 [(.int .i64 r21.1.1), (.slice q9 r0 r1)] := w8
   refine x_p 10 (.bool r21.2) rfl (by kernel_rfl)  (fun _ => y_assign rfl) (fun h => nomatch h) ?_
   refine x_end (by kernel_rfl) ?_
   clear hS
   have hO := hO.fr2
   have hO := hO.fr2
   have hO := hO.fr2
   exact ⟨_, (Past g3 n5 n6), q9, r1, q8, r0, fr_ovl 119 ⟨rfl, rfl, rfl, rfl, rfl, trivial⟩, hC, hO, hK, h0, h1, a0, a1, w7, w8⟩
 rintro s9 i3 ⟨σ, a6, f4, f5, b2, f6, rfl, hC, hO, hK, h0, h1, a0, a1, a3, a2⟩
 refine c_sr ?_
 refine pl_val (.agg #[(.int .i64 aA.1), (.slice pa0 pn0 pc0)]) (y_load rfl ((box_load Ag24 Sz24 a0 [] [(.int .i64 aA.1), (.slice pa0 pn0 pc0)] [] rfl rfl (fun h => nomatch h)) _ (Chg.refl _ _))) ?_
 obtain ⟨r102, J0, hs⟩ := bind_some hs
 refine pl_call Bd11 rfl (c_laws_toAlgebra (M := a6) (aA.1, aA.2) h0 hO.fut J0) ?_
 rintro _ J1 ⟨l1, l2, l3, k0, rfl, l4, a7, J2⟩
 have h0 := h0.ext l4
 have h1 := h1.ext l4
 have a0 := a0.cn l4
 have a1 := a1.cn l4
 have a3 := a3.ext l4
 have a2 := a2.cn l4
 have hC := hC.ext l4
 have hO := Own.join0 hO l4 J2
 have hO := hO.perm (R := k0 ++ (([b2]) ++ (([b0]) ++ (([a9]) ++ ([]))))) (by simp)
 obtain ⟨J3, h7, J4, B2, k1, B3⟩ := new_block J1 [(.int .i64 0), (.slice none 0 0)] 35
 refine pl_val (w' := J3) (.pointer (some ⟨h7, 0, none⟩)) (y_alloc (by rw [J4, B2]; kernel_rfl)) ?_
 have h0 := h0.ext k1
 have h1 := h1.ext k1
 have a0 := a0.cn k1
 have a1 := a1.cn k1
 have a3 := a3.ext k1
 have a2 := a2.cn k1
 have a7 := a7.ext k1
 have hC := hC.ext k1
 have hO := hO.new1 k1 B2 B3.lt
 obtain ⟨B4, J5, k2, a8⟩ := box_store (P := Try.prog) B3 [] [(.int .i64 0), (.slice none 0 0)] [] [(.int .i64 r102.1), (.slice l1 l2 l3)] rfl rfl (by intro u hu; simp only [List.mem_cons, List.not_mem_nil, or_false] at hu; rcases hu with rfl | rfl <;> rfl)
 refine pl_skip (w' := B4) (ys_store rfl rfl (J5 _ _ rfl Sz35)) ?_
 have h0 := h0.mt k2 hO same_
 have h1 := h1.mt k2 hO same_
 have a0 := a0.ap k2 hO same_ (mem_r (mem_r (mem_r (mem_l (List.mem_singleton.2 rfl)))))
 have a1 := a1.ap k2 hO same_ (mem_r (mem_r (mem_l (List.mem_singleton.2 rfl))))
 have a3 := a3.mt k2 hO same_
 have a2 := a2.ap k2 hO same_ (mem_r (mem_l (List.mem_singleton.2 rfl)))
 have a7 := a7.ma k2 hO same_ (fun _ e => (mem_l (e)))
 have hC := hC.st k2 hO same_
 have hO := hO.ext k2
 have a8 : BoxV B4 h7 35 [(.int .i64 r102.1), (.slice l1 l2 l3)] := a8
 refine c_nil ?_
 refine c_sr ?_
 refine pl_val (.agg #[(.int .i64 aR.1), (.slice pa1 pn1 pc1)]) (y_load rfl ((box_load Ag27 Sz27 a1 [] [(.int .i64 aR.1), (.slice pa1 pn1 pc1)] [] rfl rfl (fun h => nomatch h)) _ (Chg.refl _ _))) ?_
 obtain ⟨r107, J6, hs⟩ := bind_some hs
 refine pl_call Bd12 rfl (c_laws_toRelation (M := a6) (aR.1, aR.2) h1 hO.fut J6) ?_
 rintro _ J7 ⟨l5, l6, l7, g4, rfl, h8, b3, J8⟩
 have h0 := h0.ext h8
 have h1 := h1.ext h8
 have a0 := a0.cn h8
 have a1 := a1.cn h8
 have a3 := a3.ext h8
 have a2 := a2.cn h8
 have a7 := a7.ext h8
 have a8 := a8.cn h8
 have hC := hC.ext h8
 have hO := Own.join0 hO h8 J8
 have hO := hO.perm (R := g4 ++ (([h7]) ++ (k0 ++ (([b2]) ++ (([b0]) ++ (([a9]) ++ ([]))))))) (by simp)
 obtain ⟨J9, f1, K0, B5, g5, B6⟩ := new_block J7 [(.int .i64 0), (.slice none 0 0)] 30
 refine pl_val (w' := J9) (.pointer (some ⟨f1, 0, none⟩)) (y_alloc (by rw [K0, B5]; kernel_rfl)) ?_
 have h0 := h0.ext g5
 have h1 := h1.ext g5
 have a0 := a0.cn g5
 have a1 := a1.cn g5
 have a3 := a3.ext g5
 have a2 := a2.cn g5
 have a7 := a7.ext g5
 have a8 := a8.cn g5
 have b3 := b3.ext g5
 have hC := hC.ext g5
 have hO := hO.new1 g5 B5 B6.lt
 obtain ⟨B7, K1, g6, b4⟩ := box_store (P := Try.prog) B6 [] [(.int .i64 0), (.slice none 0 0)] [] [(.int .i64 r107.1), (.slice l5 l6 l7)] rfl rfl (by intro u hu; simp only [List.mem_cons, List.not_mem_nil, or_false] at hu; rcases hu with rfl | rfl <;> rfl)
 refine pl_skip (w' := B7) (ys_store rfl rfl (K1 _ _ rfl Sz30)) ?_
 have h0 := h0.mt g6 hO same_
 have h1 := h1.mt g6 hO same_
 have a0 := a0.ap g6 hO same_ (mem_r (mem_r (mem_r (mem_r (mem_r (mem_l (List.mem_singleton.2 rfl)))))))
 have a1 := a1.ap g6 hO same_ (mem_r (mem_r (mem_r (mem_r (mem_l (List.mem_singleton.2 rfl))))))
 have a3 := a3.mt g6 hO same_
 have a2 := a2.ap g6 hO same_ (mem_r (mem_r (mem_r (mem_l (List.mem_singleton.2 rfl)))))
 have a7 := a7.ma g6 hO same_ (fun _ e => (mem_r (mem_r (mem_l (e)))))
 have a8 := a8.ap g6 hO same_ (mem_r (mem_l (List.mem_singleton.2 rfl)))
 have b3 := b3.ma g6 hO same_ (fun _ e => (mem_l (e)))
 have hC := hC.st g6 hO same_
 have hO := hO.ext g6
 have b4 : BoxV B7 f1 30 [(.int .i64 r107.1), (.slice l5 l6 l7)] := b4
 refine c_nil ?_
 refine c_sr ?_
 refine pl_val (.agg #[(.int .i64 r102.1), (.slice l1 l2 l3)]) (y_load rfl ((box_load Ag35 Sz35 a8 [] [(.int .i64 r102.1), (.slice l1 l2 l3)] [] rfl rfl (fun h => nomatch h)) _ (Chg.refl _ _))) ?_
 refine pl_val (.agg #[(.int .i64 r107.1), (.slice l5 l6 l7)]) (y_load rfl ((box_load Ag30 Sz30 b4 [] [(.int .i64 r107.1), (.slice l5 l6 l7)] [] rfl rfl (fun h => nomatch h)) _ (Chg.refl _ _))) ?_
 have hO := hO.fr1
 have hO := hO.fr3
 obtain ⟨r112, K2, hs⟩ := bind_some hs
 refine pl_call Bd13 rfl (c_impl_GeneratedRelation (M := (Less (Less a6 k0) g4)) (r102.1, r102.2) (r107.1, r107.2) ((((Frz.os (Frz.pr Frz.int (Frz.os Frz.int)))).val a7 Less.sub Less.not).sub Less.sub) (((Frz.os (Frz.os Frz.int))).val (b3.sub Less.sub) Less.sub Less.not) (hO.less).less.fut K2) ?_
 rintro _ K3 ⟨c1, c2, c3, e0, rfl, f2, b1, K4⟩
 have h0 := h0.ext f2
 have h1 := h1.ext f2
 have a0 := a0.cn f2
 have a1 := a1.cn f2
 have a3 := a3.ext f2
 have a2 := a2.cn f2
 have a7 := a7.ext f2
 have a8 := a8.cn f2
 have b3 := b3.ext f2
 have b4 := b4.cn f2
 have hC := hC.ext f2
 have hO := Own.join0 hO f2 K4
 have hO := hO.perm (R := e0 ++ (k0 ++ (g4 ++ (([f1]) ++ (([h7]) ++ (([b2]) ++ (([b0]) ++ (([a9]) ++ ([]))))))))) (by simp)
 have b1 := b1.free (M' := a6) (Free.os (Free.os Free.int))
 refine pl_val (.tuple #[(.agg #[(.int .i64 r112.1.1), (.slice c1 c2 c3)]), (.bool r112.2)]) (y_move rfl) ?_
 refine pl_val (.agg #[(.int .i64 r112.1.1), (.slice c1 c2 c3)]) (y_extract rfl (by kernel_rfl)) ?_
 refine pl_val (.bool r112.2) (y_extract rfl (by kernel_rfl)) ?_
 obtain ⟨K5, b5, K6, B8, e1, B9⟩ := new_block K3 [(.int .i64 0), (.slice none 0 0)] 30
 refine pl_val (w' := K5) (.pointer (some ⟨b5, 0, none⟩)) (y_alloc (by rw [K6, B8]; kernel_rfl)) ?_
 have h0 := h0.ext e1
 have h1 := h1.ext e1
 have a0 := a0.cn e1
 have a1 := a1.cn e1
 have a3 := a3.ext e1
 have a2 := a2.cn e1
 have a7 := a7.ext e1
 have a8 := a8.cn e1
 have b3 := b3.ext e1
 have b4 := b4.cn e1
 have b1 := b1.ext e1
 have hC := hC.ext e1
 have hO := hO.new1 e1 B8 B9.lt
 obtain ⟨t0, K7, e2, a4⟩ := box_store (P := Try.prog) B9 [] [(.int .i64 0), (.slice none 0 0)] [] [(.int .i64 r112.1.1), (.slice c1 c2 c3)] rfl rfl (by intro u hu; simp only [List.mem_cons, List.not_mem_nil, or_false] at hu; rcases hu with rfl | rfl <;> rfl)
 refine pl_skip (w' := t0) (ys_store rfl rfl (K7 _ _ rfl Sz30)) ?_
 have h0 := h0.mt e2 hO same_
 have h1 := h1.mt e2 hO same_
 have a0 := a0.ap e2 hO same_ (mem_r (mem_r (mem_r (mem_r (mem_r (mem_r (mem_r (mem_l (List.mem_singleton.2 rfl)))))))))
 have a1 := a1.ap e2 hO same_ (mem_r (mem_r (mem_r (mem_r (mem_r (mem_r (mem_l (List.mem_singleton.2 rfl))))))))
 have a3 := a3.mt e2 hO same_
 have a2 := a2.ap e2 hO same_ (mem_r (mem_r (mem_r (mem_r (mem_r (mem_l (List.mem_singleton.2 rfl)))))))
 have a7 := a7.ma e2 hO same_ (fun _ e => (mem_r (mem_l (e))))
 have a8 := a8.ap e2 hO same_ (mem_r (mem_r (mem_r (mem_r (mem_l (List.mem_singleton.2 rfl))))))
 have b3 := b3.ma e2 hO same_ (fun _ e => (mem_r (mem_r (mem_l (e)))))
 have b4 := b4.ap e2 hO same_ (mem_r (mem_r (mem_r (mem_l (List.mem_singleton.2 rfl)))))
 have b1 := b1.ma e2 hO same_ (fun _ e => (mem_l (e)))
 have hC := hC.st e2 hO same_
 have hO := hO.ext e2
 have a4 : BoxV t0 b5 30 [(.int .i64 r112.1.1), (.slice c1 c2 c3)] := a4
 refine pl_val (.bool r112.2) (y_assign rfl) ?_
 refine c_nil ?_
 refine c_seq ?_
 refine c_seq ?_
 obtain ⟨s116, K8, hs⟩ := bind_some hs
 refine c_mid (I := fun a t1 => ∃ (σ : Nat → Value), a = fr 119 (ovl σ [(2, (.pointer (some ⟨a9, 0, none⟩))), (3, (.pointer (some ⟨b0, 0, none⟩))), (4, (.bool false)), (6, (.pointer (some ⟨b2, 0, none⟩))), (7, (.bool r21.2)), (8, (.pointer (some ⟨h7, 0, none⟩))), (9, (.pointer (some ⟨f1, 0, none⟩))), (10, (.pointer (some ⟨b5, 0, none⟩))), (11, (.bool r112.2)), (53, (.bool s116))]) ∧ Chg [] t0 t1) ?_ ?_
 ·replace hs := K8
  have hMid := Chg.refl [] t0
  refine c_region ?_
  refine pl_val (.agg #[(.int .i64 r112.1.1), (.slice c1 c2 c3)]) (y_load rfl ((box_load Ag30 Sz30 a4 [] [(.int .i64 r112.1.1), (.slice c1 c2 c3)] [] rfl rfl (fun h => nomatch h)) _ (Chg.refl _ _))) ?_
  refine pl_val (.agg #[(.int .i64 r21.1.1), (.slice f4 f6 f5)]) (y_load rfl ((box_load Ag30 Sz30 a2 [] [(.int .i64 r21.1.1), (.slice f4 f6 f5)] [] rfl rfl (fun h => nomatch h)) _ (Chg.refl _ _))) ?_
  have hO := hO.fr1
  obtain ⟨r120, K9, hs⟩ := bind_some hs
  refine pl_call Bd14 rfl (c_laws_eqRelation (M := (Less a6 e0)) (r112.1.1, r112.1.2) (r21.1.1, r21.1.2) (((Frz.os (Frz.os Frz.int))).val b1 Less.sub Less.not) (a3.sub Less.sub) hO.less.fut K9) ?_
  rintro _ S0 ⟨rfl, c8⟩
  have h0 := h0.ext c8
  have h1 := h1.ext c8
  have a0 := a0.cn c8
  have a1 := a1.cn c8
  have a3 := a3.ext c8
  have a2 := a2.cn c8
  have a7 := a7.ext c8
  have a8 := a8.cn c8
  have b3 := b3.ext c8
  have b4 := b4.cn c8
  have b1 := b1.ext c8
  have a4 := a4.cn c8
  have hMid := hMid.ext c8
  have hC := hC.ext c8
  have hO := hO.ext c8
  refine pl_val (.bool (!r120)) (y_not rfl) ?_
  refine pl_val (.bool (!r120)) (y_move rfl) ?_
  rcases bif_some hs with ⟨k3, hs⟩ | ⟨k3, hs⟩
  ·skip
   refine pl_not (tg := 49) (by kernel_rfl) (congrArg Value.bool k3) ?_
   refine pl_not (tg := 49) (by kernel_rfl) (congrArg Value.bool k3) ?_
   refine pl_not (tg := 49) (by kernel_rfl) (congrArg Value.bool k3) ?_
   refine pl_val (.bool true) (y_pick_t (congrArg Value.bool k3) rfl) ?_
   refine c_nil ?_
   cases hs
   exact ⟨_, fr_ovl 119 ⟨rfl, rfl, rfl, rfl, rfl, rfl, rfl, rfl, rfl, rfl, trivial⟩, hMid⟩
  refine pl_yes (.bool r112.2) (tg := 49) (by kernel_rfl) (congrArg Value.bool k3) (y_move rfl) ?_
  refine pl_yes (.bool r21.2) (tg := 49) (by kernel_rfl) (congrArg Value.bool k3) (y_move rfl) ?_
  refine pl_yes (.bool (!(r112.2 == r21.2))) (tg := 49) (by kernel_rfl) (congrArg Value.bool k3) (y_bneq Try.underlying4 rfl rfl) ?_
  refine pl_val (.bool (!(r112.2 == r21.2))) (y_pick_f (congrArg Value.bool k3) rfl) ?_
  refine c_nil ?_
  cases hs
  exact ⟨_, fr_ovl 119 ⟨rfl, rfl, rfl, rfl, rfl, rfl, rfl, rfl, rfl, rfl, trivial⟩, hMid⟩
 rintro s9 t1 ⟨σ, rfl, d5⟩
 have h0 := h0.ext d5
 have h1 := h1.ext d5
 have a0 := a0.cn d5
 have a1 := a1.cn d5
 have a3 := a3.ext d5
 have a2 := a2.cn d5
 have a7 := a7.ext d5
 have a8 := a8.cn d5
 have b3 := b3.ext d5
 have b4 := b4.cn d5
 have b1 := b1.ext d5
 have a4 := a4.cn d5
 have hC := hC.ext d5
 have hO := hO.ext d5
 rcases bif_some hs with ⟨w9, hs⟩ | ⟨w9, hs⟩
 ·refine c_condT (congrArg Value.bool w9) ?_
  refine c_sr ?_
  refine pl_val (.bool false) (y_assign rfl) ?_
  refine c_nil ?_
  refine wp_ret ?_
  cases hs
  exact ⟨_, fr_ovl 119 ⟨rfl, trivial⟩, hC⟩
 refine c_condF (congrArg Value.bool w9) ?_
 refine wp_skip ?_
 refine c_seq ?_
 refine c_seq ?_
 refine x_start [] Mx rfl ?_
 have c9 := Chg.drew t1
 generalize World.drew t1 = L0 at c9 ⊢
 have h0 := h0.ext c9
 have h1 := h1.ext c9
 have a0 := a0.cn c9
 have a1 := a1.cn c9
 have a3 := a3.ext c9
 have a2 := a2.cn c9
 have a7 := a7.ext c9
 have a8 := a8.cn c9
 have b3 := b3.ext c9
 have b4 := b4.cn c9
 have b1 := b1.ext c9
 have a4 := a4.cn c9
 have hC := hC.ext c9
 have hO := hO.ext c9
 have hS := Chg.refl [] L0
 refine x_l 0 (.agg #[(.int .i64 r102.1), (.slice l1 l2 l3)]) rfl (by kernel_rfl)  (fun w' hw' => y_load rfl ((box_load Ag35 Sz35 a8 [] [(.int .i64 r102.1), (.slice l1 l2 l3)] [] rfl rfl (fun h => nomatch h)) w' hw')) hS ?_
 refine x_l 1 (.agg #[(.int .i64 aA.1), (.slice pa0 pn0 pc0)]) rfl (by kernel_rfl)  (fun w' hw' => y_load rfl ((box_load Ag24 Sz24 a0 [] [(.int .i64 aA.1), (.slice pa0 pn0 pc0)] [] rfl rfl (fun h => nomatch h)) w' hw')) hS ?_
 refine x_one (i := 2) (by kernel_rfl) ?_
 obtain ⟨r131, L1, hs⟩ := bind_some hs
 refine xk_call (b := false) rfl  Bd11 rfl (c_laws_toAlgebra (M := a6) (aA.1, aA.2) h0 hO.fut L1) rfl (by rintro _ _ _ ⟨L2, L3, L4, t2, rfl, c0, h9, C0⟩; exact hS.ext c0) ?_
 rintro _ S1 ⟨L2, L3, L4, t2, rfl, c0, h9, C0⟩
 have h0 := h0.ext c0
 have h1 := h1.ext c0
 have a0 := a0.cn c0
 have a1 := a1.cn c0
 have a3 := a3.ext c0
 have a2 := a2.cn c0
 have a7 := a7.ext c0
 have a8 := a8.cn c0
 have b3 := b3.ext c0
 have b4 := b4.cn c0
 have b1 := b1.ext c0
 have a4 := a4.cn c0
 have hC := hC.ext c0
 have hO := Own.join0 hO c0 C0
 have hO := hO.perm (R := t2 ++ (([b5]) ++ (e0 ++ (k0 ++ (g4 ++ (([f1]) ++ (([h7]) ++ (([b2]) ++ (([b0]) ++ (([a9]) ++ ([]))))))))))) (by simp)
 have hS := hS.ext c0
 refine x_one (i := 3) (by kernel_rfl) ?_
 have hO := hO.fr3
 obtain ⟨r134, L5, hs⟩ := bind_some hs
 refine xk_call (b := false) rfl  Bd15 rfl (c_laws_eqAlgebra (M := (Less (Less a6 k0) t2)) (r102.1, r102.2) (r131.1, r131.2) ((((Frz.os (Frz.pr Frz.int (Frz.os Frz.int)))).val a7 Less.sub Less.not).sub Less.sub) (((Frz.os (Frz.pr Frz.int (Frz.os Frz.int)))).val (h9.sub Less.sub) Less.sub Less.not) (hO.less).less.fut L5) rfl (by rintro _ _ _ ⟨rfl, b8⟩; exact hS.ext b8) ?_
 rintro _ C1 ⟨rfl, b8⟩
 have h0 := h0.ext b8
 have h1 := h1.ext b8
 have a0 := a0.cn b8
 have a1 := a1.cn b8
 have a3 := a3.ext b8
 have a2 := a2.cn b8
 have a7 := a7.ext b8
 have a8 := a8.cn b8
 have b3 := b3.ext b8
 have b4 := b4.cn b8
 have b1 := b1.ext b8
 have a4 := a4.cn b8
 have h9 := h9.ext b8
 have hC := hC.ext b8
 have hO := hO.ext b8
 have hS := hS.ext b8
 refine x_p 4 (.bool (!r134)) rfl (by kernel_rfl)  (fun _ => y_not rfl) (fun _ => hS) ?_
 refine x_end (by kernel_rfl) ?_
 clear hS
 rcases bif_some hs with ⟨x0, hs⟩ | ⟨x0, hs⟩
 ·refine c_condT (congrArg Value.bool x0) ?_
  refine c_sr ?_
  refine pl_val (.bool false) (y_assign rfl) ?_
  refine c_nil ?_
  have hO := hO.fr1
  have hO := hO.drop
  refine wp_ret ?_
  cases hs
  exact ⟨_, fr_ovl 119 ⟨rfl, trivial⟩, hC⟩
 refine c_condF (congrArg Value.bool x0) ?_
 refine wp_skip ?_
 refine c_seq ?_
 refine c_seq ?_
 refine x_start [] Mx rfl ?_
 have c4 := Chg.drew C1
 generalize World.drew C1 = L6 at c4 ⊢
 have h0 := h0.ext c4
 have h1 := h1.ext c4
 have a0 := a0.cn c4
 have a1 := a1.cn c4
 have a3 := a3.ext c4
 have a2 := a2.cn c4
 have a7 := a7.ext c4
 have a8 := a8.cn c4
 have b3 := b3.ext c4
 have b4 := b4.cn c4
 have b1 := b1.ext c4
 have a4 := a4.cn c4
 have h9 := h9.ext c4
 have hC := hC.ext c4
 have hO := hO.ext c4
 have hS := Chg.refl [] L6
 refine x_l 0 (.agg #[(.int .i64 r107.1), (.slice l5 l6 l7)]) rfl (by kernel_rfl)  (fun w' hw' => y_load rfl ((box_load Ag30 Sz30 b4 [] [(.int .i64 r107.1), (.slice l5 l6 l7)] [] rfl rfl (fun h => nomatch h)) w' hw')) hS ?_
 refine x_l 1 (.agg #[(.int .i64 aR.1), (.slice pa1 pn1 pc1)]) rfl (by kernel_rfl)  (fun w' hw' => y_load rfl ((box_load Ag27 Sz27 a1 [] [(.int .i64 aR.1), (.slice pa1 pn1 pc1)] [] rfl rfl (fun h => nomatch h)) w' hw')) hS ?_
 refine x_one (i := 2) (by kernel_rfl) ?_
 obtain ⟨r144, L7, hs⟩ := bind_some hs
 refine xk_call (b := false) rfl  Bd12 rfl (c_laws_toRelation (M := a6) (aR.1, aR.2) h1 hO.fut L7) rfl (by rintro _ _ _ ⟨L8, L9, M0, x1, rfl, b9, t3, C2⟩; exact hS.ext b9) ?_
 rintro _ S2 ⟨L8, L9, M0, x1, rfl, b9, t3, C2⟩
 have h0 := h0.ext b9
 have h1 := h1.ext b9
 have a0 := a0.cn b9
 have a1 := a1.cn b9
 have a3 := a3.ext b9
 have a2 := a2.cn b9
 have a7 := a7.ext b9
 have a8 := a8.cn b9
 have b3 := b3.ext b9
 have b4 := b4.cn b9
 have b1 := b1.ext b9
 have a4 := a4.cn b9
 have h9 := h9.ext b9
 have hC := hC.ext b9
 have hO := Own.join0 hO b9 C2
 have hO := hO.perm (R := x1 ++ (k0 ++ (t2 ++ (([b5]) ++ (e0 ++ (g4 ++ (([f1]) ++ (([h7]) ++ (([b2]) ++ (([b0]) ++ (([a9]) ++ ([])))))))))))) (by simp)
 have hS := hS.ext b9
 refine x_one (i := 3) (by kernel_rfl) ?_
 have hO := hO.fr5
 obtain ⟨r147, M1, hs⟩ := bind_some hs
 refine xk_call (b := false) rfl  Bd14 rfl (c_laws_eqRelation (M := (Less (Less a6 g4) x1)) (r107.1, r107.2) (r144.1, r144.2) ((((Frz.os (Frz.os Frz.int))).val b3 Less.sub Less.not).sub Less.sub) (((Frz.os (Frz.os Frz.int))).val (t3.sub Less.sub) Less.sub Less.not) (hO.less).less.fut M1) rfl (by rintro _ _ _ ⟨rfl, b7⟩; exact hS.ext b7) ?_
 rintro _ S3 ⟨rfl, b7⟩
 have h0 := h0.ext b7
 have h1 := h1.ext b7
 have a0 := a0.cn b7
 have a1 := a1.cn b7
 have a3 := a3.ext b7
 have a2 := a2.cn b7
 have a7 := a7.ext b7
 have a8 := a8.cn b7
 have b3 := b3.ext b7
 have b4 := b4.cn b7
 have b1 := b1.ext b7
 have a4 := a4.cn b7
 have h9 := h9.ext b7
 have t3 := t3.ext b7
 have hC := hC.ext b7
 have hO := hO.ext b7
 have hS := hS.ext b7
 refine x_p 4 (.bool (!r147)) rfl (by kernel_rfl)  (fun _ => y_not rfl) (fun _ => hS) ?_
 refine x_end (by kernel_rfl) ?_
 clear hS
 rcases bif_some hs with ⟨x2, hs⟩ | ⟨x2, hs⟩
 ·refine c_condT (congrArg Value.bool x2) ?_
  refine c_sr ?_
  refine pl_val (.bool false) (y_assign rfl) ?_
  refine c_nil ?_
  have hO := hO.fr1
  have hO := hO.drop
  have hO := hO.fr2
  have hO := hO.drop
  refine wp_ret ?_
  cases hs
  exact ⟨_, fr_ovl 119 ⟨rfl, trivial⟩, hC⟩
 refine c_condF (congrArg Value.bool x2) ?_
 refine wp_skip ?_
 refine c_sr ?_
 refine pl_val (.int .i64 1) (y_assign rfl) ?_
 refine c_nil ?_
 have hO := hO.fr1
 have hO := hO.drop
 have hO := hO.fr2
 have hO := hO.drop
 refine c_sr ?_
 refine pl_val (.agg #[(.int .i64 r102.1), (.slice l1 l2 l3)]) (y_load rfl ((box_load Ag35 Sz35 a8 [] [(.int .i64 r102.1), (.slice l1 l2 l3)] [] rfl rfl (fun h => nomatch h)) _ (Chg.refl _ _))) ?_
 refine pl_val (.int .i64 1) (y_move rfl) ?_
 have hO := hO.fr1
 have M2 := hO
 have C3 := Own.lend (F := (k0 ++ ([]))) (R := g4 ++ (([b5]) ++ (e0 ++ (([f1]) ++ (([h7]) ++ (([b2]) ++ (([b0]) ++ (([a9]) ++ ([]))))))))) (Own.perm (M2) (by simp))
 obtain ⟨r150, M3, hs⟩ := bind_some hs
 refine pl_call Bd16 rfl (c_laws_markAlgebra (M := a6) (r102.1, r102.2) 1 a7 C3 C3.fut M3) ?_
 rintro _ S4 ⟨M4, rfl, e3, S5, M5⟩
 have hO := hO.perm (R := (k0 ++ ([])) ++ (g4 ++ (([b5]) ++ (e0 ++ (([f1]) ++ (([h7]) ++ (([b2]) ++ (([b0]) ++ (([a9]) ++ ([])))))))))) (by simp)
 have h0 := h0.mt e3 hO same_
 have h1 := h1.mt e3 hO same_
 have a0 := a0.ap e3 hO same_ (mem_r (mem_r (mem_r (mem_r (mem_r (mem_r (mem_r (mem_l (List.mem_singleton.2 rfl)))))))))
 have a1 := a1.ap e3 hO same_ (mem_r (mem_r (mem_r (mem_r (mem_r (mem_r (mem_l (List.mem_singleton.2 rfl))))))))
 have a3 := a3.mt e3 hO same_
 have a2 := a2.ap e3 hO same_ (mem_r (mem_r (mem_r (mem_r (mem_r (mem_l (List.mem_singleton.2 rfl)))))))
 have a8 := a8.ap e3 hO same_ (mem_r (mem_r (mem_r (mem_r (mem_l (List.mem_singleton.2 rfl))))))
 have b3 := b3.ma e3 hO same_ (fun _ e => (mem_l (e)))
 have b4 := b4.ap e3 hO same_ (mem_r (mem_r (mem_r (mem_l (List.mem_singleton.2 rfl)))))
 have b1 := b1.ma e3 hO same_ (fun _ e => (mem_r (mem_r (mem_l (e)))))
 have a4 := a4.ap e3 hO same_ (mem_r (mem_l (List.mem_singleton.2 rfl)))
 have hC := hC.st e3 hO same_
 have hO := Own.join hO e3 M5
 have hO := hO.perm (R := M4 ++ (g4 ++ (([b5]) ++ (e0 ++ (([f1]) ++ (([h7]) ++ (([b2]) ++ (([b0]) ++ (([a9]) ++ ([])))))))))) (by simp)
 refine pl_val (.int .i64 r150.1) (y_assign rfl) ?_
 refine c_nil ?_
 have hO := hO.drop
 have hO := hO.fr4
 have hO := hO.drop
 refine c_sr ?_
 refine pl_val (.agg #[(.int .i64 r107.1), (.slice l5 l6 l7)]) (y_load rfl ((box_load Ag30 Sz30 b4 [] [(.int .i64 r107.1), (.slice l5 l6 l7)] [] rfl rfl (fun h => nomatch h)) _ (Chg.refl _ _))) ?_
 refine pl_val (.int .i64 r150.1) (y_move rfl) ?_
 have M6 := hO
 have C4 := Own.lend (F := (g4 ++ ([]))) (R := ([b5]) ++ (e0 ++ (([f1]) ++ (([b2]) ++ (([b0]) ++ (([a9]) ++ ([]))))))) (Own.perm (M6) (by simp))
 obtain ⟨r152, M7, hs⟩ := bind_some hs
 refine pl_call Bd17 rfl (c_laws_markRelation (M := a6) (r107.1, r107.2) r150.1 b3 C4 C4.fut M7) ?_
 rintro _ C5 ⟨M8, rfl, g7, S6, M9⟩
 have hO := hO.perm (R := (g4 ++ ([])) ++ (([b5]) ++ (e0 ++ (([f1]) ++ (([b2]) ++ (([b0]) ++ (([a9]) ++ ([])))))))) (by simp)
 have h0 := h0.mt g7 hO same_
 have h1 := h1.mt g7 hO same_
 have a0 := a0.ap g7 hO same_ (mem_r (mem_r (mem_r (mem_r (mem_r (mem_l (List.mem_singleton.2 rfl)))))))
 have a1 := a1.ap g7 hO same_ (mem_r (mem_r (mem_r (mem_r (mem_l (List.mem_singleton.2 rfl))))))
 have a3 := a3.mt g7 hO same_
 have a2 := a2.ap g7 hO same_ (mem_r (mem_r (mem_r (mem_l (List.mem_singleton.2 rfl)))))
 have b4 := b4.ap g7 hO same_ (mem_r (mem_r (mem_l (List.mem_singleton.2 rfl))))
 have b1 := b1.ma g7 hO same_ (fun _ e => (mem_r (mem_l (e))))
 have a4 := a4.ap g7 hO same_ (mem_l (List.mem_singleton.2 rfl))
 have hC := hC.st g7 hO same_
 have hO := Own.join hO g7 M9
 have hO := hO.perm (R := M8 ++ (([b5]) ++ (e0 ++ (([f1]) ++ (([b2]) ++ (([b0]) ++ (([a9]) ++ ([])))))))) (by simp)
 refine pl_val (.int .i64 r152.1) (y_assign rfl) ?_
 refine c_nil ?_
 have hO := hO.drop
 have hO := hO.fr2
 have hO := hO.drop
 refine c_seq ?_
 refine c_seq ?_
 obtain ⟨s153, N0, hs⟩ := bind_some hs
 refine c_mid (I := fun a C6 => ∃ (σ : Nat → Value), a = fr 119 (ovl σ [(2, (.pointer (some ⟨a9, 0, none⟩))), (3, (.pointer (some ⟨b0, 0, none⟩))), (4, (.bool false)), (6, (.pointer (some ⟨b2, 0, none⟩))), (7, (.bool r21.2)), (10, (.pointer (some ⟨b5, 0, none⟩))), (82, (.bool s153))]) ∧ Chg [] C5 C6) ?_ ?_
 ·replace hs := N0
  have hMid := Chg.refl [] C5
  refine c_region ?_
  refine pl_val (.int .i64 r152.1) (y_move rfl) ?_
  refine pl_val (.bool (decide (r152.1 < 0))) (y_lss rfl rfl) ?_
  refine pl_val (.bool (decide (r152.1 < 0))) (y_move rfl) ?_
  rcases bif_some hs with ⟨g8, hs⟩ | ⟨g8, hs⟩
  ·skip
   refine pl_not (tg := 72) (by kernel_rfl) (congrArg Value.bool g8) ?_
   refine pl_not (tg := 72) (by kernel_rfl) (congrArg Value.bool g8) ?_
   refine pl_not (tg := 72) (by kernel_rfl) (congrArg Value.bool g8) ?_
   refine pl_not (tg := 72) (by kernel_rfl) (congrArg Value.bool g8) ?_
   refine pl_val (.bool true) (y_pick_t (congrArg Value.bool g8) rfl) ?_
   refine pl_val (.bool true) (y_move rfl) ?_
   refine pl_not (tg := 78) (by kernel_rfl) (by rfl) ?_
   refine pl_not (tg := 78) (by kernel_rfl) (by rfl) ?_
   refine pl_not (tg := 78) (by kernel_rfl) (by rfl) ?_
   refine pl_val (.bool true) (y_pick_t (by rfl) rfl) ?_
   refine c_nil ?_
   cases hs
   exact ⟨_, fr_ovl 119 ⟨rfl, rfl, rfl, rfl, rfl, rfl, rfl, trivial⟩, hMid⟩
  refine pl_yes (.agg #[(.int .i64 r112.1.1), (.slice c1 c2 c3)]) (tg := 72) (by kernel_rfl) (congrArg Value.bool g8) (y_load rfl ((box_load Ag30 Sz30 a4 [] [(.int .i64 r112.1.1), (.slice c1 c2 c3)] [] rfl rfl (fun h => nomatch h)) _ (Chg.refl _ _))) ?_
  refine pl_yes (.agg #[(.int .i64 r21.1.1), (.slice f4 f6 f5)]) (tg := 72) (by kernel_rfl) (congrArg Value.bool g8) (y_load rfl ((box_load Ag30 Sz30 a2 [] [(.int .i64 r21.1.1), (.slice f4 f6 f5)] [] rfl rfl (fun h => nomatch h)) _ (Chg.refl _ _))) ?_
  have hO := hO.fr1
  obtain ⟨r158, N1, hs⟩ := bind_some hs
  refine pl_cally (tg := 72) (by kernel_rfl) (congrArg Value.bool g8) Bd14 rfl (c_laws_eqRelation (M := (Less a6 e0)) (r112.1.1, r112.1.2) (r21.1.1, r21.1.2) (((Frz.os (Frz.os Frz.int))).val b1 Less.sub Less.not) (a3.sub Less.sub) hO.less.fut N1) ?_
  rintro _ S7 ⟨rfl, g9⟩
  have h0 := h0.ext g9
  have h1 := h1.ext g9
  have a0 := a0.cn g9
  have a1 := a1.cn g9
  have a3 := a3.ext g9
  have a2 := a2.cn g9
  have b1 := b1.ext g9
  have a4 := a4.cn g9
  have hMid := hMid.ext g9
  have hC := hC.ext g9
  have hO := hO.ext g9
  refine pl_yes (.bool (!r158)) (tg := 72) (by kernel_rfl) (congrArg Value.bool g8) (y_not rfl) ?_
  refine pl_val (.bool (!r158)) (y_pick_f (congrArg Value.bool g8) rfl) ?_
  refine pl_val (.bool (!r158)) (y_move rfl) ?_
  rcases bif_some hs with ⟨k4, hs⟩ | ⟨k4, hs⟩
  ·skip
   refine pl_not (tg := 78) (by kernel_rfl) (congrArg Value.bool k4) ?_
   refine pl_not (tg := 78) (by kernel_rfl) (congrArg Value.bool k4) ?_
   refine pl_not (tg := 78) (by kernel_rfl) (congrArg Value.bool k4) ?_
   refine pl_val (.bool true) (y_pick_t (congrArg Value.bool k4) rfl) ?_
   refine c_nil ?_
   cases hs
   exact ⟨_, fr_ovl 119 ⟨rfl, rfl, rfl, rfl, rfl, rfl, rfl, trivial⟩, hMid⟩
  refine pl_yes (.bool r112.2) (tg := 78) (by kernel_rfl) (congrArg Value.bool k4) (y_move rfl) ?_
  refine pl_yes (.bool r21.2) (tg := 78) (by kernel_rfl) (congrArg Value.bool k4) (y_move rfl) ?_
  refine pl_yes (.bool (!(r112.2 == r21.2))) (tg := 78) (by kernel_rfl) (congrArg Value.bool k4) (y_bneq Try.underlying4 rfl rfl) ?_
  refine pl_val (.bool (!(r112.2 == r21.2))) (y_pick_f (congrArg Value.bool k4) rfl) ?_
  refine c_nil ?_
  cases hs
  exact ⟨_, fr_ovl 119 ⟨rfl, rfl, rfl, rfl, rfl, rfl, rfl, trivial⟩, hMid⟩
 rintro s9 C6 ⟨σ, rfl, i0⟩
 have h0 := h0.ext i0
 have h1 := h1.ext i0
 have a0 := a0.cn i0
 have a1 := a1.cn i0
 have a3 := a3.ext i0
 have a2 := a2.cn i0
 have b1 := b1.ext i0
 have a4 := a4.cn i0
 have hC := hC.ext i0
 have hO := hO.ext i0
 rcases bif_some hs with ⟨x3, hs⟩ | ⟨x3, hs⟩
 ·refine c_condT (congrArg Value.bool x3) ?_
  refine c_sr ?_
  refine pl_val (.bool false) (y_assign rfl) ?_
  refine c_nil ?_
  refine wp_ret ?_
  cases hs
  exact ⟨_, fr_ovl 119 ⟨rfl, trivial⟩, hC⟩
 refine c_condF (congrArg Value.bool x3) ?_
 refine wp_skip ?_
 refine c_sr ?_
 refine pl_val (.int .i64 1) (y_assign rfl) ?_
 refine c_nil ?_
 refine c_sr ?_
 refine pl_val (.agg #[(.int .i64 r112.1.1), (.slice c1 c2 c3)]) (y_load rfl ((box_load Ag30 Sz30 a4 [] [(.int .i64 r112.1.1), (.slice c1 c2 c3)] [] rfl rfl (fun h => nomatch h)) _ (Chg.refl _ _))) ?_
 refine pl_val (.int .i64 1) (y_move rfl) ?_
 have hO := hO.fr1
 have N2 := hO
 have C7 := Own.lend (F := (e0 ++ ([]))) (R := ([b5]) ++ (([b2]) ++ (([b0]) ++ (([a9]) ++ ([]))))) (Own.perm (N2) (by simp))
 obtain ⟨r162, N3, hs⟩ := bind_some hs
 refine pl_call Bd17 rfl (c_laws_markRelation (M := a6) (r112.1.1, r112.1.2) 1 b1 C7 C7.fut N3) ?_
 rintro _ S8 ⟨d6, rfl, k5, a5, N4⟩
 have hO := hO.perm (R := (e0 ++ ([])) ++ (([b5]) ++ (([b2]) ++ (([b0]) ++ (([a9]) ++ ([])))))) (by simp)
 have h0 := h0.mt k5 hO same_
 have h1 := h1.mt k5 hO same_
 have a0 := a0.ap k5 hO same_ (mem_r (mem_r (mem_r (mem_l (List.mem_singleton.2 rfl)))))
 have a1 := a1.ap k5 hO same_ (mem_r (mem_r (mem_l (List.mem_singleton.2 rfl))))
 have a3 := a3.mt k5 hO same_
 have a2 := a2.ap k5 hO same_ (mem_r (mem_l (List.mem_singleton.2 rfl)))
 have a4 := a4.ap k5 hO same_ (mem_l (List.mem_singleton.2 rfl))
 have hC := hC.st k5 hO same_
 have hO := Own.join hO k5 N4
 have hO := hO.perm (R := d6 ++ (([b5]) ++ (([b2]) ++ (([b0]) ++ (([a9]) ++ ([])))))) (by simp)
 refine pl_val (.int .i64 r162.1) (y_assign rfl) ?_
 refine c_nil ?_
 refine c_sr ?_
 refine pl_val (.int .i64 1) (y_assign rfl) ?_
 refine c_nil ?_
 refine c_sr ?_
 refine pl_val (.agg #[(.int .i64 r112.1.1), (.slice c1 c2 c3)]) (y_load rfl ((box_load Ag30 Sz30 a4 [] [(.int .i64 r112.1.1), (.slice c1 c2 c3)] [] rfl rfl (fun h => nomatch h)) _ (Chg.refl _ _))) ?_
 refine pl_val (.int .i64 1) (y_move rfl) ?_
 obtain ⟨r164, N5, hs⟩ := bind_some hs
 refine pl_call Bd18 rfl (c_laws_heldRelation (M := (Less a6 d6)) (r112.1.1, r162.2) 1 (((Frz.os (Frz.os Frz.int))).val a5 Less.sub Less.not) hO.less.fut N5) ?_
 rintro _ C8 ⟨rfl, i1⟩
 have h0 := h0.ext i1
 have h1 := h1.ext i1
 have a0 := a0.cn i1
 have a1 := a1.cn i1
 have a3 := a3.ext i1
 have a2 := a2.cn i1
 have a5 := a5.ext i1
 have a4 := a4.cn i1
 have hC := hC.ext i1
 have hO := hO.ext i1
 refine pl_val (.int .i64 r164) (y_assign rfl) ?_
 refine c_nil ?_
 refine c_seq ?_
 refine c_sr ?_
 refine pl_val (.int .i64 r164) (y_move rfl) ?_
 refine pl_val (.bool (decide (r164 < 0))) (y_lss rfl rfl) ?_
 refine c_nil ?_
 rcases bif_some hs with ⟨x4, hs⟩ | ⟨x4, hs⟩
 ·refine c_condT (congrArg Value.bool x4) ?_
  refine c_sr ?_
  refine pl_val (.bool false) (y_assign rfl) ?_
  refine c_nil ?_
  refine wp_ret ?_
  cases hs
  exact ⟨_, fr_ovl 119 ⟨rfl, trivial⟩, hC⟩
 refine c_condF (congrArg Value.bool x4) ?_
 refine wp_skip ?_
 refine c_seq ?_
 refine c_sr ?_
 refine pl_val (.int .i64 r164) (y_move rfl) ?_
 refine pl_val (.int .i64 r162.1) (y_move rfl) ?_
 refine pl_val (.bool (r164 != r162.1)) (y_neq rfl rfl) ?_
 refine c_nil ?_
 rcases bif_some hs with ⟨x5, hs⟩ | ⟨x5, hs⟩
 ·refine c_condT (congrArg Value.bool x5) ?_
  refine c_sr ?_
  refine pl_val (.bool false) (y_assign rfl) ?_
  refine c_nil ?_
  refine wp_ret ?_
  cases hs
  exact ⟨_, fr_ovl 119 ⟨rfl, trivial⟩, hC⟩
 refine c_condF (congrArg Value.bool x5) ?_
 refine wp_skip ?_
 refine c_seq ?_
 obtain ⟨r169, C9, hs⟩ := bind_some hs
 obtain ⟨r172, x6, hs⟩ := bind_some hs
 obtain ⟨r175, t4, hs⟩ := bind_some hs
 refine c_mid (I := fun a h2 => ∃ (σ : Nat → Value) (r2 : Option Addr) (r3 : Nat) (t5 : List Nat) (t6 : Nat) (r4 : Nat), a = fr 119 (ovl σ [(4, (.bool false)), (6, (.pointer (some ⟨b2, 0, none⟩))), (7, (.bool r21.2)), (10, (.pointer (some ⟨b5, 0, none⟩))), (13, (.int .i64 r162.1)), (14, (.int .i64 r164)), (15, (.pointer (some ⟨t6, 0, none⟩))), (16, (.bool r175.2))]) ∧ Chg [] w h2 ∧ Own (Nw w []) a6 h2 (([t6]) ++ (t5 ++ (d6 ++ (([b5]) ++ (([b2]) ++ []))))) ∧ Keeps w M a6 ∧ (RT.rs (RT.rs (RT.int .i64))).val a6 h2 (.slice f4 f6 f5) r21.1.2 ([]) ∧ BoxV h2 b2 30 [(.int .i64 r21.1.1), (.slice f4 f6 f5)] ∧ (RT.os 43 (RT.os 3 (RT.int .i64))).val a6 h2 (.slice c1 c2 c3) r162.2 d6 ∧ BoxV h2 b5 30 [(.int .i64 r112.1.1), (.slice c1 c2 c3)] ∧ (RT.os 43 (RT.os 3 (RT.int .i64))).val a6 h2 (.slice r2 r4 r3) r175.1.2 t5 ∧ BoxV h2 t6 30 [(.int .i64 r175.1.1), (.slice r2 r4 r3)]) ?_ ?_
 ·skip
  refine x_start [9] Mx rfl ?_
  have h3 := Chg.drew C8
  generalize World.drew C8 = D0 at h3 ⊢
  have h0 := h0.ext h3
  have h1 := h1.ext h3
  have a0 := a0.cn h3
  have a1 := a1.cn h3
  have a3 := a3.ext h3
  have a2 := a2.cn h3
  have a5 := a5.ext h3
  have a4 := a4.cn h3
  have hC := hC.ext h3
  have hO := hO.ext h3
  have hS := Chg.refl [] D0
  refine x_l 0 (.agg #[(.int .i64 aA.1), (.slice pa0 pn0 pc0)]) rfl (by kernel_rfl)  (fun w' hw' => y_load rfl ((box_load Ag24 Sz24 a0 [] [(.int .i64 aA.1), (.slice pa0 pn0 pc0)] [] rfl rfl (fun h => nomatch h)) w' hw')) hS ?_
  refine x_l 2 (.agg #[(.int .i64 aR.1), (.slice pa1 pn1 pc1)]) rfl (by kernel_rfl)  (fun w' hw' => y_load rfl ((box_load Ag27 Sz27 a1 [] [(.int .i64 aR.1), (.slice pa1 pn1 pc1)] [] rfl rfl (fun h => nomatch h)) w' hw')) hS ?_
  refine x_two (i := 1) (j := 8) (by kernel_rfl) ?_ ?_
  ·skip
   refine xk_call (b := false) rfl  Bd11 rfl (c_laws_toAlgebra (M := a6) (aA.1, aA.2) h0 hO.fut C9) rfl (by rintro _ _ _ ⟨N6, N7, N8, i2, rfl, e4, b6, D1⟩; exact hS.ext e4) ?_
   rintro _ N9 ⟨N6, N7, N8, i2, rfl, e4, b6, D1⟩
   have h0 := h0.ext e4
   have h1 := h1.ext e4
   have a0 := a0.cn e4
   have a1 := a1.cn e4
   have a3 := a3.ext e4
   have a2 := a2.cn e4
   have a5 := a5.ext e4
   have a4 := a4.cn e4
   have hC := hC.ext e4
   have hO := Own.join0 hO e4 D1
   have hO := hO.perm (R := i2 ++ (d6 ++ (([b5]) ++ (([b2]) ++ (([b0]) ++ (([a9]) ++ ([]))))))) (by simp)
   have hS := hS.ext e4
   refine x_two (i := 3) (j := 8) (by kernel_rfl) ?_ ?_
   ·skip
    refine xk_call (b := false) rfl  Bd12 rfl (c_laws_toRelation (M := a6) (aR.1, aR.2) h1 hO.fut x6) rfl (by rintro _ _ _ ⟨O0, O1, O2, n7, rfl, d7, d0, D2⟩; exact hS.ext d7) ?_
    rintro _ O3 ⟨O0, O1, O2, n7, rfl, d7, d0, D2⟩
    have h0 := h0.ext d7
    have h1 := h1.ext d7
    have a0 := a0.cn d7
    have a1 := a1.cn d7
    have a3 := a3.ext d7
    have a2 := a2.cn d7
    have a5 := a5.ext d7
    have a4 := a4.cn d7
    have b6 := b6.ext d7
    have hC := hC.ext d7
    have hO := Own.join0 hO d7 D2
    have hO := hO.perm (R := n7 ++ (i2 ++ (d6 ++ (([b5]) ++ (([b2]) ++ (([b0]) ++ (([a9]) ++ ([])))))))) (by simp)
    have hS := hS.ext d7
    refine x_two (i := 4) (j := 8) (by kernel_rfl) ?_ ?_
    ·skip
     have hO := hO.fr1
     refine xk_call (b := false) rfl  Bd13 rfl (c_impl_GeneratedRelation (M := (Less (Less a6 i2) n7)) (r169.1, r169.2) (r172.1, r172.2) ((((Frz.os (Frz.pr Frz.int (Frz.os Frz.int)))).val b6 Less.sub Less.not).sub Less.sub) (((Frz.os (Frz.os Frz.int))).val (d0.sub Less.sub) Less.sub Less.not) (hO.less).less.fut t4) rfl (by rintro _ _ _ ⟨n8, n9, o0, x7, rfl, d1, l8, D3⟩; exact hS.ext d1) ?_
     rintro _ O4 ⟨n8, n9, o0, x7, rfl, d1, l8, D3⟩
     have h0 := h0.ext d1
     have h1 := h1.ext d1
     have a0 := a0.cn d1
     have a1 := a1.cn d1
     have a3 := a3.ext d1
     have a2 := a2.cn d1
     have a5 := a5.ext d1
     have a4 := a4.cn d1
     have b6 := b6.ext d1
     have d0 := d0.ext d1
     have hC := hC.ext d1
     have hO := Own.join0 hO d1 D3
     have hO := hO.perm (R := x7 ++ (i2 ++ (n7 ++ (d6 ++ (([b5]) ++ (([b2]) ++ (([b0]) ++ (([a9]) ++ ([]))))))))) (by simp)
     have l8 := l8.free (M' := a6) (Free.os (Free.os Free.int))
     have hS := hS.ext d1
     refine x_p 5 (.tuple #[(.agg #[(.int .i64 r175.1.1), (.slice n8 n9 o0)]), (.bool r175.2)]) rfl (by kernel_rfl)  (fun _ => y_move rfl) (fun _ => hS) ?_
     refine x_p 6 (.agg #[(.int .i64 r175.1.1), (.slice n8 n9 o0)]) rfl (by kernel_rfl)  (fun _ => y_extract rfl (by kernel_rfl)) (fun _ => hS) ?_
     refine x_p 7 (.bool r175.2) rfl (by kernel_rfl)  (fun _ => y_extract rfl (by kernel_rfl)) (fun _ => hS) ?_
     refine x_one (i := 8) (by kernel_rfl) ?_
     obtain ⟨O5, x8, O6, D4, d2, D5⟩ := new_block O4 [(.int .i64 0), (.slice none 0 0)] 30
     refine xk_val (w' := O5) (b := false) (.pointer (some ⟨x8, 0, none⟩)) rfl  (y_alloc (by rw [O6, D4]; kernel_rfl)) rfl (fun _ => hS.ext d2) ?_
     have h0 := h0.ext d2
     have h1 := h1.ext d2
     have a0 := a0.cn d2
     have a1 := a1.cn d2
     have a3 := a3.ext d2
     have a2 := a2.cn d2
     have a5 := a5.ext d2
     have a4 := a4.cn d2
     have b6 := b6.ext d2
     have d0 := d0.ext d2
     have l8 := l8.ext d2
     have hC := hC.ext d2
     have hO := hO.new1 d2 D4 D5.lt
     have hS := hS.ext d2
     refine x_one (i := 9) (by kernel_rfl) ?_
     obtain ⟨D6, O7, e5, x9⟩ := box_store (P := Try.prog) D5 [] [(.int .i64 0), (.slice none 0 0)] [] [(.int .i64 r175.1.1), (.slice n8 n9 o0)] rfl rfl (by intro u hu; simp only [List.mem_cons, List.not_mem_nil, or_false] at hu; rcases hu with rfl | rfl <;> rfl)
     refine xk_skip (w' := D6) (b := true) rfl (ys_store rfl rfl (O7 _ _ rfl Sz30)) rfl (fun h => nomatch h) ?_
     have h0 := h0.mt e5 hO same_
     have h1 := h1.mt e5 hO same_
     have a0 := a0.ap e5 hO same_ (mem_r (mem_r (mem_r (mem_r (mem_r (mem_r (mem_r (mem_l (List.mem_singleton.2 rfl)))))))))
     have a1 := a1.ap e5 hO same_ (mem_r (mem_r (mem_r (mem_r (mem_r (mem_r (mem_l (List.mem_singleton.2 rfl))))))))
     have a3 := a3.mt e5 hO same_
     have a2 := a2.ap e5 hO same_ (mem_r (mem_r (mem_r (mem_r (mem_r (mem_l (List.mem_singleton.2 rfl)))))))
     have a5 := a5.ma e5 hO same_ (fun _ e => (mem_r (mem_r (mem_r (mem_l (e))))))
     have a4 := a4.ap e5 hO same_ (mem_r (mem_r (mem_r (mem_r (mem_l (List.mem_singleton.2 rfl))))))
     have b6 := b6.ma e5 hO same_ (fun _ e => (mem_r (mem_l (e))))
     have d0 := d0.ma e5 hO same_ (fun _ e => (mem_r (mem_r (mem_l (e)))))
     have l8 := l8.ma e5 hO same_ (fun _ e => (mem_l (e)))
     have hC := hC.st e5 hO same_
     have hO := hO.ext e5
     have x9 : BoxV D6 x8 30 [(.int .i64 r175.1.1), (.slice n8 n9 o0)] := x9
     refine x_p 10 (.bool r175.2) rfl (by kernel_rfl)  (fun _ => y_assign rfl) (fun h => nomatch h) ?_
     refine x_end (by kernel_rfl) ?_
     clear hS
     have hO := hO.fr2
     have hO := hO.drop
     have hO := hO.fr2
     have hO := hO.drop
     have hO := hO.fr5
     have hO := hO.drop
     have hO := hO.fr5
     have hO := hO.drop
     have hO := hO.fr4
     have hO := hO.fr4
     have hO := hO.fr4
     have hO := hO.fr4
     have hO := hO.fr4
     exact ⟨_, n8, o0, x7, x8, n9, fr_ovl 119 ⟨rfl, rfl, rfl, rfl, rfl, rfl, rfl, rfl, trivial⟩, hC, hO, hK, a3, a2, a5, a4, l8, x9⟩
    ·skip
     obtain ⟨O8, t7, O9, D7, d8, t8⟩ := new_block O3 [(.int .i64 0), (.slice none 0 0)] 30
     refine xk_val (w' := O8) (b := false) (.pointer (some ⟨t7, 0, none⟩)) rfl  (y_alloc (by rw [O9, D7]; kernel_rfl)) rfl (fun _ => hS.ext d8) ?_
     have h0 := h0.ext d8
     have h1 := h1.ext d8
     have a0 := a0.cn d8
     have a1 := a1.cn d8
     have a3 := a3.ext d8
     have a2 := a2.cn d8
     have a5 := a5.ext d8
     have a4 := a4.cn d8
     have b6 := b6.ext d8
     have d0 := d0.ext d8
     have hC := hC.ext d8
     have hO := hO.new1 d8 D7 t8.lt
     have hS := hS.ext d8
     refine x_one (i := 4) (by kernel_rfl) ?_
     have hO := hO.fr1
     have hO := hO.fr2
     refine xk_call (b := false) rfl  Bd13 rfl (c_impl_GeneratedRelation (M := (Less (Less a6 i2) n7)) (r169.1, r169.2) (r172.1, r172.2) ((((Frz.os (Frz.pr Frz.int (Frz.os Frz.int)))).val b6 Less.sub Less.not).sub Less.sub) (((Frz.os (Frz.os Frz.int))).val (d0.sub Less.sub) Less.sub Less.not) (hO.less).less.fut t4) rfl (by rintro _ _ _ ⟨o1, o2, o3, y0, rfl, c5, o4, D8⟩; exact hS.ext c5) ?_
     rintro _ S9 ⟨o1, o2, o3, y0, rfl, c5, o4, D8⟩
     have h0 := h0.ext c5
     have h1 := h1.ext c5
     have a0 := a0.cn c5
     have a1 := a1.cn c5
     have a3 := a3.ext c5
     have a2 := a2.cn c5
     have a5 := a5.ext c5
     have a4 := a4.cn c5
     have b6 := b6.ext c5
     have d0 := d0.ext c5
     have t8 := t8.cn c5
     have hC := hC.ext c5
     have hO := Own.join0 hO c5 D8
     have hO := hO.perm (R := y0 ++ (i2 ++ (n7 ++ (([t7]) ++ (d6 ++ (([b5]) ++ (([b2]) ++ (([b0]) ++ (([a9]) ++ ([])))))))))) (by simp)
     have o4 := o4.free (M' := a6) (Free.os (Free.os Free.int))
     have hS := hS.ext c5
     refine x_p 5 (.tuple #[(.agg #[(.int .i64 r175.1.1), (.slice o1 o2 o3)]), (.bool r175.2)]) rfl (by kernel_rfl)  (fun _ => y_move rfl) (fun _ => hS) ?_
     refine x_p 6 (.agg #[(.int .i64 r175.1.1), (.slice o1 o2 o3)]) rfl (by kernel_rfl)  (fun _ => y_extract rfl (by kernel_rfl)) (fun _ => hS) ?_
     refine x_p 7 (.bool r175.2) rfl (by kernel_rfl)  (fun _ => y_extract rfl (by kernel_rfl)) (fun _ => hS) ?_
     refine x_one (i := 9) (by kernel_rfl) ?_
     obtain ⟨D9, P0, e6, y1⟩ := box_store (P := Try.prog) t8 [] [(.int .i64 0), (.slice none 0 0)] [] [(.int .i64 r175.1.1), (.slice o1 o2 o3)] rfl rfl (by intro u hu; simp only [List.mem_cons, List.not_mem_nil, or_false] at hu; rcases hu with rfl | rfl <;> rfl)
     refine xk_skip (w' := D9) (b := true) rfl (ys_store rfl rfl (P0 _ _ rfl Sz30)) rfl (fun h => nomatch h) ?_
     have hO := hO.fr3
     have h0 := h0.mt e6 hO same_
     have h1 := h1.mt e6 hO same_
     have a0 := a0.ap e6 hO same_ (mem_r (mem_r (mem_r (mem_r (mem_r (mem_r (mem_r (mem_l (List.mem_singleton.2 rfl)))))))))
     have a1 := a1.ap e6 hO same_ (mem_r (mem_r (mem_r (mem_r (mem_r (mem_r (mem_l (List.mem_singleton.2 rfl))))))))
     have a3 := a3.mt e6 hO same_
     have a2 := a2.ap e6 hO same_ (mem_r (mem_r (mem_r (mem_r (mem_r (mem_l (List.mem_singleton.2 rfl)))))))
     have a5 := a5.ma e6 hO same_ (fun _ e => (mem_r (mem_r (mem_r (mem_l (e))))))
     have a4 := a4.ap e6 hO same_ (mem_r (mem_r (mem_r (mem_r (mem_l (List.mem_singleton.2 rfl))))))
     have b6 := b6.ma e6 hO same_ (fun _ e => (mem_r (mem_l (e))))
     have d0 := d0.ma e6 hO same_ (fun _ e => (mem_r (mem_r (mem_l (e)))))
     have o4 := o4.ma e6 hO same_ (fun _ e => (mem_l (e)))
     have hC := hC.st e6 hO same_
     have hO := hO.ext e6
     have y1 : BoxV D9 t7 30 [(.int .i64 r175.1.1), (.slice o1 o2 o3)] := y1
     refine x_p 10 (.bool r175.2) rfl (by kernel_rfl)  (fun _ => y_assign rfl) (fun h => nomatch h) ?_
     refine x_end (by kernel_rfl) ?_
     clear hS
     have hO := hO.fr2
     have hO := hO.drop
     have hO := hO.fr2
     have hO := hO.drop
     have hO := hO.fr5
     have hO := hO.drop
     have hO := hO.fr5
     have hO := hO.drop
     have hO := hO.fr4
     have hO := hO.fr4
     have hO := hO.fr4
     have hO := hO.fr4
     have hO := hO.fr4
     exact ⟨_, o1, o3, y0, t7, o2, fr_ovl 119 ⟨rfl, rfl, rfl, rfl, rfl, rfl, rfl, rfl, trivial⟩, hC, hO, hK, a3, a2, a5, a4, o4, y1⟩
   ·skip
    obtain ⟨P1, r5, P2, E0, e7, o5⟩ := new_block N9 [(.int .i64 0), (.slice none 0 0)] 30
    refine xk_val (w' := P1) (b := false) (.pointer (some ⟨r5, 0, none⟩)) rfl  (y_alloc (by rw [P2, E0]; kernel_rfl)) rfl (fun _ => hS.ext e7) ?_
    have h0 := h0.ext e7
    have h1 := h1.ext e7
    have a0 := a0.cn e7
    have a1 := a1.cn e7
    have a3 := a3.ext e7
    have a2 := a2.cn e7
    have a5 := a5.ext e7
    have a4 := a4.cn e7
    have b6 := b6.ext e7
    have hC := hC.ext e7
    have hO := hO.new1 e7 E0 o5.lt
    have hS := hS.ext e7
    refine x_one (i := 3) (by kernel_rfl) ?_
    refine xk_call (b := false) rfl  Bd12 rfl (c_laws_toRelation (M := a6) (aR.1, aR.2) h1 hO.fut x6) rfl (by rintro _ _ _ ⟨P3, P4, P5, t9, rfl, d3, o6, E1⟩; exact hS.ext d3) ?_
    rintro _ T0 ⟨P3, P4, P5, t9, rfl, d3, o6, E1⟩
    have h0 := h0.ext d3
    have h1 := h1.ext d3
    have a0 := a0.cn d3
    have a1 := a1.cn d3
    have a3 := a3.ext d3
    have a2 := a2.cn d3
    have a5 := a5.ext d3
    have a4 := a4.cn d3
    have b6 := b6.ext d3
    have o5 := o5.cn d3
    have hC := hC.ext d3
    have hO := Own.join0 hO d3 E1
    have hO := hO.perm (R := t9 ++ (([r5]) ++ (i2 ++ (d6 ++ (([b5]) ++ (([b2]) ++ (([b0]) ++ (([a9]) ++ ([]))))))))) (by simp)
    have hS := hS.ext d3
    refine x_one (i := 4) (by kernel_rfl) ?_
    have hO := hO.fr2
    refine xk_call (b := false) rfl  Bd13 rfl (c_impl_GeneratedRelation (M := (Less (Less a6 i2) t9)) (r169.1, r169.2) (r172.1, r172.2) ((((Frz.os (Frz.pr Frz.int (Frz.os Frz.int)))).val b6 Less.sub Less.not).sub Less.sub) (((Frz.os (Frz.os Frz.int))).val (o6.sub Less.sub) Less.sub Less.not) (hO.less).less.fut t4) rfl (by rintro _ _ _ ⟨o7, o8, o9, y2, rfl, c6, p0, E2⟩; exact hS.ext c6) ?_
    rintro _ T1 ⟨o7, o8, o9, y2, rfl, c6, p0, E2⟩
    have h0 := h0.ext c6
    have h1 := h1.ext c6
    have a0 := a0.cn c6
    have a1 := a1.cn c6
    have a3 := a3.ext c6
    have a2 := a2.cn c6
    have a5 := a5.ext c6
    have a4 := a4.cn c6
    have b6 := b6.ext c6
    have o5 := o5.cn c6
    have o6 := o6.ext c6
    have hC := hC.ext c6
    have hO := Own.join0 hO c6 E2
    have hO := hO.perm (R := y2 ++ (i2 ++ (t9 ++ (([r5]) ++ (d6 ++ (([b5]) ++ (([b2]) ++ (([b0]) ++ (([a9]) ++ ([])))))))))) (by simp)
    have p0 := p0.free (M' := a6) (Free.os (Free.os Free.int))
    have hS := hS.ext c6
    refine x_p 5 (.tuple #[(.agg #[(.int .i64 r175.1.1), (.slice o7 o8 o9)]), (.bool r175.2)]) rfl (by kernel_rfl)  (fun _ => y_move rfl) (fun _ => hS) ?_
    refine x_p 6 (.agg #[(.int .i64 r175.1.1), (.slice o7 o8 o9)]) rfl (by kernel_rfl)  (fun _ => y_extract rfl (by kernel_rfl)) (fun _ => hS) ?_
    refine x_p 7 (.bool r175.2) rfl (by kernel_rfl)  (fun _ => y_extract rfl (by kernel_rfl)) (fun _ => hS) ?_
    refine x_one (i := 9) (by kernel_rfl) ?_
    obtain ⟨E3, P6, e8, y3⟩ := box_store (P := Try.prog) o5 [] [(.int .i64 0), (.slice none 0 0)] [] [(.int .i64 r175.1.1), (.slice o7 o8 o9)] rfl rfl (by intro u hu; simp only [List.mem_cons, List.not_mem_nil, or_false] at hu; rcases hu with rfl | rfl <;> rfl)
    refine xk_skip (w' := E3) (b := true) rfl (ys_store rfl rfl (P6 _ _ rfl Sz30)) rfl (fun h => nomatch h) ?_
    have hO := hO.fr3
    have h0 := h0.mt e8 hO same_
    have h1 := h1.mt e8 hO same_
    have a0 := a0.ap e8 hO same_ (mem_r (mem_r (mem_r (mem_r (mem_r (mem_r (mem_r (mem_l (List.mem_singleton.2 rfl)))))))))
    have a1 := a1.ap e8 hO same_ (mem_r (mem_r (mem_r (mem_r (mem_r (mem_r (mem_l (List.mem_singleton.2 rfl))))))))
    have a3 := a3.mt e8 hO same_
    have a2 := a2.ap e8 hO same_ (mem_r (mem_r (mem_r (mem_r (mem_r (mem_l (List.mem_singleton.2 rfl)))))))
    have a5 := a5.ma e8 hO same_ (fun _ e => (mem_r (mem_r (mem_r (mem_l (e))))))
    have a4 := a4.ap e8 hO same_ (mem_r (mem_r (mem_r (mem_r (mem_l (List.mem_singleton.2 rfl))))))
    have b6 := b6.ma e8 hO same_ (fun _ e => (mem_r (mem_l (e))))
    have o6 := o6.ma e8 hO same_ (fun _ e => (mem_r (mem_r (mem_l (e)))))
    have p0 := p0.ma e8 hO same_ (fun _ e => (mem_l (e)))
    have hC := hC.st e8 hO same_
    have hO := hO.ext e8
    have y3 : BoxV E3 r5 30 [(.int .i64 r175.1.1), (.slice o7 o8 o9)] := y3
    refine x_p 10 (.bool r175.2) rfl (by kernel_rfl)  (fun _ => y_assign rfl) (fun h => nomatch h) ?_
    refine x_end (by kernel_rfl) ?_
    clear hS
    have hO := hO.fr2
    have hO := hO.drop
    have hO := hO.fr2
    have hO := hO.drop
    have hO := hO.fr5
    have hO := hO.drop
    have hO := hO.fr5
    have hO := hO.drop
    have hO := hO.fr4
    have hO := hO.fr4
    have hO := hO.fr4
    have hO := hO.fr4
    have hO := hO.fr4
    exact ⟨_, o7, o9, y2, r5, o8, fr_ovl 119 ⟨rfl, rfl, rfl, rfl, rfl, rfl, rfl, rfl, trivial⟩, hC, hO, hK, a3, a2, a5, a4, p0, y3⟩
  ·skip
   obtain ⟨P7, p1, P8, E4, f3, l9⟩ := new_block D0 [(.int .i64 0), (.slice none 0 0)] 30
   refine xk_val (w' := P7) (b := false) (.pointer (some ⟨p1, 0, none⟩)) rfl  (y_alloc (by rw [P8, E4]; kernel_rfl)) rfl (fun _ => hS.ext f3) ?_
   have h0 := h0.ext f3
   have h1 := h1.ext f3
   have a0 := a0.cn f3
   have a1 := a1.cn f3
   have a3 := a3.ext f3
   have a2 := a2.cn f3
   have a5 := a5.ext f3
   have a4 := a4.cn f3
   have hC := hC.ext f3
   have hO := hO.new1 f3 E4 l9.lt
   have hS := hS.ext f3
   refine x_one (i := 1) (by kernel_rfl) ?_
   refine xk_call (b := false) rfl  Bd11 rfl (c_laws_toAlgebra (M := a6) (aA.1, aA.2) h0 hO.fut C9) rfl (by rintro _ _ _ ⟨P9, Q0, Q1, r7, rfl, d9, m0, E5⟩; exact hS.ext d9) ?_
   rintro _ T2 ⟨P9, Q0, Q1, r7, rfl, d9, m0, E5⟩
   have h0 := h0.ext d9
   have h1 := h1.ext d9
   have a0 := a0.cn d9
   have a1 := a1.cn d9
   have a3 := a3.ext d9
   have a2 := a2.cn d9
   have a5 := a5.ext d9
   have a4 := a4.cn d9
   have l9 := l9.cn d9
   have hC := hC.ext d9
   have hO := Own.join0 hO d9 E5
   have hO := hO.perm (R := r7 ++ (([p1]) ++ (d6 ++ (([b5]) ++ (([b2]) ++ (([b0]) ++ (([a9]) ++ ([])))))))) (by simp)
   have hS := hS.ext d9
   refine x_one (i := 3) (by kernel_rfl) ?_
   refine xk_call (b := false) rfl  Bd12 rfl (c_laws_toRelation (M := a6) (aR.1, aR.2) h1 hO.fut x6) rfl (by rintro _ _ _ ⟨Q2, Q3, Q4, u0, rfl, d4, p2, E6⟩; exact hS.ext d4) ?_
   rintro _ T3 ⟨Q2, Q3, Q4, u0, rfl, d4, p2, E6⟩
   have h0 := h0.ext d4
   have h1 := h1.ext d4
   have a0 := a0.cn d4
   have a1 := a1.cn d4
   have a3 := a3.ext d4
   have a2 := a2.cn d4
   have a5 := a5.ext d4
   have a4 := a4.cn d4
   have l9 := l9.cn d4
   have m0 := m0.ext d4
   have hC := hC.ext d4
   have hO := Own.join0 hO d4 E6
   have hO := hO.perm (R := u0 ++ (r7 ++ (([p1]) ++ (d6 ++ (([b5]) ++ (([b2]) ++ (([b0]) ++ (([a9]) ++ ([]))))))))) (by simp)
   have hS := hS.ext d4
   refine x_one (i := 4) (by kernel_rfl) ?_
   have hO := hO.fr1
   refine xk_call (b := false) rfl  Bd13 rfl (c_impl_GeneratedRelation (M := (Less (Less a6 r7) u0)) (r169.1, r169.2) (r172.1, r172.2) ((((Frz.os (Frz.pr Frz.int (Frz.os Frz.int)))).val m0 Less.sub Less.not).sub Less.sub) (((Frz.os (Frz.os Frz.int))).val (p2.sub Less.sub) Less.sub Less.not) (hO.less).less.fut t4) rfl (by rintro _ _ _ ⟨p3, p4, p5, y4, rfl, c7, p6, E7⟩; exact hS.ext c7) ?_
   rintro _ T4 ⟨p3, p4, p5, y4, rfl, c7, p6, E7⟩
   have h0 := h0.ext c7
   have h1 := h1.ext c7
   have a0 := a0.cn c7
   have a1 := a1.cn c7
   have a3 := a3.ext c7
   have a2 := a2.cn c7
   have a5 := a5.ext c7
   have a4 := a4.cn c7
   have l9 := l9.cn c7
   have m0 := m0.ext c7
   have p2 := p2.ext c7
   have hC := hC.ext c7
   have hO := Own.join0 hO c7 E7
   have hO := hO.perm (R := y4 ++ (r7 ++ (u0 ++ (([p1]) ++ (d6 ++ (([b5]) ++ (([b2]) ++ (([b0]) ++ (([a9]) ++ ([])))))))))) (by simp)
   have p6 := p6.free (M' := a6) (Free.os (Free.os Free.int))
   have hS := hS.ext c7
   refine x_p 5 (.tuple #[(.agg #[(.int .i64 r175.1.1), (.slice p3 p4 p5)]), (.bool r175.2)]) rfl (by kernel_rfl)  (fun _ => y_move rfl) (fun _ => hS) ?_
   refine x_p 6 (.agg #[(.int .i64 r175.1.1), (.slice p3 p4 p5)]) rfl (by kernel_rfl)  (fun _ => y_extract rfl (by kernel_rfl)) (fun _ => hS) ?_
   refine x_p 7 (.bool r175.2) rfl (by kernel_rfl)  (fun _ => y_extract rfl (by kernel_rfl)) (fun _ => hS) ?_
   refine x_one (i := 9) (by kernel_rfl) ?_
   obtain ⟨E8, Q5, e9, y5⟩ := box_store (P := Try.prog) l9 [] [(.int .i64 0), (.slice none 0 0)] [] [(.int .i64 r175.1.1), (.slice p3 p4 p5)] rfl rfl (by intro u hu; simp only [List.mem_cons, List.not_mem_nil, or_false] at hu; rcases hu with rfl | rfl <;> rfl)
   refine xk_skip (w' := E8) (b := true) rfl (ys_store rfl rfl (Q5 _ _ rfl Sz30)) rfl (fun h => nomatch h) ?_
   have hO := hO.fr3
   have h0 := h0.mt e9 hO same_
   have h1 := h1.mt e9 hO same_
   have a0 := a0.ap e9 hO same_ (mem_r (mem_r (mem_r (mem_r (mem_r (mem_r (mem_r (mem_l (List.mem_singleton.2 rfl)))))))))
   have a1 := a1.ap e9 hO same_ (mem_r (mem_r (mem_r (mem_r (mem_r (mem_r (mem_l (List.mem_singleton.2 rfl))))))))
   have a3 := a3.mt e9 hO same_
   have a2 := a2.ap e9 hO same_ (mem_r (mem_r (mem_r (mem_r (mem_r (mem_l (List.mem_singleton.2 rfl)))))))
   have a5 := a5.ma e9 hO same_ (fun _ e => (mem_r (mem_r (mem_r (mem_l (e))))))
   have a4 := a4.ap e9 hO same_ (mem_r (mem_r (mem_r (mem_r (mem_l (List.mem_singleton.2 rfl))))))
   have m0 := m0.ma e9 hO same_ (fun _ e => (mem_r (mem_l (e))))
   have p2 := p2.ma e9 hO same_ (fun _ e => (mem_r (mem_r (mem_l (e)))))
   have p6 := p6.ma e9 hO same_ (fun _ e => (mem_l (e)))
   have hC := hC.st e9 hO same_
   have hO := hO.ext e9
   have y5 : BoxV E8 p1 30 [(.int .i64 r175.1.1), (.slice p3 p4 p5)] := y5
   refine x_p 10 (.bool r175.2) rfl (by kernel_rfl)  (fun _ => y_assign rfl) (fun h => nomatch h) ?_
   refine x_end (by kernel_rfl) ?_
   clear hS
   have hO := hO.fr2
   have hO := hO.drop
   have hO := hO.fr2
   have hO := hO.drop
   have hO := hO.fr5
   have hO := hO.drop
   have hO := hO.fr5
   have hO := hO.drop
   have hO := hO.fr4
   have hO := hO.fr4
   have hO := hO.fr4
   have hO := hO.fr4
   have hO := hO.fr4
   exact ⟨_, p3, p5, y4, p1, p4, fr_ovl 119 ⟨rfl, rfl, rfl, rfl, rfl, rfl, rfl, rfl, trivial⟩, hC, hO, hK, a3, a2, a5, a4, p6, y5⟩
 rintro s9 h2 ⟨σ, r2, r3, t5, t6, r4, rfl, hC, hO, hK, a3, a2, a5, a4, r8, s0⟩
 refine c_seq ?_
 refine c_seq ?_
 obtain ⟨s239, Q6, hs⟩ := bind_some hs
 refine c_mid (I := fun a E9 => ∃ (σ : Nat → Value), a = fr 119 (ovl σ [(4, (.bool false)), (10, (.pointer (some ⟨b5, 0, none⟩))), (13, (.int .i64 r162.1)), (14, (.int .i64 r164)), (110, (.bool s239))]) ∧ Chg [] h2 E9) ?_ ?_
 ·replace hs := Q6
  have hMid := Chg.refl [] h2
  refine c_region ?_
  refine pl_val (.agg #[(.int .i64 r175.1.1), (.slice r2 r4 r3)]) (y_load rfl ((box_load Ag30 Sz30 s0 [] [(.int .i64 r175.1.1), (.slice r2 r4 r3)] [] rfl rfl (fun h => nomatch h)) _ (Chg.refl _ _))) ?_
  refine pl_val (.agg #[(.int .i64 r21.1.1), (.slice f4 f6 f5)]) (y_load rfl ((box_load Ag30 Sz30 a2 [] [(.int .i64 r21.1.1), (.slice f4 f6 f5)] [] rfl rfl (fun h => nomatch h)) _ (Chg.refl _ _))) ?_
  have hO := hO.fr1
  obtain ⟨r243, Q7, hs⟩ := bind_some hs
  refine pl_call Bd14 rfl (c_laws_eqRelation (M := (Less a6 t5)) (r175.1.1, r175.1.2) (r21.1.1, r21.1.2) (((Frz.os (Frz.os Frz.int))).val r8 Less.sub Less.not) (a3.sub Less.sub) hO.less.fut Q7) ?_
  rintro _ T5 ⟨rfl, k6⟩
  have a3 := a3.ext k6
  have a2 := a2.cn k6
  have a5 := a5.ext k6
  have a4 := a4.cn k6
  have r8 := r8.ext k6
  have s0 := s0.cn k6
  have hMid := hMid.ext k6
  have hC := hC.ext k6
  have hO := hO.ext k6
  refine pl_val (.bool (!r243)) (y_not rfl) ?_
  refine pl_val (.bool (!r243)) (y_move rfl) ?_
  rcases bif_some hs with ⟨k7, hs⟩ | ⟨k7, hs⟩
  ·skip
   refine pl_not (tg := 106) (by kernel_rfl) (congrArg Value.bool k7) ?_
   refine pl_not (tg := 106) (by kernel_rfl) (congrArg Value.bool k7) ?_
   refine pl_not (tg := 106) (by kernel_rfl) (congrArg Value.bool k7) ?_
   refine pl_val (.bool true) (y_pick_t (congrArg Value.bool k7) rfl) ?_
   refine c_nil ?_
   have hO := hO.drop
   have hO := hO.drop
   have hO := hO.fr2
   have hO := hO.drop
   cases hs
   exact ⟨_, fr_ovl 119 ⟨rfl, rfl, rfl, rfl, rfl, trivial⟩, hMid⟩
  refine pl_yes (.bool r175.2) (tg := 106) (by kernel_rfl) (congrArg Value.bool k7) (y_move rfl) ?_
  refine pl_yes (.bool r21.2) (tg := 106) (by kernel_rfl) (congrArg Value.bool k7) (y_move rfl) ?_
  refine pl_yes (.bool (!(r175.2 == r21.2))) (tg := 106) (by kernel_rfl) (congrArg Value.bool k7) (y_bneq Try.underlying4 rfl rfl) ?_
  refine pl_val (.bool (!(r175.2 == r21.2))) (y_pick_f (congrArg Value.bool k7) rfl) ?_
  refine c_nil ?_
  have hO := hO.drop
  have hO := hO.drop
  have hO := hO.fr2
  have hO := hO.drop
  cases hs
  exact ⟨_, fr_ovl 119 ⟨rfl, rfl, rfl, rfl, rfl, trivial⟩, hMid⟩
 rintro s9 E9 ⟨σ, rfl, m8⟩
 have a2 := a2.cn m8
 have a5 := a5.ext m8
 have a4 := a4.cn m8
 have r8 := r8.ext m8
 have s0 := s0.cn m8
 have hC := hC.ext m8
 have hO := hO.ext m8
 rcases bif_some hs with ⟨y6, hs⟩ | ⟨y6, hs⟩
 ·refine c_condT (congrArg Value.bool y6) ?_
  refine c_sr ?_
  refine pl_val (.bool false) (y_assign rfl) ?_
  refine c_nil ?_
  have hO := hO.drop
  have hO := hO.drop
  have hO := hO.fr2
  have hO := hO.drop
  refine wp_ret ?_
  cases hs
  exact ⟨_, fr_ovl 119 ⟨rfl, trivial⟩, hC⟩
 refine c_condF (congrArg Value.bool y6) ?_
 refine wp_skip ?_
 refine c_sr ?_
 refine pl_val (.int .i64 1) (y_assign rfl) ?_
 refine c_nil ?_
 have hO := hO.drop
 have hO := hO.drop
 have hO := hO.fr2
 have hO := hO.drop
 refine c_sr ?_
 refine pl_val (.agg #[(.int .i64 r112.1.1), (.slice c1 c2 c3)]) (y_load rfl ((box_load Ag30 Sz30 a4 [] [(.int .i64 r112.1.1), (.slice c1 c2 c3)] [] rfl rfl (fun h => nomatch h)) _ (Chg.refl _ _))) ?_
 refine pl_val (.int .i64 1) (y_move rfl) ?_
 obtain ⟨r247, Q8, hs⟩ := bind_some hs
 refine pl_call Bd18 rfl (c_laws_heldRelation (M := (Less a6 d6)) (r112.1.1, r162.2) 1 (((Frz.os (Frz.os Frz.int))).val a5 Less.sub Less.not) hO.less.fut Q8) ?_
 rintro _ T6 ⟨rfl, u1⟩
 have a5 := a5.ext u1
 have a4 := a4.cn u1
 have hC := hC.ext u1
 have hO := hO.ext u1
 refine pl_val (.int .i64 r247) (y_assign rfl) ?_
 refine c_nil ?_
 have hO := hO.drop
 have hO := hO.drop
 refine c_seq ?_
 refine c_sr ?_
 refine pl_val (.int .i64 r247) (y_move rfl) ?_
 refine pl_val (.bool (decide (r247 < 0))) (y_lss rfl rfl) ?_
 refine c_nil ?_
 rcases bif_some hs with ⟨y7, hs⟩ | ⟨y7, hs⟩
 ·refine c_condT (congrArg Value.bool y7) ?_
  refine c_sr ?_
  refine pl_val (.bool false) (y_assign rfl) ?_
  refine c_nil ?_
  refine wp_ret ?_
  cases hs
  exact ⟨_, fr_ovl 119 ⟨rfl, trivial⟩, hC⟩
 refine c_condF (congrArg Value.bool y7) ?_
 refine wp_skip ?_
 refine c_seq ?_
 refine c_sr ?_
 refine pl_val (.int .i64 r247) (y_move rfl) ?_
 refine pl_val (.int .i64 r162.1) (y_move rfl) ?_
 refine pl_val (.bool (r247 != r162.1)) (y_neq rfl rfl) ?_
 refine c_nil ?_
 rcases bif_some hs with ⟨y8, hs⟩ | ⟨y8, hs⟩
 ·refine c_condT (congrArg Value.bool y8) ?_
  refine c_sr ?_
  refine pl_val (.bool false) (y_assign rfl) ?_
  refine c_nil ?_
  refine wp_ret ?_
  cases hs
  exact ⟨_, fr_ovl 119 ⟨rfl, trivial⟩, hC⟩
 refine c_condF (congrArg Value.bool y8) ?_
 refine wp_skip ?_
 refine c_sr ?_
 refine pl_val (.bool true) (y_assign rfl) ?_
 refine c_nil ?_
 refine wp_ret ?_
 cases hs
 exact ⟨_, fr_ovl 119 ⟨rfl, trivial⟩, hC⟩

end Go.Proofs
