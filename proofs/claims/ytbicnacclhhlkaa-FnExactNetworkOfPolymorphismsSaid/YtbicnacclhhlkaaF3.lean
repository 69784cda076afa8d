/- What functions of the program compute, as plain functions, and that a call gives just that. Conditions: those named in each theorem. -/
import Derived.Test.YtbicnacclhhlkaaF2
set_option linter.unusedVariables false
namespace Go.Proofs
open Go.G Go.RowKit
set_option maxRecDepth 100000

def k_laws_heldConstraintS (M : Nat → Prop) (w0 : World) (r : Int) (a : Act) (w : World) : Prop :=
  ∃ (σ : Nat → Value) , a = fr 42 (ovl σ [(4, (.int .i64 r))]) ∧ Chg [] w0 w
def s_laws_heldConstraintS (a_ : List ((List Int) × (Int × (List (List Int))))) (k : Int) : Option (Int) :=
  (forC (S := Int) (R := Int) (fun k26 s24 =>
  (idx a_ k26).bind fun x30 =>
  (s_laws_heldIntS x30.1 s24).bind fun r36 =>
  (bif (decide (r36 < 0)) then some (.rt (-1)) else (idx a_ k26).bind fun x38 =>
  (bif (x38.2.1 != r36) then some (.rt (-1)) else (idx a_ k26).bind fun x43 =>
  (s_laws_heldIntSS x43.2.2 (w64 (r36 + 1))).bind fun r50 =>
  (bif (decide (r50 < 0)) then some (.rt (-1)) else some (.nx r50))))) 0 (a_.length : Int) k).bind fun o28 => after o28 (fun r_ => some r_) (fun s24 =>
  some s24)
set_option maxHeartbeats 4000000 in
theorem c_laws_heldConstraintS {M : Nat → Prop} {w : World} {pa0 : Option Addr} {pn0 pc0 : Nat} (a_ : List ((List Int) × (Int × (List (List Int))))) (k : Int) (h0 : (RT.rs (RT.pr (RT.rs (RT.int .i64)) (RT.pr (RT.int .i64) (RT.rs (RT.rs (RT.int .i64)))))).val M w (.slice pa0 pn0 pc0) a_ ([])) (hM : ∀ g, w.heap.size ≤ g → M g) {r : Int} (hs : s_laws_heldConstraintS a_ k = some r) :
    Gives Try.prog 93 [(.slice pa0 pn0 pc0), (.int .i64 k)] w (fun v w' => v = (.int .i64 r) ∧ Chg [] w w') := by
 refine calls_fr Try.func93 rfl Try.ntmps93 (Nat.le_of_ble_eq_true rfl) ?_
 have hO := Own.start (N := Nw w []) hM Nw.fut
 have hC := Chg.refl [] w
 unfold s_laws_heldConstraintS at hs
 refine wp_mono (Q := KPost (k_laws_heldConstraintS M w r)) ?_ (fun e a b4 h => ?_)
 rotate_left
 ·cases e
  case ret =>
   obtain ⟨σ, rfl, hrest⟩ := h
   exact ret1x Try.results93 (res_tmp rfl) ⟨rfl, hrest⟩
  all_goals exact (h : False).elim
 refine c_sr ?_
 refine pl_val (.int .i64 0) (y_assign rfl) ?_
 refine c_nil ?_
 refine c_seq ?_
 refine c_sr ?_
 refine pl_val (.int .i64 0) (y_assign rfl) ?_
 refine c_nil ?_
 obtain ⟨o28, b5, hs⟩ := bind_some hs
 refine wp_block ?_
 refine wp_forC (id := 0) (a_.length : Int) (I := fun k26 s24 a a0 => ∃ (σ : Nat → Value), a = fr 42 (ovl σ [(0, (.slice pa0 pn0 pc0)), (1, (.int .i64 s24)), (5, (.int .i64 k26))]) ∧ Chg [] w a0 ∧ Own (Nw w []) M a0 ([]) ∧ (RT.rs (RT.pr (RT.rs (RT.int .i64)) (RT.pr (RT.int .i64) (RT.rs (RT.rs (RT.int .i64)))))).val M a0 (.slice pa0 pn0 pc0) a_ ([])) (J := fun s24 a a0 => ∃ (σ : Nat → Value), a = fr 42 (ovl σ [(1, (.int .i64 s24))]) ∧ Chg [] w a0 ∧ Own (Nw w []) M a0 ([]) ∧ (RT.rs (RT.pr (RT.rs (RT.int .i64)) (RT.pr (RT.int .i64) (RT.rs (RT.rs (RT.int .i64)))))).val M a0 (.slice pa0 pn0 pc0) a_ ([])) (K := (k_laws_heldConstraintS M w)) ?_ ?_ 0 k o28 _ _ ?_ b5 ?_
 ·rintro k26 s24 a a0 ⟨σ, rfl, hC, hO, h0⟩ hlt
  refine c_seq ?_
  refine c_sr ?_
  refine pl_val (.int .i64 k26) (y_move rfl) ?_
  refine pl_val (.slice pa0 pn0 pc0) (y_move rfl) ?_
  refine pl_val (.int .i64 (a_.length : Int)) (y_len' Sl28 (rs_len h0) rfl) ?_
  refine pl_val (.bool (decide (k26 < (a_.length : Int)))) (y_lss rfl rfl) ?_
  refine c_nil ?_
  refine c_condF (congrArg Value.bool (decide_eq_false hlt)) ?_
  refine wp_exit ?_
  exact ⟨rfl, _, fr_ovl 42 ⟨rfl, trivial⟩, hC, hO, h0⟩
 ·rintro k26 s24 o28 a a0 ⟨σ, rfl, hC, hO, h0⟩ hlt hw hs
  refine c_seq ?_
  refine c_sr ?_
  refine pl_val (.int .i64 k26) (y_move rfl) ?_
  refine pl_val (.slice pa0 pn0 pc0) (y_move rfl) ?_
  refine pl_val (.int .i64 (a_.length : Int)) (y_len' Sl28 (rs_len h0) rfl) ?_
  refine pl_val (.bool (decide (k26 < (a_.length : Int)))) (y_lss rfl rfl) ?_
  refine c_nil ?_
  refine c_condT (congrArg Value.bool (decide_eq_true hlt)) ?_
  refine wp_skip ?_
  refine c_seq ?_
  refine wp_block ?_
  refine c_sr ?_
  refine pl_val (.slice pa0 pn0 pc0) (y_move rfl) ?_
  refine pl_val (.int .i64 k26) (y_move rfl) ?_
  obtain ⟨x30, b6, hs⟩ := bind_some hs
  obtain ⟨b2, b3, b7, b8⟩ := rs_idx Sl28 Sz56 h0 b6
  refine pl_val (.pointer (some ⟨b2, b3, none⟩)) (b7 _ _ _ _ _ _ _ _ _ rfl rfl) ?_
  obtain ⟨b9, _⟩ := pr_at b8
  refine pl_val (.pointer (some ⟨b2, b3 + 0, none⟩)) (y_faddr rfl Fa56x0) ?_
  obtain ⟨e1, c0, a1⟩ := at_load Ag41 Sz41 (fun _ => rfl) b9
  obtain ⟨c1, c2, c3, rfl⟩ := rs_sl a1
  refine pl_val (.slice c1 c2 c3) (y_load rfl (c0 _ (Chg.refl _ _))) ?_
  refine pl_val (.int .i64 s24) (y_move rfl) ?_
  obtain ⟨r36, c4, hs⟩ := bind_some hs
  refine pl_call Bd34 rfl (c_laws_heldIntS (M := M) x30.1 s24 a1 hO.fut c4) ?_
  rintro _ e2 ⟨rfl, a2⟩
  have h0 := h0.ext a2
  have a1 := a1.ext a2
  have hC := hC.ext a2
  have hO := hO.ext a2
  refine pl_val (.int .i64 r36) (y_assign rfl) ?_
  refine c_nil ?_
  refine c_seq ?_
  refine c_sr ?_
  refine pl_val (.int .i64 r36) (y_move rfl) ?_
  refine pl_val (.bool (decide (r36 < 0))) (y_lss rfl rfl) ?_
  refine c_nil ?_
  rcases bif_some hs with ⟨a5, hs⟩ | ⟨a5, hs⟩
  ·refine c_condT (congrArg Value.bool a5) ?_
   refine c_sr ?_
   refine pl_val (.int .i64 (-1)) (y_assign rfl) ?_
   refine c_nil ?_
   refine wp_ret ?_
   cases hs
   exact ⟨_, fr_ovl 42 ⟨rfl, trivial⟩, hC⟩
  refine c_condF (congrArg Value.bool a5) ?_
  refine wp_skip ?_
  refine c_seq ?_
  refine c_sr ?_
  refine pl_val (.slice pa0 pn0 pc0) (y_move rfl) ?_
  refine pl_val (.int .i64 k26) (y_move rfl) ?_
  obtain ⟨x38, c5, hs⟩ := bind_some hs
  obtain ⟨a6, a7, c6, c7⟩ := rs_idx Sl28 Sz56 h0 c5
  refine pl_val (.pointer (some ⟨a6, a7, none⟩)) (c6 _ _ _ _ _ _ _ _ _ rfl rfl) ?_
  obtain ⟨_, c8⟩ := pr_at c7
  refine pl_val (.pointer (some ⟨a6, a7 + 1, none⟩)) (y_faddr rfl Fa56x1) ?_
  obtain ⟨c9, _⟩ := pr_at c8
  refine pl_val (.pointer (some ⟨a6, (a7 + 1) + 0, none⟩)) (y_faddr rfl Fa54x0) ?_
  refine pl_val (.int .i64 x38.2.1) (y_load rfl ((at_load_int Ag3 Sz3 c9) _ (Chg.refl _ _))) ?_
  refine pl_val (.int .i64 r36) (y_move rfl) ?_
  refine pl_val (.bool (x38.2.1 != r36)) (y_neq rfl rfl) ?_
  refine c_nil ?_
  rcases bif_some hs with ⟨a8, hs⟩ | ⟨a8, hs⟩
  ·refine c_condT (congrArg Value.bool a8) ?_
   refine c_sr ?_
   refine pl_val (.int .i64 (-1)) (y_assign rfl) ?_
   refine c_nil ?_
   refine wp_ret ?_
   cases hs
   exact ⟨_, fr_ovl 42 ⟨rfl, trivial⟩, hC⟩
  refine c_condF (congrArg Value.bool a8) ?_
  refine wp_skip ?_
  refine c_sr ?_
  refine pl_val (.int .i64 r36) (y_move rfl) ?_
  refine pl_val (.int .i64 (w64 (r36 + 1))) (y_add rfl rfl) ?_
  refine pl_val (.int .i64 (w64 (r36 + 1))) (y_assign rfl) ?_
  refine c_nil ?_
  refine c_sr ?_
  refine pl_val (.slice pa0 pn0 pc0) (y_move rfl) ?_
  refine pl_val (.int .i64 k26) (y_move rfl) ?_
  obtain ⟨x43, d0, hs⟩ := bind_some hs
  obtain ⟨a9, b0, d1, d2⟩ := rs_idx Sl28 Sz56 h0 d0
  refine pl_val (.pointer (some ⟨a9, b0, none⟩)) (d1 _ _ _ _ _ _ _ _ _ rfl rfl) ?_
  obtain ⟨_, d3⟩ := pr_at d2
  refine pl_val (.pointer (some ⟨a9, b0 + 1, none⟩)) (y_faddr rfl Fa56x1) ?_
  obtain ⟨_, d4⟩ := pr_at d3
  refine pl_val (.pointer (some ⟨a9, (b0 + 1) + 1, none⟩)) (y_faddr rfl Fa54x1) ?_
  obtain ⟨e3, d5, a3⟩ := at_load Ag47 Sz47 (fun _ => rfl) d4
  obtain ⟨d6, d7, d8, rfl⟩ := rs_sl a3
  refine pl_val (.slice d6 d7 d8) (y_load rfl (d5 _ (Chg.refl _ _))) ?_
  refine pl_val (.int .i64 (w64 (r36 + 1))) (y_move rfl) ?_
  obtain ⟨r50, d9, hs⟩ := bind_some hs
  refine pl_call Bd39 rfl (c_laws_heldIntSS (M := M) x43.2.2 (w64 (r36 + 1)) a3 hO.fut d9) ?_
  rintro _ e4 ⟨rfl, a4⟩
  have h0 := h0.ext a4
  have a3 := a3.ext a4
  have hC := hC.ext a4
  have hO := hO.ext a4
  refine pl_val (.int .i64 r50) (y_assign rfl) ?_
  refine c_nil ?_
  refine c_sr ?_
  refine pl_val (.int .i64 r50) (y_move rfl) ?_
  refine pl_val (.bool (decide (r50 < 0))) (y_lss rfl rfl) ?_
  refine c_nil ?_
  rcases bif_some hs with ⟨b1, hs⟩ | ⟨b1, hs⟩
  ·refine c_condT (congrArg Value.bool b1) ?_
   refine c_sr ?_
   refine pl_val (.int .i64 (-1)) (y_assign rfl) ?_
   refine c_nil ?_
   refine wp_ret ?_
   cases hs
   exact ⟨_, fr_ovl 42 ⟨rfl, trivial⟩, hC⟩
  refine c_condF (congrArg Value.bool b1) ?_
  refine wp_skip ?_
  refine c_region ?_
  refine pl_val (.int .i64 k26) (y_move rfl) ?_
  refine pl_val (.int .i64 (w64 (k26 + 1))) (y_add rfl rfl) ?_
  refine pl_val (.int .i64 (w64 (k26 + 1))) (y_assign rfl) ?_
  refine c_nil ?_
  cases hs
  exact ⟨_, fr_ovl 42 ⟨rfl, rfl, congrArg (Value.int .i64) hw, trivial⟩, hC, hO, h0⟩
 ·skip
  exact ⟨_, fr_ovl 42 ⟨rfl, rfl, rfl, trivial⟩, hC, hO, h0⟩
 cases o28 with
 | nx _ => exact True.intro
 | rt r_ =>
  have hs := after_rt hs
  intro e0 b4 hK
  cases hs
  exact hK
 | br s24 =>
  have hs := after_br hs
  rintro e0 a0 ⟨σ, rfl, hC, hO, h0⟩
  refine c_sr ?_
  refine pl_val (.int .i64 s24) (y_move rfl) ?_
  refine pl_val (.int .i64 s24) (y_assign rfl) ?_
  refine c_nil ?_
  refine wp_ret ?_
  cases hs
  exact ⟨_, fr_ovl 42 ⟨rfl, trivial⟩, hC⟩

theorem Bd93 : Bodied Try.prog 93 := bodied Try.func93 (by kernel_rfl) rfl

def k_laws_heldNetwork (M : Nat → Prop) (w0 : World) (r : Int) (a : Act) (w : World) : Prop :=
  ∃ (σ : Nat → Value) , a = fr 12 (ovl σ [(4, (.int .i64 r))]) ∧ Chg [] w0 w
def s_laws_heldNetwork (a_ : Int × Int × (List ((List Int) × (Int × (List (List Int)))))) (k : Int) : Option (Int) :=
  (s_laws_heldConstraintS a_.2.2 k).bind fun r4 =>
  (bif (decide (r4 < 0)) then some (-1) else some r4)
set_option maxHeartbeats 4000000 in
theorem c_laws_heldNetwork {M : Nat → Prop} {w : World} {pa0 : Option Addr} {pn0 pc0 : Nat} (a_ : Int × Int × (List ((List Int) × (Int × (List (List Int)))))) (k : Int) (h0 : (RT.rs (RT.pr (RT.rs (RT.int .i64)) (RT.pr (RT.int .i64) (RT.rs (RT.rs (RT.int .i64)))))).val M w (.slice pa0 pn0 pc0) a_.2.2 ([])) (hM : ∀ g, w.heap.size ≤ g → M g) {r : Int} (hs : s_laws_heldNetwork a_ k = some r) :
    Gives Try.prog 43 [(.agg #[(.int .i64 a_.1), (.int .i64 a_.2.1), (.slice pa0 pn0 pc0)]), (.int .i64 k)] w (fun v w' => v = (.int .i64 r) ∧ Chg [] w w') := by
 refine calls_fr Try.func43 rfl Try.ntmps43 (Nat.le_of_ble_eq_true rfl) ?_
 have hO := Own.start (N := Nw w []) hM Nw.fut
 have hC := Chg.refl [] w
 unfold s_laws_heldNetwork at hs
 refine wp_mono (Q := KPost (k_laws_heldNetwork M w r)) ?_ (fun e a a9 h => ?_)
 rotate_left
 ·cases e
  case ret =>
   obtain ⟨σ, rfl, hrest⟩ := h
   exact ret1x Try.results43 (res_tmp rfl) ⟨rfl, hrest⟩
  all_goals exact (h : False).elim
 refine c_sr ?_
 obtain ⟨a6, a4, a7, a5, a2, a0⟩ := new_block w [(.int .i64 a_.1), (.int .i64 a_.2.1), (.slice pa0 pn0 pc0)] 30
 refine pl_val (w' := a6) (.pointer (some ⟨a4, 0, none⟩)) (y_box rfl (by rw [a7, a5]; kernel_rfl)) ?_
 have h0 := h0.ext a2
 have hC := hC.ext a2
 have hO := hO.new1 a2 a5 a0.lt
 refine pl_val (.int .i64 0) (y_assign rfl) ?_
 refine c_nil ?_
 refine c_sr ?_
 refine pl_val (.pointer (some ⟨a4, 2, none⟩)) (y_faddr rfl Fa30x2) ?_
 refine pl_val (.slice pa0 pn0 pc0) (y_load rfl ((box_load Ag28 Sz28 a0 [(.int .i64 a_.1), (.int .i64 a_.2.1)] [(.slice pa0 pn0 pc0)] [] rfl rfl (fun _ => rfl)) _ (Chg.refl _ _))) ?_
 refine pl_val (.int .i64 k) (y_move rfl) ?_
 obtain ⟨r4, a8, hs⟩ := bind_some hs
 refine pl_call Bd93 rfl (c_laws_heldConstraintS (M := M) a_.2.2 k h0 hO.fut a8) ?_
 rintro _ b0 ⟨rfl, a1⟩
 have h0 := h0.ext a1
 have a0 := a0.cn a1
 have hC := hC.ext a1
 have hO := hO.ext a1
 refine pl_val (.int .i64 r4) (y_assign rfl) ?_
 refine c_nil ?_
 have hO := hO.drop
 refine c_seq ?_
 refine c_sr ?_
 refine pl_val (.int .i64 r4) (y_move rfl) ?_
 refine pl_val (.bool (decide (r4 < 0))) (y_lss rfl rfl) ?_
 refine c_nil ?_
 rcases bif_some hs with ⟨a3, hs⟩ | ⟨a3, hs⟩
 ·refine c_condT (congrArg Value.bool a3) ?_
  refine c_sr ?_
  refine pl_val (.int .i64 (-1)) (y_assign rfl) ?_
  refine c_nil ?_
  refine wp_ret ?_
  cases hs
  exact ⟨_, fr_ovl 12 ⟨rfl, trivial⟩, hC⟩
 refine c_condF (congrArg Value.bool a3) ?_
 refine wp_skip ?_
 refine c_sr ?_
 refine pl_val (.int .i64 r4) (y_move rfl) ?_
 refine pl_val (.int .i64 r4) (y_assign rfl) ?_
 refine c_nil ?_
 refine wp_ret ?_
 cases hs
 exact ⟨_, fr_ovl 12 ⟨rfl, trivial⟩, hC⟩

theorem Bd16 : Bodied Try.prog 16 := bodied Try.func16 (by kernel_rfl) rfl

theorem Bd18 : Bodied Try.prog 18 := bodied Try.func18 (by kernel_rfl) rfl

theorem Bd40 : Bodied Try.prog 40 := bodied Try.func40 (by kernel_rfl) rfl

theorem Bd41 : Bodied Try.prog 41 := bodied Try.func41 (by kernel_rfl) rfl

theorem Bd15 : Bodied Try.prog 15 := bodied Try.func15 (by kernel_rfl) rfl

theorem Bd20 : Bodied Try.prog 20 := bodied Try.func20 (by kernel_rfl) rfl

theorem Bd42 : Bodied Try.prog 42 := bodied Try.func42 (by kernel_rfl) rfl

theorem Bd32 : Bodied Try.prog 32 := bodied Try.func32 (by kernel_rfl) rfl

theorem Bd43 : Bodied Try.prog 43 := bodied Try.func43 (by kernel_rfl) rfl

def k_laws_FnExactNetworkOfPolymorphisms (M : Nat → Prop) (w0 : World) (r : Bool) (a : Act) (w : World) : Prop :=
  ∃ (σ : Nat → Value) , a = fr 106 (ovl σ [(6, (.bool r))]) ∧ Chg [] w0 w
def s_laws_FnExactNetworkOfPolymorphisms (aN : Int) (aRels : List (Int × (List (List Int)))) (aK : Int) : Option (Bool) :=
  (s_laws_szRelationS aRels 1048576).bind fun r3 =>
  (bif (decide (r3 < 0)) then some true else (s_laws_toRelationS aRels).bind fun r6 =>
  (s_spec_NetworkOfPolymorphisms aN r6 aK).bind fun r10 =>
  (s_laws_toRelationS aRels).bind fun r15 =>
  (s_impl_NetworkOfPolymorphisms aN r15 aK).bind fun r18 =>
  ((s_laws_eqNetwork (r18.1.1, r18.1.2.1, r18.1.2.2) (r10.1.1, r10.1.2.1, r10.1.2.2)).bind fun r26 =>
  (bif (!r26) then some true else some (!(r18.2 == r10.2)))).bind fun s22 =>
  (bif s22 then some false else (s_laws_toRelationS aRels).bind fun r30 =>
  (s_laws_eqRelationS r15 r30).bind fun r33 =>
  (bif (!r33) then some false else (s_laws_markRelationS r15 1).bind fun r36 =>
  ((bif (decide (r36.1 < 0)) then some true else (s_laws_eqNetwork (r18.1.1, r18.1.2.1, r18.1.2.2) (r10.1.1, r10.1.2.1, r10.1.2.2)).bind fun r42 =>
  (bif (!r42) then some true else some (!(r18.2 == r10.2))))).bind fun s37 =>
  (bif s37 then some false else (s_laws_markNetwork (r18.1.1, r18.1.2.1, r18.1.2.2) 1).bind fun r46 =>
  (s_laws_heldNetwork (r18.1.1, r18.1.2.1, r46.2) 1).bind fun r48 =>
  (bif (decide (r48 < 0)) then some false else (bif (r48 != r46.1) then some false else (s_laws_toRelationS aRels).bind fun r52 =>
  (s_impl_NetworkOfPolymorphisms aN r52 aK).bind fun r55 =>
  ((s_laws_eqNetwork (r55.1.1, r55.1.2.1, r55.1.2.2) (r10.1.1, r10.1.2.1, r10.1.2.2)).bind fun r63 =>
  (bif (!r63) then some true else some (!(r55.2 == r10.2)))).bind fun s59 =>
  (bif s59 then some false else (s_laws_heldNetwork (r18.1.1, r18.1.2.1, r46.2) 1).bind fun r67 =>
  (bif (decide (r67 < 0)) then some false else (bif (r67 != r46.1) then some false else some true)))))))))
set_option maxHeartbeats 4000000 in
theorem c_laws_FnExactNetworkOfPolymorphisms {M : Nat → Prop} {w : World} {pa0 : Option Addr} {pn0 pc0 : Nat} (aN : Int) (aRels : List (Int × (List (List Int)))) (aK : Int) (h0 : (RT.rs (RT.pr (RT.int .i64) (RT.rs (RT.rs (RT.int .i64))))).val M w (.slice pa0 pn0 pc0) aRels ([])) (hM : ∀ g, w.heap.size ≤ g → M g) {r : Bool} (hs : s_laws_FnExactNetworkOfPolymorphisms aN aRels aK = some r) :
    Gives Try.prog 9 [(.int .i64 aN), (.slice pa0 pn0 pc0), (.int .i64 aK)] w (fun v w' => v = (.bool r) ∧ Chg [] w w') := by
 refine calls_fr Try.func9 rfl Try.ntmps9 (Nat.le_of_ble_eq_true rfl) ?_
 have hO := Own.start (N := Nw w []) hM Nw.fut
 have hC := Chg.refl [] w
 unfold s_laws_FnExactNetworkOfPolymorphisms at hs
 refine wp_mono (Q := KPost (k_laws_FnExactNetworkOfPolymorphisms M w r)) ?_ (fun e a n6 h => ?_)
 rotate_left
 ·cases e
  case ret =>
   obtain ⟨σ, rfl, hrest⟩ := h
   exact ret1x Try.results9 (res_tmp rfl) ⟨rfl, hrest⟩
  all_goals exact (h : False).elim
 refine c_sr ?_
 refine pl_val (.bool false) (y_assign rfl) ?_
 refine c_nil ?_
 refine c_sr ?_
 refine pl_val (.int .i64 1048576) (y_assign rfl) ?_
 refine c_nil ?_
 refine c_sr ?_
 refine pl_val (.slice pa0 pn0 pc0) (y_move rfl) ?_
 refine pl_val (.int .i64 1048576) (y_move rfl) ?_
 obtain ⟨r3, j1, hs⟩ := bind_some hs
 refine pl_call Bd16 rfl (c_laws_szRelationS (M := M) aRels 1048576 h0 hO.fut j1) ?_
 rintro _ n7 ⟨rfl, f9⟩
 have h0 := h0.ext f9
 have hC := hC.ext f9
 have hO := hO.ext f9
 refine pl_val (.int .i64 r3) (y_assign rfl) ?_
 refine c_nil ?_
 refine c_seq ?_
 refine c_sr ?_
 refine pl_val (.int .i64 r3) (y_move rfl) ?_
 refine pl_val (.bool (decide (r3 < 0))) (y_lss rfl rfl) ?_
 refine c_nil ?_
 rcases bif_some hs with ⟨g0, hs⟩ | ⟨g0, hs⟩
 ·refine c_condT (congrArg Value.bool g0) ?_
  refine c_sr ?_
  refine pl_val (.bool true) (y_assign rfl) ?_
  refine c_nil ?_
  refine wp_ret ?_
  cases hs
  exact ⟨_, fr_ovl 106 ⟨rfl, trivial⟩, hC⟩
 refine c_condF (congrArg Value.bool g0) ?_
 refine wp_skip ?_
 refine c_sr ?_
 refine pl_val (.int .i64 aN) (y_move rfl) ?_
 refine pl_val (.slice pa0 pn0 pc0) (y_move rfl) ?_
 obtain ⟨r6, j2, hs⟩ := bind_some hs
 refine pl_call Bd18 rfl (c_laws_toRelationS (M := M) aRels h0 hO.fut j2) ?_
 rintro _ a6 ⟨n8, n9, o0, j3, rfl, g1, j4, j5⟩
 have h0 := h0.ext g1
 have hC := hC.ext g1
 have hO := Own.join0 hO g1 j5
 have hO := hO.perm (R := j3 ++ ([])) (by simp)
 refine pl_val (.int .i64 aK) (y_move rfl) ?_
 obtain ⟨a4, o1, j6, j7, hO, b9⟩ := frz_own (Frz.os (Frz.pr Frz.int (Frz.os (Frz.os Frz.int)))) j4 hO
 have h0 := h0.sub (M' := a4) j6
 have hK := j7
 obtain ⟨r10, j8, hs⟩ := bind_some hs
 refine pl_call Bd40 rfl (c_spec_NetworkOfPolymorphisms (M := a4) aN r6 aK b9 hO.fut j8) ?_
 rintro _ a5 ⟨b6, b7, b8, rfl, f5, a0⟩
 have hK := hK.trans (show Keeps w a4 (Past a4 a6 a5) from Keeps.past hC.size)
 have h0 := h0.ext f5
 have b9 := b9.ext f5
 have hC := hC.ext f5
 have hO := hO.past f5
 have h0 := h0.sub (M' := (Past a4 a6 a5)) (fun g hg => .inl hg.1)
 have b9 := b9.sub (M' := (Past a4 a6 a5)) (fun g hg => .inl hg.1)
 refine pl_val (.tuple #[(.agg #[(.int .i64 r10.1.1), (.int .i64 r10.1.2.1), (.slice b6 b7 b8)]), (.bool r10.2)]) (y_move rfl) ?_
 refine pl_val (.agg #[(.int .i64 r10.1.1), (.int .i64 r10.1.2.1), (.slice b6 b7 b8)]) (y_extract rfl (by kernel_rfl)) ?_
 refine pl_val (.bool r10.2) (y_extract rfl (by kernel_rfl)) ?_
 obtain ⟨j9, a9, k0, h3, e8, h4⟩ := new_block a5 [(.int .i64 0), (.int .i64 0), (.slice none 0 0)] 30
 refine pl_val (w' := j9) (.pointer (some ⟨a9, 0, none⟩)) (y_alloc (by rw [k0, h3]; kernel_rfl)) ?_
 have h0 := h0.ext e8
 have b9 := b9.ext e8
 have a0 := a0.ext e8
 have hC := hC.ext e8
 have hO := hO.new1 e8 h3 h4.lt
 obtain ⟨h5, k1, e9, a1⟩ := box_store (P := Try.prog) h4 [] [(.int .i64 0), (.int .i64 0), (.slice none 0 0)] [] [(.int .i64 r10.1.1), (.int .i64 r10.1.2.1), (.slice b6 b7 b8)] rfl rfl (by intro u hu; simp only [List.mem_cons, List.not_mem_nil, or_false] at hu; rcases hu with rfl | rfl | rfl <;> rfl)
 refine pl_skip (w' := h5) (ys_store rfl rfl (k1 _ _ rfl Sz30)) ?_
 have h0 := h0.mt e9 hO same_
 have b9 := b9.mt e9 hO same_
 have a0 := a0.mt e9 hO same_
 have hC := hC.st e9 hO same_
 have hO := hO.ext e9
 have a1 : BoxV h5 a9 30 [(.int .i64 r10.1.1), (.int .i64 r10.1.2.1), (.slice b6 b7 b8)] := a1
 refine pl_val (.bool r10.2) (y_assign rfl) ?_
 refine c_nil ?_
 refine c_sr ?_
 refine pl_val (.slice pa0 pn0 pc0) (y_move rfl) ?_
 obtain ⟨r15, k2, hs⟩ := bind_some hs
 refine pl_call Bd18 rfl (c_laws_toRelationS (M := (Past a4 a6 a5)) aRels h0 hO.fut k2) ?_
 rintro _ o2 ⟨f0, f1, f2, d3, rfl, f3, a8, k3⟩
 have h0 := h0.ext f3
 have a0 := a0.ext f3
 have a1 := a1.cn f3
 have hC := hC.ext f3
 have hO := Own.join0 hO f3 k3
 have hO := hO.perm (R := d3 ++ (([a9]) ++ ([]))) (by simp)
 refine pl_val (.slice f0 f1 f2) (y_assign rfl) ?_
 refine c_nil ?_
 refine c_sr ?_
 refine pl_val (.int .i64 aN) (y_move rfl) ?_
 refine pl_val (.slice f0 f1 f2) (y_move rfl) ?_
 refine pl_val (.int .i64 aK) (y_move rfl) ?_
 obtain ⟨r18, k4, hs⟩ := bind_some hs
 refine pl_call Bd41 rfl (c_impl_NetworkOfPolymorphisms (M := (Less (Past a4 a6 a5) d3)) aN r15 aK (((Frz.os (Frz.pr Frz.int (Frz.os (Frz.os Frz.int))))).val a8 Less.sub Less.not) hO.less.fut k4) ?_
 rintro _ k5 ⟨b0, b1, b2, c0, rfl, e3, a3, k6⟩
 have h0 := h0.ext e3
 have a0 := a0.ext e3
 have a1 := a1.cn e3
 have a8 := a8.ext e3
 have hC := hC.ext e3
 have hO := Own.join0 hO e3 k6
 have hO := hO.perm (R := c0 ++ (d3 ++ (([a9]) ++ ([])))) (by simp)
 have a3 := a3.free (M' := (Past a4 a6 a5)) (Free.os (Free.pr (Free.os Free.int) (Free.pr Free.int (Free.os (Free.os Free.int)))))
 refine pl_val (.tuple #[(.agg #[(.int .i64 r18.1.1), (.int .i64 r18.1.2.1), (.slice b0 b1 b2)]), (.bool r18.2)]) (y_move rfl) ?_
 refine pl_val (.agg #[(.int .i64 r18.1.1), (.int .i64 r18.1.2.1), (.slice b0 b1 b2)]) (y_extract rfl (by kernel_rfl)) ?_
 refine pl_val (.bool r18.2) (y_extract rfl (by kernel_rfl)) ?_
 obtain ⟨k7, b3, k8, h6, d4, h7⟩ := new_block k5 [(.int .i64 0), (.int .i64 0), (.slice none 0 0)] 30
 refine pl_val (w' := k7) (.pointer (some ⟨b3, 0, none⟩)) (y_alloc (by rw [k8, h6]; kernel_rfl)) ?_
 have h0 := h0.ext d4
 have a0 := a0.ext d4
 have a1 := a1.cn d4
 have a8 := a8.ext d4
 have a3 := a3.ext d4
 have hC := hC.ext d4
 have hO := hO.new1 d4 h6 h7.lt
 obtain ⟨f6, k9, d5, a2⟩ := box_store (P := Try.prog) h7 [] [(.int .i64 0), (.int .i64 0), (.slice none 0 0)] [] [(.int .i64 r18.1.1), (.int .i64 r18.1.2.1), (.slice b0 b1 b2)] rfl rfl (by intro u hu; simp only [List.mem_cons, List.not_mem_nil, or_false] at hu; rcases hu with rfl | rfl | rfl <;> rfl)
 refine pl_skip (w' := f6) (ys_store rfl rfl (k9 _ _ rfl Sz30)) ?_
 have h0 := h0.mt d5 hO same_
 have a0 := a0.mt d5 hO same_
 have a1 := a1.ap d5 hO same_ (mem_r (mem_r (mem_l (List.mem_singleton.2 rfl))))
 have a8 := a8.ma d5 hO same_ (fun _ e => (mem_r (mem_l (e))))
 have a3 := a3.ma d5 hO same_ (fun _ e => (mem_l (e)))
 have hC := hC.st d5 hO same_
 have hO := hO.ext d5
 have a2 : BoxV f6 b3 30 [(.int .i64 r18.1.1), (.int .i64 r18.1.2.1), (.slice b0 b1 b2)] := a2
 refine pl_val (.bool r18.2) (y_assign rfl) ?_
 refine c_nil ?_
 refine c_seq ?_
 refine c_seq ?_
 obtain ⟨s22, l0, hs⟩ := bind_some hs
 refine c_mid (I := fun a h8 => ∃ (σ : Nat → Value), a = fr 106 (ovl σ [(0, (.int .i64 aN)), (1, (.slice pa0 pn0 pc0)), (2, (.int .i64 aK)), (6, (.bool false)), (8, (.pointer (some ⟨a9, 0, none⟩))), (9, (.bool r10.2)), (10, (.slice f0 f1 f2)), (11, (.pointer (some ⟨b3, 0, none⟩))), (12, (.bool r18.2)), (48, (.bool s22))]) ∧ Chg [] f6 h8) ?_ ?_
 ·replace hs := l0
  have hMid := Chg.refl [] f6
  refine c_region ?_
  refine pl_val (.agg #[(.int .i64 r18.1.1), (.int .i64 r18.1.2.1), (.slice b0 b1 b2)]) (y_load rfl ((box_load Ag30 Sz30 a2 [] [(.int .i64 r18.1.1), (.int .i64 r18.1.2.1), (.slice b0 b1 b2)] [] rfl rfl (fun h => nomatch h)) _ (Chg.refl _ _))) ?_
  refine pl_val (.agg #[(.int .i64 r10.1.1), (.int .i64 r10.1.2.1), (.slice b6 b7 b8)]) (y_load rfl ((box_load Ag30 Sz30 a1 [] [(.int .i64 r10.1.1), (.int .i64 r10.1.2.1), (.slice b6 b7 b8)] [] rfl rfl (fun h => nomatch h)) _ (Chg.refl _ _))) ?_
  have hO := hO.fr1
  obtain ⟨r26, l1, hs⟩ := bind_some hs
  refine pl_call Bd15 rfl (c_laws_eqNetwork (M := (Less (Past a4 a6 a5) c0)) (r18.1.1, r18.1.2.1, r18.1.2.2) (r10.1.1, r10.1.2.1, r10.1.2.2) (((Frz.os (Frz.pr (Frz.os Frz.int) (Frz.pr Frz.int (Frz.os (Frz.os Frz.int)))))).val a3 Less.sub Less.not) (a0.sub Less.sub) hO.less.fut l1) ?_
  rintro _ o3 ⟨rfl, c1⟩
  have h0 := h0.ext c1
  have a0 := a0.ext c1
  have a1 := a1.cn c1
  have a8 := a8.ext c1
  have a3 := a3.ext c1
  have a2 := a2.cn c1
  have hMid := hMid.ext c1
  have hC := hC.ext c1
  have hO := hO.ext c1
  refine pl_val (.bool (!r26)) (y_not rfl) ?_
  refine pl_val (.bool (!r26)) (y_move rfl) ?_
  rcases bif_some hs with ⟨c2, hs⟩ | ⟨c2, hs⟩
  ·skip
   refine pl_not (tg := 44) (by kernel_rfl) (congrArg Value.bool c2) ?_
   refine pl_not (tg := 44) (by kernel_rfl) (congrArg Value.bool c2) ?_
   refine pl_not (tg := 44) (by kernel_rfl) (congrArg Value.bool c2) ?_
   refine pl_val (.bool true) (y_pick_t (congrArg Value.bool c2) rfl) ?_
   refine c_nil ?_
   cases hs
   exact ⟨_, fr_ovl 106 ⟨rfl, rfl, rfl, rfl, rfl, rfl, rfl, rfl, rfl, rfl, trivial⟩, hMid⟩
  refine pl_yes (.bool r18.2) (tg := 44) (by kernel_rfl) (congrArg Value.bool c2) (y_move rfl) ?_
  refine pl_yes (.bool r10.2) (tg := 44) (by kernel_rfl) (congrArg Value.bool c2) (y_move rfl) ?_
  refine pl_yes (.bool (!(r18.2 == r10.2))) (tg := 44) (by kernel_rfl) (congrArg Value.bool c2) (y_bneq Try.underlying4 rfl rfl) ?_
  refine pl_val (.bool (!(r18.2 == r10.2))) (y_pick_f (congrArg Value.bool c2) rfl) ?_
  refine c_nil ?_
  cases hs
  exact ⟨_, fr_ovl 106 ⟨rfl, rfl, rfl, rfl, rfl, rfl, rfl, rfl, rfl, rfl, trivial⟩, hMid⟩
 rintro h9 h8 ⟨σ, rfl, c9⟩
 have h0 := h0.ext c9
 have a0 := a0.ext c9
 have a1 := a1.cn c9
 have a8 := a8.ext c9
 have a3 := a3.ext c9
 have a2 := a2.cn c9
 have hC := hC.ext c9
 have hO := hO.ext c9
 rcases bif_some hs with ⟨g2, hs⟩ | ⟨g2, hs⟩
 ·refine c_condT (congrArg Value.bool g2) ?_
  refine c_sr ?_
  refine pl_val (.bool false) (y_assign rfl) ?_
  refine c_nil ?_
  refine wp_ret ?_
  cases hs
  exact ⟨_, fr_ovl 106 ⟨rfl, trivial⟩, hC⟩
 refine c_condF (congrArg Value.bool g2) ?_
 refine wp_skip ?_
 refine c_seq ?_
 refine c_sr ?_
 refine pl_val (.slice f0 f1 f2) (y_move rfl) ?_
 refine pl_val (.slice pa0 pn0 pc0) (y_move rfl) ?_
 obtain ⟨r30, l2, hs⟩ := bind_some hs
 refine pl_call Bd18 rfl (c_laws_toRelationS (M := (Past a4 a6 a5)) aRels h0 hO.fut l2) ?_
 rintro _ o4 ⟨o5, o6, o7, i0, rfl, d0, g3, l3⟩
 have h0 := h0.ext d0
 have a0 := a0.ext d0
 have a1 := a1.cn d0
 have a8 := a8.ext d0
 have a3 := a3.ext d0
 have a2 := a2.cn d0
 have hC := hC.ext d0
 have hO := Own.join0 hO d0 l3
 have hO := hO.perm (R := i0 ++ (([b3]) ++ (c0 ++ (d3 ++ (([a9]) ++ ([])))))) (by simp)
 have hO := hO.fr3
 obtain ⟨r33, l4, hs⟩ := bind_some hs
 refine pl_call Bd20 rfl (c_laws_eqRelationS (M := (Less (Less (Past a4 a6 a5) d3) i0)) r15 r30 ((((Frz.os (Frz.pr Frz.int (Frz.os (Frz.os Frz.int))))).val a8 Less.sub Less.not).sub Less.sub) (((Frz.os (Frz.pr Frz.int (Frz.os (Frz.os Frz.int))))).val (g3.sub Less.sub) Less.sub Less.not) (hO.less).less.fut l4) ?_
 rintro _ o8 ⟨rfl, c3⟩
 have h0 := h0.ext c3
 have a0 := a0.ext c3
 have a1 := a1.cn c3
 have a8 := a8.ext c3
 have a3 := a3.ext c3
 have a2 := a2.cn c3
 have g3 := g3.ext c3
 have hC := hC.ext c3
 have hO := hO.ext c3
 refine pl_val (.bool (!r33)) (y_not rfl) ?_
 refine c_nil ?_
 have hO := hO.fr1
 have hO := hO.drop
 rcases bif_some hs with ⟨g4, hs⟩ | ⟨g4, hs⟩
 ·refine c_condT (congrArg Value.bool g4) ?_
  refine c_sr ?_
  refine pl_val (.bool false) (y_assign rfl) ?_
  refine c_nil ?_
  refine wp_ret ?_
  cases hs
  exact ⟨_, fr_ovl 106 ⟨rfl, trivial⟩, hC⟩
 refine c_condF (congrArg Value.bool g4) ?_
 refine wp_skip ?_
 refine c_sr ?_
 refine pl_val (.int .i64 1) (y_assign rfl) ?_
 refine c_nil ?_
 refine c_sr ?_
 refine pl_val (.slice f0 f1 f2) (y_move rfl) ?_
 refine pl_val (.int .i64 1) (y_move rfl) ?_
 have l5 := hO
 have i1 := Own.lend (F := (d3 ++ ([]))) (R := ([b3]) ++ (c0 ++ (([a9]) ++ ([])))) (Own.perm (l5) (by simp))
 obtain ⟨r36, l6, hs⟩ := bind_some hs
 refine pl_call Bd42 rfl (c_laws_markRelationS (M := (Past a4 a6 a5)) r15 1 a8 i1 i1.fut l6) ?_
 rintro _ i2 ⟨l7, rfl, d6, o9, l8⟩
 have hO := hO.perm (R := (d3 ++ ([])) ++ (([b3]) ++ (c0 ++ (([a9]) ++ ([]))))) (by simp)
 have h0 := h0.mt d6 hO same_
 have a0 := a0.mt d6 hO same_
 have a1 := a1.ap d6 hO same_ (mem_r (mem_r (mem_l (List.mem_singleton.2 rfl))))
 have a3 := a3.ma d6 hO same_ (fun _ e => (mem_r (mem_l (e))))
 have a2 := a2.ap d6 hO same_ (mem_l (List.mem_singleton.2 rfl))
 have hC := hC.st d6 hO same_
 have hO := Own.join hO d6 l8
 have hO := hO.perm (R := l7 ++ (([b3]) ++ (c0 ++ (([a9]) ++ ([]))))) (by simp)
 refine pl_val (.int .i64 r36.1) (y_assign rfl) ?_
 refine c_nil ?_
 have hO := hO.drop
 refine c_seq ?_
 refine c_seq ?_
 obtain ⟨s37, l9, hs⟩ := bind_some hs
 refine c_mid (I := fun a i3 => ∃ (σ : Nat → Value), a = fr 106 (ovl σ [(0, (.int .i64 aN)), (1, (.slice pa0 pn0 pc0)), (2, (.int .i64 aK)), (6, (.bool false)), (8, (.pointer (some ⟨a9, 0, none⟩))), (9, (.bool r10.2)), (11, (.pointer (some ⟨b3, 0, none⟩))), (69, (.bool s37))]) ∧ Chg [] i2 i3) ?_ ?_
 ·replace hs := l9
  have hMid := Chg.refl [] i2
  refine c_region ?_
  refine pl_val (.int .i64 r36.1) (y_move rfl) ?_
  refine pl_val (.bool (decide (r36.1 < 0))) (y_lss rfl rfl) ?_
  refine pl_val (.bool (decide (r36.1 < 0))) (y_move rfl) ?_
  rcases bif_some hs with ⟨b4, hs⟩ | ⟨b4, hs⟩
  ·skip
   refine pl_not (tg := 59) (by kernel_rfl) (congrArg Value.bool b4) ?_
   refine pl_not (tg := 59) (by kernel_rfl) (congrArg Value.bool b4) ?_
   refine pl_not (tg := 59) (by kernel_rfl) (congrArg Value.bool b4) ?_
   refine pl_not (tg := 59) (by kernel_rfl) (congrArg Value.bool b4) ?_
   refine pl_val (.bool true) (y_pick_t (congrArg Value.bool b4) rfl) ?_
   refine pl_val (.bool true) (y_move rfl) ?_
   refine pl_not (tg := 65) (by kernel_rfl) (by rfl) ?_
   refine pl_not (tg := 65) (by kernel_rfl) (by rfl) ?_
   refine pl_not (tg := 65) (by kernel_rfl) (by rfl) ?_
   refine pl_val (.bool true) (y_pick_t (by rfl) rfl) ?_
   refine c_nil ?_
   cases hs
   exact ⟨_, fr_ovl 106 ⟨rfl, rfl, rfl, rfl, rfl, rfl, rfl, rfl, trivial⟩, hMid⟩
  refine pl_yes (.agg #[(.int .i64 r18.1.1), (.int .i64 r18.1.2.1), (.slice b0 b1 b2)]) (tg := 59) (by kernel_rfl) (congrArg Value.bool b4) (y_load rfl ((box_load Ag30 Sz30 a2 [] [(.int .i64 r18.1.1), (.int .i64 r18.1.2.1), (.slice b0 b1 b2)] [] rfl rfl (fun h => nomatch h)) _ (Chg.refl _ _))) ?_
  refine pl_yes (.agg #[(.int .i64 r10.1.1), (.int .i64 r10.1.2.1), (.slice b6 b7 b8)]) (tg := 59) (by kernel_rfl) (congrArg Value.bool b4) (y_load rfl ((box_load Ag30 Sz30 a1 [] [(.int .i64 r10.1.1), (.int .i64 r10.1.2.1), (.slice b6 b7 b8)] [] rfl rfl (fun h => nomatch h)) _ (Chg.refl _ _))) ?_
  have hO := hO.fr1
  obtain ⟨r42, m0, hs⟩ := bind_some hs
  refine pl_cally (tg := 59) (by kernel_rfl) (congrArg Value.bool b4) Bd15 rfl (c_laws_eqNetwork (M := (Less (Past a4 a6 a5) c0)) (r18.1.1, r18.1.2.1, r18.1.2.2) (r10.1.1, r10.1.2.1, r10.1.2.2) (((Frz.os (Frz.pr (Frz.os Frz.int) (Frz.pr Frz.int (Frz.os (Frz.os Frz.int)))))).val a3 Less.sub Less.not) (a0.sub Less.sub) hO.less.fut m0) ?_
  rintro _ p0 ⟨rfl, d1⟩
  have h0 := h0.ext d1
  have a0 := a0.ext d1
  have a1 := a1.cn d1
  have a3 := a3.ext d1
  have a2 := a2.cn d1
  have hMid := hMid.ext d1
  have hC := hC.ext d1
  have hO := hO.ext d1
  refine pl_yes (.bool (!r42)) (tg := 59) (by kernel_rfl) (congrArg Value.bool b4) (y_not rfl) ?_
  refine pl_val (.bool (!r42)) (y_pick_f (congrArg Value.bool b4) rfl) ?_
  refine pl_val (.bool (!r42)) (y_move rfl) ?_
  rcases bif_some hs with ⟨c4, hs⟩ | ⟨c4, hs⟩
  ·skip
   refine pl_not (tg := 65) (by kernel_rfl) (congrArg Value.bool c4) ?_
   refine pl_not (tg := 65) (by kernel_rfl) (congrArg Value.bool c4) ?_
   refine pl_not (tg := 65) (by kernel_rfl) (congrArg Value.bool c4) ?_
   refine pl_val (.bool true) (y_pick_t (congrArg Value.bool c4) rfl) ?_
   refine c_nil ?_
   cases hs
   exact ⟨_, fr_ovl 106 ⟨rfl, rfl, rfl, rfl, rfl, rfl, rfl, rfl, trivial⟩, hMid⟩
  refine pl_yes (.bool r18.2) (tg := 65) (by kernel_rfl) (congrArg Value.bool c4) (y_move rfl) ?_
  refine pl_yes (.bool r10.2) (tg := 65) (by kernel_rfl) (congrArg Value.bool c4) (y_move rfl) ?_
  refine pl_yes (.bool (!(r18.2 == r10.2))) (tg := 65) (by kernel_rfl) (congrArg Value.bool c4) (y_bneq Try.underlying4 rfl rfl) ?_
  refine pl_val (.bool (!(r18.2 == r10.2))) (y_pick_f (congrArg Value.bool c4) rfl) ?_
  refine c_nil ?_
  cases hs
  exact ⟨_, fr_ovl 106 ⟨rfl, rfl, rfl, rfl, rfl, rfl, rfl, rfl, trivial⟩, hMid⟩
 rintro h9 i3 ⟨σ, rfl, d7⟩
 have h0 := h0.ext d7
 have a0 := a0.ext d7
 have a1 := a1.cn d7
 have a3 := a3.ext d7
 have a2 := a2.cn d7
 have hC := hC.ext d7
 have hO := hO.ext d7
 rcases bif_some hs with ⟨g5, hs⟩ | ⟨g5, hs⟩
 ·refine c_condT (congrArg Value.bool g5) ?_
  refine c_sr ?_
  refine pl_val (.bool false) (y_assign rfl) ?_
  refine c_nil ?_
  refine wp_ret ?_
  cases hs
  exact ⟨_, fr_ovl 106 ⟨rfl, trivial⟩, hC⟩
 refine c_condF (congrArg Value.bool g5) ?_
 refine wp_skip ?_
 refine c_sr ?_
 refine pl_val (.int .i64 1) (y_assign rfl) ?_
 refine c_nil ?_
 refine c_sr ?_
 refine pl_val (.agg #[(.int .i64 r18.1.1), (.int .i64 r18.1.2.1), (.slice b0 b1 b2)]) (y_load rfl ((box_load Ag30 Sz30 a2 [] [(.int .i64 r18.1.1), (.int .i64 r18.1.2.1), (.slice b0 b1 b2)] [] rfl rfl (fun h => nomatch h)) _ (Chg.refl _ _))) ?_
 refine pl_val (.int .i64 1) (y_move rfl) ?_
 have hO := hO.fr1
 have m1 := hO
 have i4 := Own.lend (F := (c0 ++ ([]))) (R := ([b3]) ++ (([a9]) ++ ([]))) (Own.perm (m1) (by simp))
 obtain ⟨r46, m2, hs⟩ := bind_some hs
 refine pl_call Bd32 rfl (c_laws_markNetwork (M := (Past a4 a6 a5)) (r18.1.1, r18.1.2.1, r18.1.2.2) 1 a3 i4 i4.fut m2) ?_
 rintro _ p1 ⟨f4, rfl, e4, a7, m3⟩
 have hO := hO.perm (R := (c0 ++ ([])) ++ (([b3]) ++ (([a9]) ++ ([])))) (by simp)
 have h0 := h0.mt e4 hO same_
 have a0 := a0.mt e4 hO same_
 have a1 := a1.ap e4 hO same_ (mem_r (mem_l (List.mem_singleton.2 rfl)))
 have a2 := a2.ap e4 hO same_ (mem_l (List.mem_singleton.2 rfl))
 have hC := hC.st e4 hO same_
 have hO := Own.join hO e4 m3
 have hO := hO.perm (R := f4 ++ (([b3]) ++ (([a9]) ++ ([])))) (by simp)
 refine pl_val (.int .i64 r46.1) (y_assign rfl) ?_
 refine c_nil ?_
 refine c_sr ?_
 refine pl_val (.int .i64 1) (y_assign rfl) ?_
 refine c_nil ?_
 refine c_sr ?_
 refine pl_val (.agg #[(.int .i64 r18.1.1), (.int .i64 r18.1.2.1), (.slice b0 b1 b2)]) (y_load rfl ((box_load Ag30 Sz30 a2 [] [(.int .i64 r18.1.1), (.int .i64 r18.1.2.1), (.slice b0 b1 b2)] [] rfl rfl (fun h => nomatch h)) _ (Chg.refl _ _))) ?_
 refine pl_val (.int .i64 1) (y_move rfl) ?_
 obtain ⟨r48, m4, hs⟩ := bind_some hs
 refine pl_call Bd43 rfl (c_laws_heldNetwork (M := (Less (Past a4 a6 a5) f4)) (r18.1.1, r18.1.2.1, r46.2) 1 (((Frz.os (Frz.pr (Frz.os Frz.int) (Frz.pr Frz.int (Frz.os (Frz.os Frz.int)))))).val a7 Less.sub Less.not) hO.less.fut m4) ?_
 rintro _ p2 ⟨rfl, d8⟩
 have h0 := h0.ext d8
 have a0 := a0.ext d8
 have a1 := a1.cn d8
 have a7 := a7.ext d8
 have a2 := a2.cn d8
 have hC := hC.ext d8
 have hO := hO.ext d8
 refine pl_val (.int .i64 r48) (y_assign rfl) ?_
 refine c_nil ?_
 refine c_seq ?_
 refine c_sr ?_
 refine pl_val (.int .i64 r48) (y_move rfl) ?_
 refine pl_val (.bool (decide (r48 < 0))) (y_lss rfl rfl) ?_
 refine c_nil ?_
 rcases bif_some hs with ⟨g6, hs⟩ | ⟨g6, hs⟩
 ·refine c_condT (congrArg Value.bool g6) ?_
  refine c_sr ?_
  refine pl_val (.bool false) (y_assign rfl) ?_
  refine c_nil ?_
  refine wp_ret ?_
  cases hs
  exact ⟨_, fr_ovl 106 ⟨rfl, trivial⟩, hC⟩
 refine c_condF (congrArg Value.bool g6) ?_
 refine wp_skip ?_
 refine c_seq ?_
 refine c_sr ?_
 refine pl_val (.int .i64 r48) (y_move rfl) ?_
 refine pl_val (.int .i64 r46.1) (y_move rfl) ?_
 refine pl_val (.bool (r48 != r46.1)) (y_neq rfl rfl) ?_
 refine c_nil ?_
 rcases bif_some hs with ⟨g7, hs⟩ | ⟨g7, hs⟩
 ·refine c_condT (congrArg Value.bool g7) ?_
  refine c_sr ?_
  refine pl_val (.bool false) (y_assign rfl) ?_
  refine c_nil ?_
  refine wp_ret ?_
  cases hs
  exact ⟨_, fr_ovl 106 ⟨rfl, trivial⟩, hC⟩
 refine c_condF (congrArg Value.bool g7) ?_
 refine wp_skip ?_
 refine c_sr ?_
 refine pl_val (.int .i64 aN) (y_move rfl) ?_
 refine pl_val (.slice pa0 pn0 pc0) (y_move rfl) ?_
 obtain ⟨r52, m5, hs⟩ := bind_some hs
 refine pl_call Bd18 rfl (c_laws_toRelationS (M := (Past a4 a6 a5)) aRels h0 hO.fut m5) ?_
 rintro _ p3 ⟨p4, p5, p6, g8, rfl, d9, e0, m6⟩
 have h0 := h0.ext d9
 have a0 := a0.ext d9
 have a1 := a1.cn d9
 have a7 := a7.ext d9
 have a2 := a2.cn d9
 have hC := hC.ext d9
 have hO := Own.join0 hO d9 m6
 have hO := hO.perm (R := g8 ++ (f4 ++ (([b3]) ++ (([a9]) ++ ([]))))) (by simp)
 refine pl_val (.int .i64 aK) (y_move rfl) ?_
 obtain ⟨r55, m7, hs⟩ := bind_some hs
 refine pl_call Bd41 rfl (c_impl_NetworkOfPolymorphisms (M := (Less (Past a4 a6 a5) g8)) aN r52 aK (((Frz.os (Frz.pr Frz.int (Frz.os (Frz.os Frz.int))))).val e0 Less.sub Less.not) hO.less.fut m7) ?_
 rintro _ m8 ⟨e5, e6, e7, i5, rfl, d2, b5, m9⟩
 have h0 := h0.ext d2
 have a0 := a0.ext d2
 have a1 := a1.cn d2
 have a7 := a7.ext d2
 have a2 := a2.cn d2
 have e0 := e0.ext d2
 have hC := hC.ext d2
 have hO := Own.join0 hO d2 m9
 have hO := hO.perm (R := i5 ++ (g8 ++ (f4 ++ (([b3]) ++ (([a9]) ++ ([])))))) (by simp)
 have b5 := b5.free (M' := (Past a4 a6 a5)) (Free.os (Free.pr (Free.os Free.int) (Free.pr Free.int (Free.os (Free.os Free.int)))))
 refine pl_val (.tuple #[(.agg #[(.int .i64 r55.1.1), (.int .i64 r55.1.2.1), (.slice e5 e6 e7)]), (.bool r55.2)]) (y_move rfl) ?_
 refine pl_val (.agg #[(.int .i64 r55.1.1), (.int .i64 r55.1.2.1), (.slice e5 e6 e7)]) (y_extract rfl (by kernel_rfl)) ?_
 refine pl_val (.bool r55.2) (y_extract rfl (by kernel_rfl)) ?_
 obtain ⟨n0, i6, n1, i7, c5, i9⟩ := new_block m8 [(.int .i64 0), (.int .i64 0), (.slice none 0 0)] 30
 refine pl_val (w' := n0) (.pointer (some ⟨i6, 0, none⟩)) (y_alloc (by rw [n1, i7]; kernel_rfl)) ?_
 have h0 := h0.ext c5
 have a0 := a0.ext c5
 have a1 := a1.cn c5
 have a7 := a7.ext c5
 have a2 := a2.cn c5
 have e0 := e0.ext c5
 have b5 := b5.ext c5
 have hC := hC.ext c5
 have hO := hO.new1 c5 i7 i9.lt
 obtain ⟨f7, n2, c6, e1⟩ := box_store (P := Try.prog) i9 [] [(.int .i64 0), (.int .i64 0), (.slice none 0 0)] [] [(.int .i64 r55.1.1), (.int .i64 r55.1.2.1), (.slice e5 e6 e7)] rfl rfl (by intro u hu; simp only [List.mem_cons, List.not_mem_nil, or_false] at hu; rcases hu with rfl | rfl | rfl <;> rfl)
 refine pl_skip (w' := f7) (ys_store rfl rfl (n2 _ _ rfl Sz30)) ?_
 have h0 := h0.mt c6 hO same_
 have a0 := a0.mt c6 hO same_
 have a1 := a1.ap c6 hO same_ (mem_r (mem_r (mem_r (mem_r (mem_l (List.mem_singleton.2 rfl))))))
 have a7 := a7.ma c6 hO same_ (fun _ e => (mem_r (mem_r (mem_l (e)))))
 have a2 := a2.ap c6 hO same_ (mem_r (mem_r (mem_r (mem_l (List.mem_singleton.2 rfl)))))
 have e0 := e0.ma c6 hO same_ (fun _ e => (mem_r (mem_l (e))))
 have b5 := b5.ma c6 hO same_ (fun _ e => (mem_l (e)))
 have hC := hC.st c6 hO same_
 have hO := hO.ext c6
 have e1 : BoxV f7 i6 30 [(.int .i64 r55.1.1), (.int .i64 r55.1.2.1), (.slice e5 e6 e7)] := e1
 refine pl_val (.bool r55.2) (y_assign rfl) ?_
 refine c_nil ?_
 have hO := hO.fr2
 have hO := hO.drop
 refine c_seq ?_
 refine c_seq ?_
 obtain ⟨s59, n3, hs⟩ := bind_some hs
 refine c_mid (I := fun a j0 => ∃ (σ : Nat → Value), a = fr 106 (ovl σ [(6, (.bool false)), (11, (.pointer (some ⟨b3, 0, none⟩))), (14, (.int .i64 r46.1)), (15, (.int .i64 r48)), (97, (.bool s59))]) ∧ Chg [] f7 j0) ?_ ?_
 ·replace hs := n3
  have hMid := Chg.refl [] f7
  refine c_region ?_
  refine pl_val (.agg #[(.int .i64 r55.1.1), (.int .i64 r55.1.2.1), (.slice e5 e6 e7)]) (y_load rfl ((box_load Ag30 Sz30 e1 [] [(.int .i64 r55.1.1), (.int .i64 r55.1.2.1), (.slice e5 e6 e7)] [] rfl rfl (fun h => nomatch h)) _ (Chg.refl _ _))) ?_
  refine pl_val (.agg #[(.int .i64 r10.1.1), (.int .i64 r10.1.2.1), (.slice b6 b7 b8)]) (y_load rfl ((box_load Ag30 Sz30 a1 [] [(.int .i64 r10.1.1), (.int .i64 r10.1.2.1), (.slice b6 b7 b8)] [] rfl rfl (fun h => nomatch h)) _ (Chg.refl _ _))) ?_
  have hO := hO.fr1
  obtain ⟨r63, n4, hs⟩ := bind_some hs
  refine pl_call Bd15 rfl (c_laws_eqNetwork (M := (Less (Past a4 a6 a5) i5)) (r55.1.1, r55.1.2.1, r55.1.2.2) (r10.1.1, r10.1.2.1, r10.1.2.2) (((Frz.os (Frz.pr (Frz.os Frz.int) (Frz.pr Frz.int (Frz.os (Frz.os Frz.int)))))).val b5 Less.sub Less.not) (a0.sub Less.sub) hO.less.fut n4) ?_
  rintro _ p7 ⟨rfl, c7⟩
  have a0 := a0.ext c7
  have a1 := a1.cn c7
  have a7 := a7.ext c7
  have a2 := a2.cn c7
  have b5 := b5.ext c7
  have e1 := e1.cn c7
  have hMid := hMid.ext c7
  have hC := hC.ext c7
  have hO := hO.ext c7
  refine pl_val (.bool (!r63)) (y_not rfl) ?_
  refine pl_val (.bool (!r63)) (y_move rfl) ?_
  rcases bif_some hs with ⟨c8, hs⟩ | ⟨c8, hs⟩
  ·skip
   refine pl_not (tg := 93) (by kernel_rfl) (congrArg Value.bool c8) ?_
   refine pl_not (tg := 93) (by kernel_rfl) (congrArg Value.bool c8) ?_
   refine pl_not (tg := 93) (by kernel_rfl) (congrArg Value.bool c8) ?_
   refine pl_val (.bool true) (y_pick_t (congrArg Value.bool c8) rfl) ?_
   refine c_nil ?_
   have hO := hO.drop
   have hO := hO.drop
   have hO := hO.fr2
   have hO := hO.drop
   cases hs
   exact ⟨_, fr_ovl 106 ⟨rfl, rfl, rfl, rfl, rfl, trivial⟩, hMid⟩
  refine pl_yes (.bool r55.2) (tg := 93) (by kernel_rfl) (congrArg Value.bool c8) (y_move rfl) ?_
  refine pl_yes (.bool r10.2) (tg := 93) (by kernel_rfl) (congrArg Value.bool c8) (y_move rfl) ?_
  refine pl_yes (.bool (!(r55.2 == r10.2))) (tg := 93) (by kernel_rfl) (congrArg Value.bool c8) (y_bneq Try.underlying4 rfl rfl) ?_
  refine pl_val (.bool (!(r55.2 == r10.2))) (y_pick_f (congrArg Value.bool c8) rfl) ?_
  refine c_nil ?_
  have hO := hO.drop
  have hO := hO.drop
  have hO := hO.fr2
  have hO := hO.drop
  cases hs
  exact ⟨_, fr_ovl 106 ⟨rfl, rfl, rfl, rfl, rfl, trivial⟩, hMid⟩
 rintro h9 j0 ⟨σ, rfl, e2⟩
 have a1 := a1.cn e2
 have a7 := a7.ext e2
 have a2 := a2.cn e2
 have b5 := b5.ext e2
 have e1 := e1.cn e2
 have hC := hC.ext e2
 have hO := hO.ext e2
 rcases bif_some hs with ⟨g9, hs⟩ | ⟨g9, hs⟩
 ·refine c_condT (congrArg Value.bool g9) ?_
  refine c_sr ?_
  refine pl_val (.bool false) (y_assign rfl) ?_
  refine c_nil ?_
  have hO := hO.drop
  have hO := hO.drop
  have hO := hO.fr2
  have hO := hO.drop
  refine wp_ret ?_
  cases hs
  exact ⟨_, fr_ovl 106 ⟨rfl, trivial⟩, hC⟩
 refine c_condF (congrArg Value.bool g9) ?_
 refine wp_skip ?_
 refine c_sr ?_
 refine pl_val (.int .i64 1) (y_assign rfl) ?_
 refine c_nil ?_
 have hO := hO.drop
 have hO := hO.drop
 have hO := hO.fr2
 have hO := hO.drop
 refine c_sr ?_
 refine pl_val (.agg #[(.int .i64 r18.1.1), (.int .i64 r18.1.2.1), (.slice b0 b1 b2)]) (y_load rfl ((box_load Ag30 Sz30 a2 [] [(.int .i64 r18.1.1), (.int .i64 r18.1.2.1), (.slice b0 b1 b2)] [] rfl rfl (fun h => nomatch h)) _ (Chg.refl _ _))) ?_
 refine pl_val (.int .i64 1) (y_move rfl) ?_
 obtain ⟨r67, n5, hs⟩ := bind_some hs
 refine pl_call Bd43 rfl (c_laws_heldNetwork (M := (Less (Past a4 a6 a5) f4)) (r18.1.1, r18.1.2.1, r46.2) 1 (((Frz.os (Frz.pr (Frz.os Frz.int) (Frz.pr Frz.int (Frz.os (Frz.os Frz.int)))))).val a7 Less.sub Less.not) hO.less.fut n5) ?_
 rintro _ p8 ⟨rfl, f8⟩
 have a7 := a7.ext f8
 have a2 := a2.cn f8
 have hC := hC.ext f8
 have hO := hO.ext f8
 refine pl_val (.int .i64 r67) (y_assign rfl) ?_
 refine c_nil ?_
 have hO := hO.drop
 have hO := hO.drop
 refine c_seq ?_
 refine c_sr ?_
 refine pl_val (.int .i64 r67) (y_move rfl) ?_
 refine pl_val (.bool (decide (r67 < 0))) (y_lss rfl rfl) ?_
 refine c_nil ?_
 rcases bif_some hs with ⟨h1, hs⟩ | ⟨h1, hs⟩
 ·refine c_condT (congrArg Value.bool h1) ?_
  refine c_sr ?_
  refine pl_val (.bool false) (y_assign rfl) ?_
  refine c_nil ?_
  refine wp_ret ?_
  cases hs
  exact ⟨_, fr_ovl 106 ⟨rfl, trivial⟩, hC⟩
 refine c_condF (congrArg Value.bool h1) ?_
 refine wp_skip ?_
 refine c_seq ?_
 refine c_sr ?_
 refine pl_val (.int .i64 r67) (y_move rfl) ?_
 refine pl_val (.int .i64 r46.1) (y_move rfl) ?_
 refine pl_val (.bool (r67 != r46.1)) (y_neq rfl rfl) ?_
 refine c_nil ?_
 rcases bif_some hs with ⟨h2, hs⟩ | ⟨h2, hs⟩
 ·refine c_condT (congrArg Value.bool h2) ?_
  refine c_sr ?_
  refine pl_val (.bool false) (y_assign rfl) ?_
  refine c_nil ?_
  refine wp_ret ?_
  cases hs
  exact ⟨_, fr_ovl 106 ⟨rfl, trivial⟩, hC⟩
 refine c_condF (congrArg Value.bool h2) ?_
 refine wp_skip ?_
 refine c_sr ?_
 refine pl_val (.bool true) (y_assign rfl) ?_
 refine c_nil ?_
 refine wp_ret ?_
 cases hs
 exact ⟨_, fr_ovl 106 ⟨rfl, trivial⟩, hC⟩

end Go.Proofs
