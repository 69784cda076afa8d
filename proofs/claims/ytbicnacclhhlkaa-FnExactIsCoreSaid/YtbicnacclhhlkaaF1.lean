/- What functions of the program compute, as plain functions, and that a call gives just that. Conditions: those named in each theorem. -/
import Derived.Test.YtbicnacclhhlkaaF0
set_option linter.unusedVariables false
namespace Go.Proofs
open Go.G Go.RowKit
set_option maxRecDepth 100000

def k_spec_l8Find (M : Nat → Prop) (w0 : World) (r : Int × Bool) (a : Act) (w : World) : Prop :=
  ∃ (σ : Nat → Value) , a = fr 40 (ovl σ [(4, (.int .i64 r.1)), (5, (.bool r.2))]) ∧ Chg [] w0 w
def s_spec_l8Find (list : List (List Int)) (t : List Int) : Option (Int × Bool) :=
  (iter (S := Int × Int) (R := Int × Bool) (fun s11 =>
  (bif (decide (s11.1 < s11.2)) then (idx list (w64 (Int.tdiv (w64 (s11.1 + s11.2)) 2))).bind fun x18 =>
  (s_spec_l3Less x18 t).bind fun r23 =>
  (bif r23 then some (.nx (w64 ((w64 (Int.tdiv (w64 (s11.1 + s11.2)) 2)) + 1), s11.2)) else some (.nx (s11.1, w64 (Int.tdiv (w64 (s11.1 + s11.2)) 2)))) else some (.br (s11.1, s11.2)))) FU (0, (list.length : Int))).bind fun o15 => after o15 (fun r_ => some r_) (fun s11 =>
  (bif (decide (s11.1 < (list.length : Int))) then (idx list s11.1).bind fun x26 =>
  (s_spec_l1Same x26 t).bind fun r31 =>
  some (s11.1, r31) else some (s11.1, false)))
set_option maxHeartbeats 4000000 in
theorem c_spec_l8Find {M : Nat → Prop} {w : World} {pa0 : Option Addr} {pn0 pc0 : Nat} {pa1 : Option Addr} {pn1 pc1 : Nat} (list : List (List Int)) (t : List Int) (h0 : (RT.rs (RT.rs (RT.int .i64))).val M w (.slice pa0 pn0 pc0) list ([])) (h1 : (RT.rs (RT.int .i64)).val M w (.slice pa1 pn1 pc1) t ([])) (hM : ∀ g, w.heap.size ≤ g → M g) {r : Int × Bool} (hs : s_spec_l8Find list t = some r) :
    Gives Try.prog 117 [(.slice pa0 pn0 pc0), (.slice pa1 pn1 pc1)] w (fun v w' => v = (.tuple #[(.int .i64 r.1), (.bool r.2)]) ∧ Chg [] w w') := by
 refine calls_fr Try.func117 rfl Try.ntmps117 (Nat.le_of_ble_eq_true rfl) ?_
 have hO := Own.start (N := Nw w []) hM Nw.fut
 have hC := Chg.refl [] w
 unfold s_spec_l8Find at hs
 refine wp_mono (Q := KPost (k_spec_l8Find M w r)) ?_ (fun e a a8 h => ?_)
 rotate_left
 ·cases e
  case ret =>
   obtain ⟨σ, rfl, hrest⟩ := h
   exact ret2x Try.results117 (res_tmp rfl) (res_tmp rfl) ⟨rfl, hrest⟩
  all_goals exact (h : False).elim
 refine c_sr ?_
 refine pl_val (.int .i64 0) (y_assign rfl) ?_
 refine pl_val (.bool false) (y_assign rfl) ?_
 refine c_nil ?_
 refine c_sr ?_
 refine pl_val (.slice pa0 pn0 pc0) (y_move rfl) ?_
 refine pl_val (.int .i64 (list.length : Int)) (y_len' Sl47 (rs_len h0) rfl) ?_
 refine pl_val (.int .i64 0) (y_assign rfl) ?_
 refine pl_val (.int .i64 (list.length : Int)) (y_assign rfl) ?_
 refine c_nil ?_
 refine c_seq ?_
 obtain ⟨o15, a9, hs⟩ := bind_some hs
 refine wp_block ?_
 refine wp_iter (id := 0) (I := fun s11 a a1 => ∃ (σ : Nat → Value), a = fr 40 (ovl σ [(0, (.slice pa0 pn0 pc0)), (1, (.slice pa1 pn1 pc1)), (6, (.int .i64 s11.1)), (7, (.int .i64 s11.2))]) ∧ Chg [] w a1 ∧ Own (Nw w []) M a1 ([]) ∧ (RT.rs (RT.rs (RT.int .i64))).val M a1 (.slice pa0 pn0 pc0) list ([]) ∧ (RT.rs (RT.int .i64)).val M a1 (.slice pa1 pn1 pc1) t ([])) (J := fun s11 a a1 => ∃ (σ : Nat → Value), a = fr 40 (ovl σ [(0, (.slice pa0 pn0 pc0)), (1, (.slice pa1 pn1 pc1)), (6, (.int .i64 s11.1))]) ∧ Chg [] w a1 ∧ Own (Nw w []) M a1 ([]) ∧ (RT.rs (RT.rs (RT.int .i64))).val M a1 (.slice pa0 pn0 pc0) list ([]) ∧ (RT.rs (RT.int .i64)).val M a1 (.slice pa1 pn1 pc1) t ([])) (K := (k_spec_l8Find M w)) ?_ FU (0, (list.length : Int)) o15 _ _ ?_ a9 ?_
 ·rintro s11 o15 a a1 ⟨σ, rfl, hC, hO, h0, h1⟩ hs
  refine c_seq ?_
  refine c_sr ?_
  refine pl_val (.int .i64 s11.1) (y_move rfl) ?_
  refine pl_val (.int .i64 s11.2) (y_move rfl) ?_
  refine pl_val (.bool (decide (s11.1 < s11.2))) (y_lss rfl rfl) ?_
  refine c_nil ?_
  rcases bif_some hs with ⟨a6, hs⟩ | ⟨a6, hs⟩
  ·refine c_condT (congrArg Value.bool a6) ?_
   refine wp_skip ?_
   refine wp_block ?_
   refine c_sr ?_
   refine pl_val (.int .i64 s11.1) (y_move rfl) ?_
   refine pl_val (.int .i64 s11.2) (y_move rfl) ?_
   refine pl_val (.int .i64 (w64 (s11.1 + s11.2))) (y_add rfl rfl) ?_
   refine pl_val (.int .i64 (w64 (Int.tdiv (w64 (s11.1 + s11.2)) 2))) (y_quo rfl rfl (by decide)) ?_
   refine pl_val (.int .i64 (w64 (Int.tdiv (w64 (s11.1 + s11.2)) 2))) (y_assign rfl) ?_
   refine c_nil ?_
   refine c_sr ?_
   refine pl_val (.slice pa0 pn0 pc0) (y_move rfl) ?_
   refine pl_val (.int .i64 (w64 (Int.tdiv (w64 (s11.1 + s11.2)) 2))) (y_move rfl) ?_
   obtain ⟨x18, b0, hs⟩ := bind_some hs
   obtain ⟨b1, b2, b3, b4⟩ := rs_idx Sl47 Sz41 h0 b0
   refine pl_val (.pointer (some ⟨b1, b2, none⟩)) (b3 _ _ _ _ _ _ _ _ _ rfl rfl) ?_
   obtain ⟨d1, b5, a4⟩ := at_load Ag41 Sz41 (fun _ => rfl) b4
   obtain ⟨b6, b7, b8, rfl⟩ := rs_sl a4
   refine pl_val (.slice b6 b7 b8) (y_load rfl (b5 _ (Chg.refl _ _))) ?_
   refine pl_val (.slice pa1 pn1 pc1) (y_move rfl) ?_
   obtain ⟨r23, b9, hs⟩ := bind_some hs
   refine pl_call Bd135 rfl (c_spec_l3Less (M := M) x18 t a4 h1 hO.fut b9) ?_
   rintro _ d2 ⟨rfl, a2⟩
   have h0 := h0.ext a2
   have h1 := h1.ext a2
   have a4 := a4.ext a2
   have hC := hC.ext a2
   have hO := hO.ext a2
   refine c_nil ?_
   rcases bif_some hs with ⟨a7, hs⟩ | ⟨a7, hs⟩
   ·refine c_condT (congrArg Value.bool a7) ?_
    refine c_region ?_
    refine pl_val (.int .i64 (w64 (Int.tdiv (w64 (s11.1 + s11.2)) 2))) (y_move rfl) ?_
    refine pl_val (.int .i64 (w64 ((w64 (Int.tdiv (w64 (s11.1 + s11.2)) 2)) + 1))) (y_add rfl rfl) ?_
    refine pl_val (.int .i64 (w64 ((w64 (Int.tdiv (w64 (s11.1 + s11.2)) 2)) + 1))) (y_assign rfl) ?_
    refine c_nil ?_
    cases hs
    exact ⟨_, fr_ovl 40 ⟨rfl, rfl, rfl, rfl, trivial⟩, hC, hO, h0, h1⟩
   refine c_condF (congrArg Value.bool a7) ?_
   refine c_region ?_
   refine pl_val (.int .i64 (w64 (Int.tdiv (w64 (s11.1 + s11.2)) 2))) (y_move rfl) ?_
   refine pl_val (.int .i64 (w64 (Int.tdiv (w64 (s11.1 + s11.2)) 2))) (y_assign rfl) ?_
   refine c_nil ?_
   cases hs
   exact ⟨_, fr_ovl 40 ⟨rfl, rfl, rfl, rfl, trivial⟩, hC, hO, h0, h1⟩
  refine c_condF (congrArg Value.bool a6) ?_
  refine wp_exit ?_
  cases hs
  exact ⟨rfl, _, fr_ovl 40 ⟨rfl, rfl, rfl, trivial⟩, hC, hO, h0, h1⟩
 ·skip
  exact ⟨_, fr_ovl 40 ⟨rfl, rfl, rfl, rfl, trivial⟩, hC, hO, h0, h1⟩
 cases o15 with
 | nx _ => exact True.intro
 | rt r_ =>
  have hs := after_rt hs
  intro c0 a8 hK
  cases hs
  exact hK
 | br s11 =>
  have hs := after_br hs
  rintro c0 a1 ⟨σ, rfl, hC, hO, h0, h1⟩
  refine c_sr ?_
  refine pl_val (.int .i64 s11.1) (y_move rfl) ?_
  refine pl_val (.int .i64 s11.1) (y_move rfl) ?_
  refine pl_val (.slice pa0 pn0 pc0) (y_move rfl) ?_
  refine pl_val (.int .i64 (list.length : Int)) (y_len' Sl47 (rs_len h0) rfl) ?_
  refine pl_val (.bool (decide (s11.1 < (list.length : Int)))) (y_lss rfl rfl) ?_
  refine pl_val (.bool (decide (s11.1 < (list.length : Int)))) (y_move rfl) ?_
  rcases bif_some hs with ⟨a0, hs⟩ | ⟨a0, hs⟩
  ·skip
   refine pl_yes (.slice pa0 pn0 pc0) (tg := 32) (by kernel_rfl) (congrArg Value.bool a0) (y_move rfl) ?_
   refine pl_yes (.int .i64 s11.1) (tg := 32) (by kernel_rfl) (congrArg Value.bool a0) (y_move rfl) ?_
   obtain ⟨x26, c1, hs⟩ := bind_some hs
   obtain ⟨c2, c3, c4, c5⟩ := rs_idx Sl47 Sz41 h0 c1
   refine pl_yes (.pointer (some ⟨c2, c3, none⟩)) (tg := 32) (by kernel_rfl) (congrArg Value.bool a0) (c4 _ _ _ _ _ _ _ _ _ rfl rfl) ?_
   obtain ⟨d3, c6, a5⟩ := at_load Ag41 Sz41 (fun _ => rfl) c5
   obtain ⟨c7, c8, c9, rfl⟩ := rs_sl a5
   refine pl_yes (.slice c7 c8 c9) (tg := 32) (by kernel_rfl) (congrArg Value.bool a0) (y_load rfl (c6 _ (Chg.refl _ _))) ?_
   refine pl_yes (.slice pa1 pn1 pc1) (tg := 32) (by kernel_rfl) (congrArg Value.bool a0) (y_move rfl) ?_
   obtain ⟨r31, d0, hs⟩ := bind_some hs
   refine pl_cally (tg := 32) (by kernel_rfl) (congrArg Value.bool a0) Bd87 rfl (c_spec_l1Same (M := M) x26 t a5 h1 hO.fut d0) ?_
   rintro _ d4 ⟨rfl, a3⟩
   have h0 := h0.ext a3
   have h1 := h1.ext a3
   have a5 := a5.ext a3
   have hC := hC.ext a3
   have hO := hO.ext a3
   refine pl_val (.bool r31) (y_pick_t (congrArg Value.bool a0) rfl) ?_
   refine pl_val (.int .i64 s11.1) (y_assign rfl) ?_
   refine pl_val (.bool r31) (y_assign rfl) ?_
   refine c_nil ?_
   refine wp_ret ?_
   cases hs
   exact ⟨_, fr_ovl 40 ⟨rfl, rfl, trivial⟩, hC⟩
  refine pl_not (tg := 32) (by kernel_rfl) (congrArg Value.bool a0) ?_
  refine pl_not (tg := 32) (by kernel_rfl) (congrArg Value.bool a0) ?_
  refine pl_not (tg := 32) (by kernel_rfl) (congrArg Value.bool a0) ?_
  refine pl_not (tg := 32) (by kernel_rfl) (congrArg Value.bool a0) ?_
  refine pl_not (tg := 32) (by kernel_rfl) (congrArg Value.bool a0) ?_
  refine pl_not (tg := 32) (by kernel_rfl) (congrArg Value.bool a0) ?_
  refine pl_val (.bool false) (y_pick_f (congrArg Value.bool a0) rfl) ?_
  refine pl_val (.int .i64 s11.1) (y_assign rfl) ?_
  refine pl_val (.bool false) (y_assign rfl) ?_
  refine c_nil ?_
  refine wp_ret ?_
  cases hs
  exact ⟨_, fr_ovl 40 ⟨rfl, rfl, trivial⟩, hC⟩

theorem Bd117 : Bodied Try.prog 117 := bodied Try.func117 (by kernel_rfl) rfl

def k_spec_l13Has (M : Nat → Prop) (w0 : World) (r : Bool) (a : Act) (w : World) : Prop :=
  ∃ (σ : Nat → Value) , a = fr 20 (ovl σ [(4, (.bool r))]) ∧ Chg [] w0 w
def s_spec_l13Has (r_ : Int × (List (List Int))) (t : List Int) : Option (Bool) :=
  (bif ((t.length : Int) != r_.1) then some false else (s_spec_l8Find r_.2 t).bind fun r6 =>
  some r6.2)
set_option maxHeartbeats 4000000 in
theorem c_spec_l13Has {M : Nat → Prop} {w : World} {pa0 : Option Addr} {pn0 pc0 : Nat} {pa1 : Option Addr} {pn1 pc1 : Nat} (r_ : Int × (List (List Int))) (t : List Int) (h0 : (RT.rs (RT.rs (RT.int .i64))).val M w (.slice pa0 pn0 pc0) r_.2 ([])) (h1 : (RT.rs (RT.int .i64)).val M w (.slice pa1 pn1 pc1) t ([])) (hM : ∀ g, w.heap.size ≤ g → M g) {r : Bool} (hs : s_spec_l13Has r_ t = some r) :
    Gives Try.prog 77 [(.agg #[(.int .i64 r_.1), (.slice pa0 pn0 pc0)]), (.slice pa1 pn1 pc1)] w (fun v w' => v = (.bool r) ∧ Chg [] w w') := by
 refine calls_fr Try.func77 rfl Try.ntmps77 (Nat.le_of_ble_eq_true rfl) ?_
 have hO := Own.start (N := Nw w []) hM Nw.fut
 have hC := Chg.refl [] w
 unfold s_spec_l13Has at hs
 refine wp_mono (Q := KPost (k_spec_l13Has M w r)) ?_ (fun e a a9 h => ?_)
 rotate_left
 ·cases e
  case ret =>
   obtain ⟨σ, rfl, hrest⟩ := h
   exact ret1x Try.results77 (res_tmp rfl) ⟨rfl, hrest⟩
  all_goals exact (h : False).elim
 refine c_sr ?_
 obtain ⟨a6, a3, a7, a5, a2, a0⟩ := new_block w [(.int .i64 r_.1), (.slice pa0 pn0 pc0)] 54
 refine pl_val (w' := a6) (.pointer (some ⟨a3, 0, none⟩)) (y_box rfl (by rw [a7, a5]; kernel_rfl)) ?_
 have h0 := h0.ext a2
 have h1 := h1.ext a2
 have hC := hC.ext a2
 have hO := hO.new1 a2 a5 a0.lt
 refine pl_val (.bool false) (y_assign rfl) ?_
 refine c_nil ?_
 refine c_seq ?_
 refine c_sr ?_
 refine pl_val (.slice pa1 pn1 pc1) (y_move rfl) ?_
 refine pl_val (.int .i64 (t.length : Int)) (y_len' Sl41 (rs_len h1) rfl) ?_
 refine pl_val (.pointer (some ⟨a3, 0, none⟩)) (y_faddr rfl Fa54x0) ?_
 refine pl_val (.int .i64 r_.1) (y_load rfl ((box_load Ag3 Sz3 a0 [] [(.int .i64 r_.1)] [(.slice pa0 pn0 pc0)] rfl rfl (fun _ => rfl)) _ (Chg.refl _ _))) ?_
 refine pl_val (.bool ((t.length : Int) != r_.1)) (y_neq rfl rfl) ?_
 refine c_nil ?_
 rcases bif_some hs with ⟨a4, hs⟩ | ⟨a4, hs⟩
 ·refine c_condT (congrArg Value.bool a4) ?_
  refine c_sr ?_
  refine pl_val (.bool false) (y_assign rfl) ?_
  refine c_nil ?_
  refine wp_ret ?_
  cases hs
  exact ⟨_, fr_ovl 20 ⟨rfl, trivial⟩, hC⟩
 refine c_condF (congrArg Value.bool a4) ?_
 refine wp_skip ?_
 refine c_sr ?_
 refine pl_val (.pointer (some ⟨a3, 1, none⟩)) (y_faddr rfl Fa54x1) ?_
 refine pl_val (.slice pa0 pn0 pc0) (y_load rfl ((box_load Ag47 Sz47 a0 [(.int .i64 r_.1)] [(.slice pa0 pn0 pc0)] [] rfl rfl (fun _ => rfl)) _ (Chg.refl _ _))) ?_
 refine pl_val (.slice pa1 pn1 pc1) (y_move rfl) ?_
 obtain ⟨r6, a8, hs⟩ := bind_some hs
 refine pl_call Bd117 rfl (c_spec_l8Find (M := M) r_.2 t h0 h1 hO.fut a8) ?_
 rintro _ b0 ⟨rfl, a1⟩
 have h0 := h0.ext a1
 have h1 := h1.ext a1
 have a0 := a0.cn a1
 have hC := hC.ext a1
 have hO := hO.ext a1
 refine pl_val (.tuple #[(.int .i64 r6.1), (.bool r6.2)]) (y_move rfl) ?_
 refine pl_val (.int .i64 r6.1) (y_extract rfl (by kernel_rfl)) ?_
 refine pl_val (.bool r6.2) (y_extract rfl (by kernel_rfl)) ?_
 refine pl_val (.int .i64 r6.1) (y_assign rfl) ?_
 refine pl_val (.bool r6.2) (y_assign rfl) ?_
 refine c_nil ?_
 refine c_sr ?_
 refine pl_val (.bool r6.2) (y_move rfl) ?_
 refine pl_val (.bool r6.2) (y_assign rfl) ?_
 refine c_nil ?_
 refine wp_ret ?_
 cases hs
 exact ⟨_, fr_ovl 20 ⟨rfl, trivial⟩, hC⟩

theorem Sl149 : SlT Try.prog 149 151 := Try.underlying149

theorem Fa151x1 : ∀ (a : Addr) (w : World), (Instr.fieldAt 151 (.pointer (some a)) 1).run Try.prog w = .ok (.pointer (some (a.add 1))) w := fun _ _ => by kernel_rfl

theorem Bd77 : Bodied Try.prog 77 := bodied Try.func77 (by kernel_rfl) rfl

def k_spec_l14Holds (M : Nat → Prop) (w0 : World) (r : Bool) (a : Act) (w : World) : Prop :=
  ∃ (σ : Nat → Value) , a = fr 47 (ovl σ [(4, (.bool r))]) ∧ Chg [] w0 w
def s_spec_l14Holds (needs : List ((List Int) × (Int × (List (List Int))))) (table : List Int) : Option (Bool) :=
  (forC (S := Unit) (R := Bool) (fun k67 s65 =>
  (iter (S := (List Int) × Int) (R := Bool) (fun s95 =>
  (idx needs k67).bind fun x105 =>
  (bif (decide (s95.2 < (x105.1.length : Int))) then (idx needs k67).bind fun x111 =>
  (idx x111.1 s95.2).bind fun x116 =>
  (idx table x116).bind fun x118 =>
  (app s95.1 ([x118])).bind fun y123 =>
  some (.nx (y123, w64 (s95.2 + 1))) else some (.br (s95.1, s95.2)))) FU ([], 0)).bind fun o99 => after o99 (fun r_ => some (.rt r_)) (fun s95 =>
  (idx needs k67).bind fun x125 =>
  (s_spec_l13Has (x125.2.1, x125.2.2) s95.1).bind fun r131 =>
  (bif (!r131) then some (.rt false) else some (.nx ())))) 0 (needs.length : Int) ()).bind fun o69 => after o69 (fun r_ => some r_) (fun s65 =>
  some true)
set_option maxHeartbeats 4000000 in
theorem c_spec_l14Holds {M : Nat → Prop} {w : World} {pa0 : Option Addr} {pn0 pc0 : Nat} {pa1 : Option Addr} {pn1 pc1 : Nat} (needs : List ((List Int) × (Int × (List (List Int))))) (table : List Int) (h0 : (RT.rs (RT.pr (RT.rs (RT.int .i64)) (RT.pr (RT.int .i64) (RT.rs (RT.rs (RT.int .i64)))))).val M w (.slice pa0 pn0 pc0) needs ([])) (h1 : (RT.rs (RT.int .i64)).val M w (.slice pa1 pn1 pc1) table ([])) (hM : ∀ g, w.heap.size ≤ g → M g) {r : Bool} (hs : s_spec_l14Holds needs table = some r) :
    Gives Try.prog 133 [(.slice pa0 pn0 pc0), (.slice pa1 pn1 pc1)] w (fun v w' => v = (.bool r) ∧ Chg [] w w') := by
 refine calls_fr Try.func133 rfl Try.ntmps133 (Nat.le_of_ble_eq_true rfl) ?_
 have hO := Own.start (N := Nw w []) hM Nw.fut
 have hC := Chg.refl [] w
 unfold s_spec_l14Holds at hs
 refine wp_mono (Q := KPost (k_spec_l14Holds M w r)) ?_ (fun e a d0 h => ?_)
 rotate_left
 ·cases e
  case ret =>
   obtain ⟨σ, rfl, hrest⟩ := h
   exact ret1x Try.results133 (res_tmp rfl) ⟨rfl, hrest⟩
  all_goals exact (h : False).elim
 refine c_sr ?_
 refine pl_val (.bool false) (y_assign rfl) ?_
 refine c_nil ?_
 refine c_seq ?_
 refine c_sr ?_
 refine pl_val (.int .i64 0) (y_assign rfl) ?_
 refine c_nil ?_
 obtain ⟨o69, e4, hs⟩ := bind_some hs
 refine wp_block ?_
 refine wp_forC (id := 0) (needs.length : Int) (I := fun k67 s65 a a1 => ∃ (σ : Nat → Value), a = fr 47 (ovl σ [(0, (.slice pa0 pn0 pc0)), (1, (.slice pa1 pn1 pc1)), (5, (.int .i64 k67))]) ∧ Chg [] w a1 ∧ Own (Nw w []) M a1 ([]) ∧ (RT.rs (RT.pr (RT.rs (RT.int .i64)) (RT.pr (RT.int .i64) (RT.rs (RT.rs (RT.int .i64)))))).val M a1 (.slice pa0 pn0 pc0) needs ([]) ∧ (RT.rs (RT.int .i64)).val M a1 (.slice pa1 pn1 pc1) table ([])) (J := fun s65 a a1 => ∃ (σ : Nat → Value), a = fr 47 (ovl σ []) ∧ Chg [] w a1 ∧ Own (Nw w []) M a1 ([]) ∧ (RT.rs (RT.pr (RT.rs (RT.int .i64)) (RT.pr (RT.int .i64) (RT.rs (RT.rs (RT.int .i64)))))).val M a1 (.slice pa0 pn0 pc0) needs ([]) ∧ (RT.rs (RT.int .i64)).val M a1 (.slice pa1 pn1 pc1) table ([])) (K := (k_spec_l14Holds M w)) ?_ ?_ 0 () o69 _ _ ?_ e4 ?_
 ·rintro k67 s65 a a1 ⟨σ, rfl, hC, hO, h0, h1⟩ hlt
  refine c_seq ?_
  refine c_sr ?_
  refine pl_val (.int .i64 k67) (y_move rfl) ?_
  refine pl_val (.slice pa0 pn0 pc0) (y_move rfl) ?_
  refine pl_val (.int .i64 (needs.length : Int)) (y_len' Sl149 (rs_len h0) rfl) ?_
  refine pl_val (.bool (decide (k67 < (needs.length : Int)))) (y_lss rfl rfl) ?_
  refine c_nil ?_
  refine c_condF (congrArg Value.bool (decide_eq_false hlt)) ?_
  refine wp_exit ?_
  exact ⟨rfl, _, fr_ovl 47 trivial, hC, hO, h0, h1⟩
 ·rintro k67 s65 o69 a a1 ⟨σ, rfl, hC, hO, h0, h1⟩ hlt hw hs
  refine c_seq ?_
  refine c_sr ?_
  refine pl_val (.int .i64 k67) (y_move rfl) ?_
  refine pl_val (.slice pa0 pn0 pc0) (y_move rfl) ?_
  refine pl_val (.int .i64 (needs.length : Int)) (y_len' Sl149 (rs_len h0) rfl) ?_
  refine pl_val (.bool (decide (k67 < (needs.length : Int)))) (y_lss rfl rfl) ?_
  refine c_nil ?_
  refine c_condT (congrArg Value.bool (decide_eq_true hlt)) ?_
  refine wp_skip ?_
  refine c_seq ?_
  refine wp_block ?_
  refine c_sr ?_
  obtain ⟨d1, a2, e5, d2, b1, d3⟩ := new_block a1 [] 3
  refine pl_val (w' := d1) (.slice (some ⟨a2, 0, none⟩) 0 0) (y_bslice rfl (by rw [e5, d2]; kernel_rfl)) ?_
  have h0 := h0.ext b1
  have h1 := h1.ext b1
  have hC := hC.ext b1
  have hO := hO.new1 b1 d2 d3.lt
  have b8 := os_of_box (r := (RT.int .i64)) (M := M) (css := []) (fps := []) (xs := ([] : List Int)) d3 trivial (Nat.zero_le _) (List.nodup_cons.2 ⟨(fun h => nomatch h), List.nodup_nil⟩)
  have b8 : (RT.os 3 (RT.int .i64)).val M d1 (.slice (some ⟨a2, 0, none⟩) 0 0) [] [a2] := b8
  refine pl_val (.slice (some ⟨a2, 0, none⟩) 0 0) (y_assign rfl) ?_
  refine c_nil ?_
  refine c_seq ?_
  refine c_sr ?_
  refine pl_val (.int .i64 0) (y_assign rfl) ?_
  refine c_nil ?_
  obtain ⟨o99, e6, hs⟩ := bind_some hs
  refine wp_block ?_
  refine wp_iter (id := 2) (I := fun s95 a a0 => ∃ (σ : Nat → Value) (a6 : Option Addr) (a7 : Nat) (a8 : Nat) (b2 : List Nat), a = fr 47 (ovl σ [(0, (.slice pa0 pn0 pc0)), (1, (.slice pa1 pn1 pc1)), (5, (.int .i64 k67)), (6, (.slice a6 a7 a8)), (7, (.int .i64 s95.2))]) ∧ Chg [] w a0 ∧ Own (Nw w []) M a0 (b2 ++ []) ∧ (RT.rs (RT.pr (RT.rs (RT.int .i64)) (RT.pr (RT.int .i64) (RT.rs (RT.rs (RT.int .i64)))))).val M a0 (.slice pa0 pn0 pc0) needs ([]) ∧ (RT.rs (RT.int .i64)).val M a0 (.slice pa1 pn1 pc1) table ([]) ∧ (RT.os 3 (RT.int .i64)).val M a0 (.slice a6 a7 a8) s95.1 b2) (J := fun s95 a a0 => ∃ (σ : Nat → Value) (b3 : Option Addr) (b4 : Nat) (b5 : Nat) (b6 : List Nat), a = fr 47 (ovl σ [(0, (.slice pa0 pn0 pc0)), (1, (.slice pa1 pn1 pc1)), (5, (.int .i64 k67)), (6, (.slice b3 b4 b5))]) ∧ Chg [] w a0 ∧ Own (Nw w []) M a0 (b6 ++ []) ∧ (RT.rs (RT.pr (RT.rs (RT.int .i64)) (RT.pr (RT.int .i64) (RT.rs (RT.rs (RT.int .i64)))))).val M a0 (.slice pa0 pn0 pc0) needs ([]) ∧ (RT.rs (RT.int .i64)).val M a0 (.slice pa1 pn1 pc1) table ([]) ∧ (RT.os 3 (RT.int .i64)).val M a0 (.slice b3 b4 b5) s95.1 b6) (K := (k_spec_l14Holds M w)) ?_ FU ([], 0) o99 _ _ ?_ e6 ?_
  ·rintro s95 o99 a a0 ⟨σ, a6, a7, a8, b2, rfl, hC, hO, h0, h1, a9⟩ hs
   refine c_seq ?_
   refine c_sr ?_
   refine pl_val (.int .i64 s95.2) (y_move rfl) ?_
   refine pl_val (.slice pa0 pn0 pc0) (y_move rfl) ?_
   refine pl_val (.int .i64 k67) (y_move rfl) ?_
   obtain ⟨x105, e7, hs⟩ := bind_some hs
   obtain ⟨d4, d5, e8, e9⟩ := rs_idx Sl149 Sz151 h0 e7
   refine pl_val (.pointer (some ⟨d4, d5, none⟩)) (e8 _ _ _ _ _ _ _ _ _ rfl rfl) ?_
   obtain ⟨f0, _⟩ := pr_at e9
   refine pl_val (.pointer (some ⟨d4, d5 + 0, none⟩)) (y_faddr rfl Fa151x0) ?_
   obtain ⟨j5, f1, d6⟩ := at_load Ag41 Sz41 (fun _ => rfl) f0
   obtain ⟨f2, f3, f4, rfl⟩ := rs_sl d6
   refine pl_val (.slice f2 f3 f4) (y_load rfl (f1 _ (Chg.refl _ _))) ?_
   refine pl_val (.int .i64 (x105.1.length : Int)) (y_len' Sl41 (rs_len d6) rfl) ?_
   refine pl_val (.bool (decide (s95.2 < (x105.1.length : Int)))) (y_lss rfl rfl) ?_
   refine c_nil ?_
   rcases bif_some hs with ⟨b9, hs⟩ | ⟨b9, hs⟩
   ·refine c_condT (congrArg Value.bool b9) ?_
    refine wp_skip ?_
    refine c_seq ?_
    refine wp_block ?_
    refine c_region ?_
    refine pl_val (.slice a6 a7 a8) (y_move rfl) ?_
    refine pl_val (.slice pa1 pn1 pc1) (y_move rfl) ?_
    refine pl_val (.slice pa0 pn0 pc0) (y_move rfl) ?_
    refine pl_val (.int .i64 k67) (y_move rfl) ?_
    obtain ⟨x111, f5, hs⟩ := bind_some hs
    obtain ⟨d7, d8, f6, f7⟩ := rs_idx Sl149 Sz151 h0 f5
    refine pl_val (.pointer (some ⟨d7, d8, none⟩)) (f6 _ _ _ _ _ _ _ _ _ rfl rfl) ?_
    obtain ⟨f8, _⟩ := pr_at f7
    refine pl_val (.pointer (some ⟨d7, d8 + 0, none⟩)) (y_faddr rfl Fa151x0) ?_
    obtain ⟨j6, f9, a3⟩ := at_load Ag41 Sz41 (fun _ => rfl) f8
    obtain ⟨g0, g1, g2, rfl⟩ := rs_sl a3
    refine pl_val (.slice g0 g1 g2) (y_load rfl (f9 _ (Chg.refl _ _))) ?_
    refine pl_val (.int .i64 s95.2) (y_move rfl) ?_
    obtain ⟨x116, g3, hs⟩ := bind_some hs
    obtain ⟨g4, g5, g6, g7⟩ := rs_idx Sl41 Sz3 a3 g3
    refine pl_val (.pointer (some ⟨g4, g5, none⟩)) (g6 _ _ _ _ _ _ _ _ _ rfl rfl) ?_
    refine pl_val (.int .i64 x116) (y_load rfl ((at_load_int Ag3 Sz3 g7) _ (Chg.refl _ _))) ?_
    obtain ⟨x118, g8, hs⟩ := bind_some hs
    obtain ⟨g9, h2, h3, h4⟩ := rs_idx Sl41 Sz3 h1 g8
    refine pl_val (.pointer (some ⟨g9, h2, none⟩)) (h3 _ _ _ _ _ _ _ _ _ rfl rfl) ?_
    refine pl_val (.int .i64 x118) (y_load rfl ((at_load_int Ag3 Sz3 h4) _ (Chg.refl _ _))) ?_
    obtain ⟨d9, c0, h5, e0, a4, e1⟩ := new_block a0 [(.int .i64 x118)] 3
    refine pl_val (w' := d9) (.slice (some ⟨c0, 0, none⟩) 1 1) (y_bslice rfl (by rw [h5, e0]; kernel_rfl)) ?_
    have h0 := h0.ext a4
    have h1 := h1.ext a4
    have a9 := a9.ext a4
    have a3 := a3.ext a4
    have hC := hC.ext a4
    have hO := hO.new1 a4 e0 e1.lt
    have c1 := os_of_box (r := (RT.int .i64)) (M := M) (css := [[(.int .i64 x118)]]) (fps := [([] : List Nat)]) (xs := ([x118] : List Int)) e1 ⟨⟨rfl, rfl⟩, trivial⟩ (Nat.le_of_ble_eq_true rfl) (List.nodup_cons.2 ⟨(fun h => nomatch h), List.nodup_nil⟩)
    have c1 : (RT.os 3 (RT.int .i64)).val M d9 (.slice (some ⟨c0, 0, none⟩) 1 1) [x118] [c0] := c1
    obtain ⟨y123, h6, hs⟩ := bind_some hs
    have hO := hO.fr1
    obtain ⟨c2, c3, c4, h7, h8, h9, b0, i0, c5⟩ := app_os Rw41 h6 a9 c1 hO.inM (fun g hg hq => hO.apart g hq (mem_l hg))
    have b7 := os_block a9
    refine pl_val (w' := h7) (.slice c2 c3 c4) (y_append rfl rfl (h9 _)) ?_
    have hO := hO.fr1
    have hO := hO.fr1
    have h0 := h0.mt b0 hO b7
    have h1 := h1.mt b0 hO b7
    have a3 := a3.mt b0 hO b7
    have hC := hC.st b0 hO b7
    have hO := hO.eat b0 i0 (os_nodup c5) c5.fpl
    refine pl_val (.slice c2 c3 c4) (y_assign rfl) ?_
    refine c_nil ?_
    refine c_region ?_
    refine pl_val (.int .i64 s95.2) (y_move rfl) ?_
    refine pl_val (.int .i64 (w64 (s95.2 + 1))) (y_add rfl rfl) ?_
    refine pl_val (.int .i64 (w64 (s95.2 + 1))) (y_assign rfl) ?_
    refine c_nil ?_
    cases hs
    exact ⟨_, c2, c3, c4, h8, fr_ovl 47 ⟨rfl, rfl, rfl, rfl, rfl, trivial⟩, hC, hO, h0, h1, c5⟩
   refine c_condF (congrArg Value.bool b9) ?_
   refine wp_exit ?_
   cases hs
   exact ⟨rfl, _, a6, a7, a8, b2, fr_ovl 47 ⟨rfl, rfl, rfl, rfl, trivial⟩, hC, hO, h0, h1, a9⟩
  ·skip
   exact ⟨_, (some ⟨a2, 0, none⟩), 0, 0, ([a2]), fr_ovl 47 ⟨rfl, rfl, rfl, rfl, rfl, trivial⟩, hC, hO, h0, h1, b8⟩
  cases o99 with
  | nx _ => exact True.intro
  | rt r_ =>
   have hs := after_rt hs
   intro c6 d0 hK
   cases hs
   exact hK
  | br s95 =>
   have hs := after_br hs
   rintro c6 a0 ⟨σ, b3, b4, b5, b6, rfl, hC, hO, h0, h1, c7⟩
   refine c_sr ?_
   refine pl_val (.slice pa0 pn0 pc0) (y_move rfl) ?_
   refine pl_val (.int .i64 k67) (y_move rfl) ?_
   obtain ⟨x125, i1, hs⟩ := bind_some hs
   obtain ⟨e2, e3, i2, i3⟩ := rs_idx Sl149 Sz151 h0 i1
   refine pl_val (.pointer (some ⟨e2, e3, none⟩)) (i2 _ _ _ _ _ _ _ _ _ rfl rfl) ?_
   obtain ⟨_, i4⟩ := pr_at i3
   refine pl_val (.pointer (some ⟨e2, e3 + 1, none⟩)) (y_faddr rfl Fa151x1) ?_
   obtain ⟨j7, i5, i6⟩ := at_load Ag54 Sz54 (by intro h; cases h) i4
   obtain ⟨j8, rfl, i7⟩ := i6
   obtain ⟨j9, k0, rfl, i9, j0⟩ := pr_open i7
   obtain rfl := int_rel i9
   obtain ⟨j1, j2, j3, rfl, c8⟩ := rs_rel j0
   refine pl_val (.agg #[(.int .i64 x125.2.1), (.slice j1 j2 j3)]) (y_load rfl (i5 _ (Chg.refl _ _))) ?_
   refine pl_val (.slice b3 b4 b5) (y_move rfl) ?_
   obtain ⟨r131, j4, hs⟩ := bind_some hs
   refine pl_call Bd77 rfl (c_spec_l13Has (M := (Less M b6)) (x125.2.1, x125.2.2) s95.1 (c8.sub Less.sub) (((Frz.os Frz.int)).val c7 Less.sub Less.not) hO.less.fut j4) ?_
   rintro _ k1 ⟨rfl, a5⟩
   have h0 := h0.ext a5
   have h1 := h1.ext a5
   have c7 := c7.ext a5
   have c8 := c8.ext a5
   have hC := hC.ext a5
   have hO := hO.ext a5
   refine pl_val (.bool (!r131)) (y_not rfl) ?_
   refine c_nil ?_
   rcases bif_some hs with ⟨c9, hs⟩ | ⟨c9, hs⟩
   ·refine c_condT (congrArg Value.bool c9) ?_
    refine c_sr ?_
    refine pl_val (.bool false) (y_assign rfl) ?_
    refine c_nil ?_
    refine wp_ret ?_
    cases hs
    exact ⟨_, fr_ovl 47 ⟨rfl, trivial⟩, hC⟩
   refine c_condF (congrArg Value.bool c9) ?_
   refine wp_skip ?_
   refine c_region ?_
   refine pl_val (.int .i64 k67) (y_move rfl) ?_
   refine pl_val (.int .i64 (w64 (k67 + 1))) (y_add rfl rfl) ?_
   refine pl_val (.int .i64 (w64 (k67 + 1))) (y_assign rfl) ?_
   refine c_nil ?_
   cases hs
   have hO := hO.drop
   exact ⟨_, fr_ovl 47 ⟨rfl, rfl, congrArg (Value.int .i64) hw, trivial⟩, hC, hO, h0, h1⟩
 ·skip
  exact ⟨_, fr_ovl 47 ⟨rfl, rfl, rfl, trivial⟩, hC, hO, h0, h1⟩
 cases o69 with
 | nx _ => exact True.intro
 | rt r_ =>
  have hs := after_rt hs
  intro c6 d0 hK
  cases hs
  exact hK
 | br s65 =>
  have hs := after_br hs
  rintro c6 a1 ⟨σ, rfl, hC, hO, h0, h1⟩
  refine c_sr ?_
  refine pl_val (.bool true) (y_assign rfl) ?_
  refine c_nil ?_
  refine wp_ret ?_
  cases hs
  exact ⟨_, fr_ovl 47 ⟨rfl, trivial⟩, hC⟩

theorem Ag86 : AggT Try.prog 86 true := fun _ => by kernel_rfl

theorem Sz86 : SzT Try.prog 86 3 := ⟨_, rfl, rfl⟩

theorem Fa86x1 : ∀ (a : Addr) (w : World), (Instr.fieldAt 86 (.pointer (some a)) 1).run Try.prog w = .ok (.pointer (some (a.add 1))) w := fun _ _ => by kernel_rfl

theorem Fa86x0 : ∀ (a : Addr) (w : World), (Instr.fieldAt 86 (.pointer (some a)) 0).run Try.prog w = .ok (.pointer (some (a.add 0))) w := fun _ _ => by kernel_rfl

theorem Fa86x2 : ∀ (a : Addr) (w : World), (Instr.fieldAt 86 (.pointer (some a)) 2).run Try.prog w = .ok (.pointer (some (a.add 2))) w := fun _ _ => by kernel_rfl

theorem Bd121 : Bodied Try.prog 121 := bodied Try.func121 (by kernel_rfl) rfl

theorem Bd133 : Bodied Try.prog 133 := bodied Try.func133 (by kernel_rfl) rfl

theorem Bd107 : Bodied Try.prog 107 := bodied Try.func107 (by kernel_rfl) rfl

def k_spec_l14Go__take4 (M : Nat → Prop) (w0 : World) (qa0 : Option Addr) (qn0 qc0 : Nat) (qf0 : List Nat) (r : ((List (List Int)) × Int × Int)) (a : Act) (w : World) : Prop :=
  ∃ (σ : Nat → Value) (rg10 : Nat) (ra0 : Option Addr) (rn0 rc0 : Nat) (rf0 : List Nat), a = fr 83 (ovl σ [(10, (.pointer (some ⟨rg10, 0, none⟩)))]) ∧ BoxV w rg10 86 [(.slice ra0 rn0 rc0), (.int .i64 r.2.1), (.int .i64 r.2.2)] ∧ Chg (qf0 ++ ([])) w0 w ∧ (RT.os 41 (RT.os 3 (RT.int .i64))).val M w (.slice ra0 rn0 rc0) r.1 rf0 ∧ Own (Nw w0 (qf0 ++ ([]))) (fun _ => True) w (rf0 ++ ([]))
def s_spec_l14Go__take4 : Nat → (Int) → (List (List ((List Int) × (Int × (List (List Int)))))) → (List Int) → (List Int) → ((List (List Int)) × Int × Int) → Option (((List (List Int)) × Int × Int))
  | 0, _, _, _, _, _ => none
  | fu_ + 1, n, needs, fixed, table, s_ =>
  (bif ((table.length : Int) == (needs.length : Int)) then (bif (decide ((s_.1.length : Int) < s_.2.2)) then (s_spec_l1Own table).bind fun r37 =>
  (app s_.1 ([r37])).bind fun y42 =>
  some y42 else some s_.1).bind fun s29 =>
  some (s29, w64 (s_.2.1 + 1), s_.2.2) else (forC (S := (List (List Int)) × Int × Int) (R := ((List (List Int)) × Int × Int)) (fun k145 s143 =>
  ((idx fixed (table.length : Int)).bind fun x156 =>
  (bif (decide (0 ≤ x156)) then (idx fixed (table.length : Int)).bind fun x159 =>
  some (x159 != k145) else some false)).bind fun s153 =>
  (bif s153 then some (.nx (s143.1, s143.2.1, s143.2.2)) else (s_spec_l1Own table).bind fun r163 =>
  (app r163 ([k145])).bind fun y168 =>
  (idx needs (table.length : Int)).bind fun x170 =>
  (s_spec_l14Holds x170 y168).bind fun r175 =>
  (bif r175 then (s_spec_l14Go__take4 fu_ n needs fixed y168 (s143.1, s143.2.1, s143.2.2)).bind fun r191 =>
  some (r191.1, r191.2.1, r191.2.2) else some (s143.1, s143.2.1, s143.2.2)).bind fun s184 =>
  (bif ((s184.2.2 == 1) && (decide (0 < s184.2.1))) then some (.rt (s184.1, s184.2.1, s184.2.2)) else some (.nx (s184.1, s184.2.1, s184.2.2))))) 0 n (s_.1, s_.2.1, s_.2.2)).bind fun o147 => after o147 (fun r_ => some r_) (fun s143 =>
  some (s143.1, s143.2.1, s143.2.2)))
set_option maxHeartbeats 4000000 in
theorem c_spec_l14Go__take4 : ∀ (fu_ : Nat) {M : Nat → Prop} {w : World} {pa0 : Option Addr} {pn0 pc0 : Nat} {pa1 : Option Addr} {pn1 pc1 : Nat} {pa2 : Option Addr} {pn2 pc2 : Nat} {pa3 : Option Addr} {pn3 pc3 : Nat} {pf3 : List Nat} (n : Int) (needs : List (List ((List Int) × (Int × (List (List Int)))))) (fixed : List Int) (table : List Int) (s_ : (List (List Int)) × Int × Int) (h0 : (RT.rs (RT.rs (RT.pr (RT.rs (RT.int .i64)) (RT.pr (RT.int .i64) (RT.rs (RT.rs (RT.int .i64))))))).val M w (.slice pa0 pn0 pc0) needs ([])) (h1 : (RT.rs (RT.int .i64)).val M w (.slice pa1 pn1 pc1) fixed ([])) (h2 : (RT.rs (RT.int .i64)).val M w (.slice pa2 pn2 pc2) table ([])) (h3 : (RT.os 41 (RT.os 3 (RT.int .i64))).val M w (.slice pa3 pn3 pc3) s_.1 pf3) (hI : Own (Nw w (pf3 ++ ([]))) M w (pf3 ++ ([]))) (hM : ∀ g, w.heap.size ≤ g → M g) {r : ((List (List Int)) × Int × Int)} (hs : s_spec_l14Go__take4 fu_ n needs fixed table s_ = some r), Gives Try.prog 107 [(.int .i64 n), (.slice pa0 pn0 pc0), (.slice pa1 pn1 pc1), (.slice pa2 pn2 pc2), (.agg #[(.slice pa3 pn3 pc3), (.int .i64 s_.2.1), (.int .i64 s_.2.2)])] w (fun v w' => ∃ (ra0 : Option Addr) (rn0 rc0 : Nat) (rf0 : List Nat), v = (.agg #[(.slice ra0 rn0 rc0), (.int .i64 r.2.1), (.int .i64 r.2.2)]) ∧ Chg (pf3 ++ ([])) w w' ∧ (RT.os 41 (RT.os 3 (RT.int .i64))).val M w' (.slice ra0 rn0 rc0) r.1 rf0 ∧ Own (Nw w (pf3 ++ ([]))) (fun _ => True) w' (rf0 ++ ([]))) := by
 intro fu_
 induction fu_ with
 | zero => intro M w pa0 pn0 pc0 pa1 pn1 pc1 pa2 pn2 pc2 pa3 pn3 pc3 pf3 n needs fixed table s_ h0 h1 h2 h3 hI hM r hs; exact (nomatch hs)
 | succ fu_ c_ih =>
 intro M w pa0 pn0 pc0 pa1 pn1 pc1 pa2 pn2 pc2 pa3 pn3 pc3 pf3 n needs fixed table s_ h0 h1 h2 h3 hI hM r hs
 refine calls_fr Try.func107 rfl Try.ntmps107 (Nat.le_of_ble_eq_true rfl) ?_
 have hO := hI
 have hC := Chg.refl (pf3 ++ ([])) w
 rw [s_spec_l14Go__take4] at hs
 refine wp_mono (Q := KPost (k_spec_l14Go__take4 M w pa3 pn3 pc3 pf3 r)) ?_ (fun e a l2 h => ?_)
 rotate_left
 ·cases e
  case ret =>
   obtain ⟨σ, rg10, ra0, rn0, rc0, rf0, rfl, hbrg10, hrest⟩ := h
   exact ret1x Try.results107 (res_cell rfl (box_load Ag86 Sz86 hbrg10 [] _ [] rfl rfl (fun h => nomatch h))) ⟨ra0, rn0, rc0, rf0, rfl, hrest⟩
  all_goals exact (h : False).elim
 refine c_sr ?_
 obtain ⟨j3, a2, l3, j4, e4, a1⟩ := new_block w [(.slice pa3 pn3 pc3), (.int .i64 s_.2.1), (.int .i64 s_.2.2)] 86
 refine pl_val (w' := j3) (.pointer (some ⟨a2, 0, none⟩)) (y_box rfl (by rw [l3, j4]; kernel_rfl)) ?_
 have h0 := h0.ext e4
 have h1 := h1.ext e4
 have h2 := h2.ext e4
 have h3 := h3.ext e4
 have hC := hC.ext e4
 have hO := hO.new1 e4 j4 a1.lt
 obtain ⟨l4, a3, l5, j5, d6, a0⟩ := new_block j3 [(.slice none 0 0), (.int .i64 0), (.int .i64 0)] 86
 refine pl_val (w' := l4) (.pointer (some ⟨a3, 0, none⟩)) (y_alloc (by rw [l5, j5]; kernel_rfl)) ?_
 have h0 := h0.ext d6
 have h1 := h1.ext d6
 have h2 := h2.ext d6
 have h3 := h3.ext d6
 have a1 := a1.cn d6
 have hC := hC.ext d6
 have hO := hO.new1 d6 j5 a0.lt
 refine c_nil ?_
 refine c_sr ?_
 refine pl_val (.slice pa2 pn2 pc2) (y_move rfl) ?_
 refine pl_val (.int .i64 (table.length : Int)) (y_len' Sl41 (rs_len h2) rfl) ?_
 refine pl_val (.int .i64 (table.length : Int)) (y_assign rfl) ?_
 refine c_nil ?_
 refine c_seq ?_
 refine c_sr ?_
 refine pl_val (.int .i64 (table.length : Int)) (y_move rfl) ?_
 refine pl_val (.slice pa0 pn0 pc0) (y_move rfl) ?_
 refine pl_val (.int .i64 (needs.length : Int)) (y_len' Sl123 (rs_len h0) rfl) ?_
 refine pl_val (.bool ((table.length : Int) == (needs.length : Int))) (y_eql rfl rfl) ?_
 refine c_nil ?_
 rcases bif_some hs with ⟨g6, hs⟩ | ⟨g6, hs⟩
 ·refine c_condT (congrArg Value.bool g6) ?_
  refine c_sr ?_
  refine pl_val (.pointer (some ⟨a2, 1, none⟩)) (y_faddr rfl Fa86x1) ?_
  refine pl_val (.int .i64 s_.2.1) (y_load rfl ((box_load Ag3 Sz3 a1 [(.slice pa3 pn3 pc3)] [(.int .i64 s_.2.1)] [(.int .i64 s_.2.2)] rfl rfl (fun _ => rfl)) _ (Chg.refl _ _))) ?_
  refine pl_val (.int .i64 (w64 (s_.2.1 + 1))) (y_add rfl rfl) ?_
  refine pl_val (.pointer (some ⟨a2, 1, none⟩)) (y_faddr rfl Fa86x1) ?_
  obtain ⟨f2, l6, d7, a5⟩ := box_store (P := Try.prog) a1 [(.slice pa3 pn3 pc3)] [(.int .i64 s_.2.1)] [(.int .i64 s_.2.2)] [(.int .i64 (w64 (s_.2.1 + 1)))] rfl rfl (by intro u hu; simp only [List.mem_cons, List.not_mem_nil, or_false] at hu; rcases hu with rfl <;> rfl)
  refine pl_skip (w' := f2) (ys_store rfl rfl (l6 _ _ rfl Sz3)) ?_
  have hO := hO.fr1
  have h0 := h0.mt d7 hO same_
  have h1 := h1.mt d7 hO same_
  have h2 := h2.mt d7 hO same_
  have h3 := h3.ma d7 hO same_ (fun _ e => (mem_r (mem_l (e))))
  have a0 := a0.ap d7 hO same_ (mem_l (List.mem_singleton.2 rfl))
  have hC := hC.st d7 hO same_
  have hO := hO.ext d7
  have a5 : BoxV f2 a2 86 [(.slice pa3 pn3 pc3), (.int .i64 (w64 (s_.2.1 + 1))), (.int .i64 s_.2.2)] := a5
  refine c_nil ?_
  refine c_seq ?_
  refine c_sr ?_
  refine pl_val (.pointer (some ⟨a2, 0, none⟩)) (y_faddr rfl Fa86x0) ?_
  refine pl_val (.slice pa3 pn3 pc3) (y_load rfl ((box_load Ag47 Sz47 a5 [] [(.slice pa3 pn3 pc3)] [(.int .i64 (w64 (s_.2.1 + 1))), (.int .i64 s_.2.2)] rfl rfl (fun _ => rfl)) _ (Chg.refl _ _))) ?_
  refine pl_val (.int .i64 (s_.1.length : Int)) (y_len' Sl47 (os_len h3) rfl) ?_
  refine pl_val (.pointer (some ⟨a2, 2, none⟩)) (y_faddr rfl Fa86x2) ?_
  refine pl_val (.int .i64 s_.2.2) (y_load rfl ((box_load Ag3 Sz3 a5 [(.slice pa3 pn3 pc3), (.int .i64 (w64 (s_.2.1 + 1)))] [(.int .i64 s_.2.2)] [] rfl rfl (fun _ => rfl)) _ (Chg.refl _ _))) ?_
  refine pl_val (.bool (decide ((s_.1.length : Int) < s_.2.2))) (y_lss rfl rfl) ?_
  refine c_nil ?_
  obtain ⟨s29, l7, hs⟩ := bind_some hs
  refine c_mid (I := fun a c1 => ∃ (σ : Nat → Value) (c4 : Option Addr) (c5 : Nat) (c6 : Nat) (f3 : List Nat), a = fr 83 (ovl σ [(0, (.int .i64 n)), (1, (.slice pa0 pn0 pc0)), (2, (.slice pa1 pn1 pc1)), (3, (.slice pa2 pn2 pc2)), (9, (.pointer (some ⟨a2, 0, none⟩))), (10, (.pointer (some ⟨a3, 0, none⟩))), (11, (.int .i64 (table.length : Int)))]) ∧ Chg (pf3 ++ ([])) w c1 ∧ Own (Nw w (pf3 ++ ([]))) M c1 (f3 ++ (([a2]) ++ (([a3]) ++ []))) ∧ (RT.rs (RT.rs (RT.pr (RT.rs (RT.int .i64)) (RT.pr (RT.int .i64) (RT.rs (RT.rs (RT.int .i64))))))).val M c1 (.slice pa0 pn0 pc0) needs ([]) ∧ (RT.rs (RT.int .i64)).val M c1 (.slice pa1 pn1 pc1) fixed ([]) ∧ (RT.rs (RT.int .i64)).val M c1 (.slice pa2 pn2 pc2) table ([]) ∧ BoxV c1 a2 86 [(.slice c4 c5 c6), (.int .i64 (w64 (s_.2.1 + 1))), (.int .i64 s_.2.2)] ∧ BoxV c1 a3 86 [(.slice none 0 0), (.int .i64 0), (.int .i64 0)] ∧ (RT.os 41 (RT.os 3 (RT.int .i64))).val M c1 (.slice c4 c5 c6) s29 f3) ?_ ?_
  ·replace hs := l7
   rcases bif_some hs with ⟨g7, hs⟩ | ⟨g7, hs⟩
   ·refine c_condT (congrArg Value.bool g7) ?_
    refine x_start [5, 7] Mx rfl ?_
    have c2 := Chg.drew f2
    generalize World.drew f2 = l8 at c2 ⊢
    have h0 := h0.ext c2
    have h1 := h1.ext c2
    have h2 := h2.ext c2
    have h3 := h3.ext c2
    have a5 := a5.cn c2
    have a0 := a0.cn c2
    have hC := hC.ext c2
    have hO := hO.ext c2
    have hS := Chg.refl [] l8
    refine x_p 0 (.pointer (some ⟨a2, 0, none⟩)) rfl (by kernel_rfl)  (fun _ => y_faddr rfl Fa86x0) (fun _ => hS) ?_
    refine x_l 1 (.slice pa3 pn3 pc3) rfl (by kernel_rfl)  (fun w' hw' => y_load rfl ((box_load Ag47 Sz47 a5 [] [(.slice pa3 pn3 pc3)] [(.int .i64 (w64 (s_.2.1 + 1))), (.int .i64 s_.2.2)] rfl rfl (fun _ => rfl)) w' hw')) hS ?_
    refine x_p 2 (.slice pa2 pn2 pc2) rfl (by kernel_rfl)  (fun _ => y_move rfl) (fun _ => hS) ?_
    refine x_one (i := 3) (by kernel_rfl) ?_
    obtain ⟨r37, l9, hs⟩ := bind_some hs
    refine xk_call (b := false) rfl  Bd121 rfl (c_spec_l1Own (M := M) table h2 hO.fut l9) rfl (by rintro _ _ _ ⟨g8, g9, h4, e7, rfl, a8, f4, j6⟩; exact hS.ext a8) ?_
    rintro _ m0 ⟨g8, g9, h4, e7, rfl, a8, f4, j6⟩
    have h0 := h0.ext a8
    have h1 := h1.ext a8
    have h2 := h2.ext a8
    have h3 := h3.ext a8
    have a5 := a5.cn a8
    have a0 := a0.cn a8
    have hC := hC.ext a8
    have hO := Own.join0 hO a8 j6
    have hO := hO.perm (R := e7 ++ (([a2]) ++ (([a3]) ++ (pf3 ++ ([]))))) (by simp)
    have hS := hS.ext a8
    refine x_one (i := 4) (by kernel_rfl) ?_
    obtain ⟨j7, f5, m1, j8, a9, j9⟩ := new_block m0 [(.slice g8 g9 h4)] 41
    refine xk_val (w' := j7) (b := false) (.slice (some ⟨f5, 0, none⟩) 1 1) rfl  (y_bslice rfl (by rw [m1, j8]; kernel_rfl)) rfl (fun _ => hS.ext a9) ?_
    have h0 := h0.ext a9
    have h1 := h1.ext a9
    have h2 := h2.ext a9
    have h3 := h3.ext a9
    have a5 := a5.cn a9
    have a0 := a0.cn a9
    have f4 := f4.ext a9
    have hC := hC.ext a9
    have hO := hO.new1 a9 j8 j9.lt
    have hO := hO.perm (R := (f5 :: ((e7) ++ ([]))) ++ (([a2]) ++ (([a3]) ++ (pf3 ++ ([]))))) (by simp)
    have m2 := hO.nd
    have h5 := os_of_box (r := (RT.os 3 (RT.int .i64))) (M := M) (css := [[(.slice g8 g9 h4)]]) (fps := [(e7 : List Nat)]) (xs := ([r37] : List (List Int))) j9 ⟨(os_unval f4), trivial⟩ (Nat.le_of_ble_eq_true rfl) m2
    have h5 : (RT.os 41 (RT.os 3 (RT.int .i64))).val M j7 (.slice (some ⟨f5, 0, none⟩) 1 1) [r37] (f5 :: ((e7) ++ ([]))) := h5
    have hS := hS.ext a9
    refine x_one (i := 5) (by kernel_rfl) ?_
    obtain ⟨y42, m3, hs⟩ := bind_some hs
    have hO := hO.fr3
    obtain ⟨f6, f7, f8, m4, m5, m6, d8, m7, e8⟩ := app_os Rw47 m3 h3 h5 hO.inM (fun g hg hq => hO.apart g hq (mem_l hg))
    have e5 := os_block h3
    refine xk_val (w' := m4) (b := true) (.slice f6 f7 f8) rfl  (y_append rfl rfl (m6 _)) rfl (fun h => nomatch h) ?_
    have hO := hO.fr1
    have hO := hO.fr1
    have h0 := h0.mt d8 hO e5
    have h1 := h1.mt d8 hO e5
    have h2 := h2.mt d8 hO e5
    have a5 := a5.ap d8 hO e5 (mem_r (mem_l (List.mem_singleton.2 rfl)))
    have a0 := a0.ap d8 hO e5 (mem_r (mem_r (mem_l (List.mem_singleton.2 rfl))))
    have hC := hC.st d8 hO e5
    have hO := hO.eat d8 m7 (os_nodup e8) e8.fpl
    refine x_p 6 (.pointer (some ⟨a2, 0, none⟩)) rfl (by kernel_rfl)  (fun _ => y_faddr rfl Fa86x0) (fun h => nomatch h) ?_
    refine x_one (i := 7) (by kernel_rfl) ?_
    obtain ⟨k0, m8, d9, h6⟩ := box_store (P := Try.prog) a5 [] [(.slice pa3 pn3 pc3)] [(.int .i64 (w64 (s_.2.1 + 1))), (.int .i64 s_.2.2)] [(.slice f6 f7 f8)] rfl rfl (by intro u hu; simp only [List.mem_cons, List.not_mem_nil, or_false] at hu; rcases hu with rfl <;> rfl)
    refine xk_skip (w' := k0) (b := true) rfl (ys_store rfl rfl (m8 _ _ rfl Sz47)) rfl (fun h => nomatch h) ?_
    have hO := hO.fr1
    have h0 := h0.mt d9 hO same_
    have h1 := h1.mt d9 hO same_
    have h2 := h2.mt d9 hO same_
    have a0 := a0.ap d9 hO same_ (mem_r (mem_l (List.mem_singleton.2 rfl)))
    have e8 := e8.ma d9 hO same_ (fun _ e => (mem_l (e)))
    have hC := hC.st d9 hO same_
    have hO := hO.ext d9
    have h6 : BoxV k0 a2 86 [(.slice f6 f7 f8), (.int .i64 (w64 (s_.2.1 + 1))), (.int .i64 s_.2.2)] := h6
    refine x_end (by kernel_rfl) ?_
    clear hS
    cases hs
    have hO := hO.fr2
    have hO := hO.fr1
    have hO := hO.fr2
    exact ⟨_, f6, f7, f8, m5, fr_ovl 83 ⟨rfl, rfl, rfl, rfl, rfl, rfl, rfl, trivial⟩, hC, hO, h0, h1, h2, h6, a0, e8⟩
   refine c_condF (congrArg Value.bool g7) ?_
   refine wp_skip ?_
   cases hs
   have hO := hO.fr1
   have hO := hO.fr1
   have hO := hO.fr2
   exact ⟨_, pa3, pn3, pc3, pf3, fr_ovl 83 ⟨rfl, rfl, rfl, rfl, rfl, rfl, rfl, trivial⟩, hC, hO, h0, h1, h2, a5, a0, h3⟩
  rintro e9 c1 ⟨σ, c4, c5, c6, f3, rfl, hC, hO, h0, h1, h2, a5, a0, h7⟩
  refine c_sr ?_
  refine pl_val (.agg #[(.slice c4 c5 c6), (.int .i64 (w64 (s_.2.1 + 1))), (.int .i64 s_.2.2)]) (y_load rfl ((box_load Ag86 Sz86 a5 [] [(.slice c4 c5 c6), (.int .i64 (w64 (s_.2.1 + 1))), (.int .i64 s_.2.2)] [] rfl rfl (fun h => nomatch h)) _ (Chg.refl _ _))) ?_
  obtain ⟨k1, m9, e0, h8⟩ := box_store (P := Try.prog) a0 [] [(.slice none 0 0), (.int .i64 0), (.int .i64 0)] [] [(.slice c4 c5 c6), (.int .i64 (w64 (s_.2.1 + 1))), (.int .i64 s_.2.2)] rfl rfl (by intro u hu; simp only [List.mem_cons, List.not_mem_nil, or_false] at hu; rcases hu with rfl | rfl | rfl <;> rfl)
  refine pl_skip (w' := k1) (ys_store rfl rfl (m9 _ _ rfl Sz86)) ?_
  have hO := hO.fr2
  have h0 := h0.mt e0 hO same_
  have h1 := h1.mt e0 hO same_
  have h2 := h2.mt e0 hO same_
  have a5 := a5.ap e0 hO same_ (mem_r (mem_l (List.mem_singleton.2 rfl)))
  have h7 := h7.ma e0 hO same_ (fun _ e => (mem_l (e)))
  have hC := hC.st e0 hO same_
  have hO := hO.ext e0
  have h8 : BoxV k1 a3 86 [(.slice c4 c5 c6), (.int .i64 (w64 (s_.2.1 + 1))), (.int .i64 s_.2.2)] := h8
  refine c_nil ?_
  refine wp_ret ?_
  cases hs
  have hO := hO.drop
  have hO := hO.fr1
  have hO := hO.drop
  exact ⟨_, a3, c4, c5, c6, f3, fr_ovl 83 ⟨rfl, trivial⟩, h8, hC, h7, hO.top⟩
 refine c_condF (congrArg Value.bool g6) ?_
 refine wp_skip ?_
 refine c_seq ?_
 refine c_sr ?_
 refine pl_val (.int .i64 0) (y_assign rfl) ?_
 refine c_nil ?_
 obtain ⟨o147, n0, hs⟩ := bind_some hs
 refine wp_block ?_
 refine wp_forC (id := 0) n (I := fun k145 s143 a a4 => ∃ (σ : Nat → Value) (b5 : Option Addr) (b6 : Nat) (b7 : Nat) (b8 : List Nat), a = fr 83 (ovl σ [(0, (.int .i64 n)), (1, (.slice pa0 pn0 pc0)), (2, (.slice pa1 pn1 pc1)), (3, (.slice pa2 pn2 pc2)), (9, (.pointer (some ⟨a2, 0, none⟩))), (10, (.pointer (some ⟨a3, 0, none⟩))), (11, (.int .i64 (table.length : Int))), (12, (.int .i64 k145))]) ∧ Chg (pf3 ++ ([])) w a4 ∧ Own (Nw w (pf3 ++ ([]))) M a4 (b8 ++ (([a3]) ++ (([a2]) ++ []))) ∧ (RT.rs (RT.rs (RT.pr (RT.rs (RT.int .i64)) (RT.pr (RT.int .i64) (RT.rs (RT.rs (RT.int .i64))))))).val M a4 (.slice pa0 pn0 pc0) needs ([]) ∧ (RT.rs (RT.int .i64)).val M a4 (.slice pa1 pn1 pc1) fixed ([]) ∧ (RT.rs (RT.int .i64)).val M a4 (.slice pa2 pn2 pc2) table ([]) ∧ BoxV a4 a2 86 [(.slice b5 b6 b7), (.int .i64 s143.2.1), (.int .i64 s143.2.2)] ∧ BoxV a4 a3 86 [(.slice none 0 0), (.int .i64 0), (.int .i64 0)] ∧ (RT.os 41 (RT.os 3 (RT.int .i64))).val M a4 (.slice b5 b6 b7) s143.1 b8) (J := fun s143 a a4 => ∃ (σ : Nat → Value) (c7 : Option Addr) (c8 : Nat) (c9 : Nat) (f9 : List Nat), a = fr 83 (ovl σ [(9, (.pointer (some ⟨a2, 0, none⟩))), (10, (.pointer (some ⟨a3, 0, none⟩)))]) ∧ Chg (pf3 ++ ([])) w a4 ∧ Own (Nw w (pf3 ++ ([]))) M a4 (f9 ++ (([a3]) ++ (([a2]) ++ []))) ∧ (RT.rs (RT.rs (RT.pr (RT.rs (RT.int .i64)) (RT.pr (RT.int .i64) (RT.rs (RT.rs (RT.int .i64))))))).val M a4 (.slice pa0 pn0 pc0) needs ([]) ∧ (RT.rs (RT.int .i64)).val M a4 (.slice pa1 pn1 pc1) fixed ([]) ∧ (RT.rs (RT.int .i64)).val M a4 (.slice pa2 pn2 pc2) table ([]) ∧ BoxV a4 a2 86 [(.slice c7 c8 c9), (.int .i64 s143.2.1), (.int .i64 s143.2.2)] ∧ BoxV a4 a3 86 [(.slice none 0 0), (.int .i64 0), (.int .i64 0)] ∧ (RT.os 41 (RT.os 3 (RT.int .i64))).val M a4 (.slice c7 c8 c9) s143.1 f9) (K := (k_spec_l14Go__take4 M w pa3 pn3 pc3 pf3)) ?_ ?_ 0 (s_.1, s_.2.1, s_.2.2) o147 _ _ ?_ n0 ?_
 ·rintro k145 s143 a a4 ⟨σ, b5, b6, b7, b8, rfl, hC, hO, h0, h1, h2, a1, a0, a6⟩ hlt
  refine c_seq ?_
  refine c_sr ?_
  refine pl_val (.int .i64 k145) (y_move rfl) ?_
  refine pl_val (.int .i64 n) (y_move rfl) ?_
  refine pl_val (.bool (decide (k145 < n))) (y_lss rfl rfl) ?_
  refine c_nil ?_
  refine c_condF (congrArg Value.bool (decide_eq_false hlt)) ?_
  refine wp_exit ?_
  have hO := hO.fr2
  have hO := hO.fr2
  have hO := hO.fr2
  exact ⟨rfl, _, b5, b6, b7, b8, fr_ovl 83 ⟨rfl, rfl, trivial⟩, hC, hO, h0, h1, h2, a1, a0, a6⟩
 ·rintro k145 s143 o147 a a4 ⟨σ, b5, b6, b7, b8, rfl, hC, hO, h0, h1, h2, a1, a0, a6⟩ hlt hw hs
  refine c_seq ?_
  refine c_sr ?_
  refine pl_val (.int .i64 k145) (y_move rfl) ?_
  refine pl_val (.int .i64 n) (y_move rfl) ?_
  refine pl_val (.bool (decide (k145 < n))) (y_lss rfl rfl) ?_
  refine c_nil ?_
  refine c_condT (congrArg Value.bool (decide_eq_true hlt)) ?_
  refine wp_skip ?_
  refine c_seq ?_
  refine wp_block ?_
  refine c_seq ?_
  refine c_seq ?_
  obtain ⟨s153, n1, hs⟩ := bind_some hs
  refine c_mid (I := fun a k2 => ∃ (σ : Nat → Value), a = fr 83 (ovl σ [(0, (.int .i64 n)), (1, (.slice pa0 pn0 pc0)), (2, (.slice pa1 pn1 pc1)), (3, (.slice pa2 pn2 pc2)), (9, (.pointer (some ⟨a2, 0, none⟩))), (10, (.pointer (some ⟨a3, 0, none⟩))), (11, (.int .i64 (table.length : Int))), (12, (.int .i64 k145)), (55, (.bool s153))]) ∧ Chg [] a4 k2) ?_ ?_
  ·replace hs := n1
   have hMid := Chg.refl [] a4
   refine c_region ?_
   refine pl_val (.slice pa1 pn1 pc1) (y_move rfl) ?_
   refine pl_val (.int .i64 (table.length : Int)) (y_move rfl) ?_
   obtain ⟨x156, n2, hs⟩ := bind_some hs
   obtain ⟨n3, n4, n5, n6⟩ := rs_idx Sl41 Sz3 h1 n2
   refine pl_val (.pointer (some ⟨n3, n4, none⟩)) (n5 _ _ _ _ _ _ _ _ _ rfl rfl) ?_
   refine pl_val (.int .i64 x156) (y_load rfl ((at_load_int Ag3 Sz3 n6) _ (Chg.refl _ _))) ?_
   refine pl_val (.bool (decide (0 ≤ x156))) (y_geq rfl rfl) ?_
   refine pl_val (.bool (decide (0 ≤ x156))) (y_move rfl) ?_
   rcases bif_some hs with ⟨a7, hs⟩ | ⟨a7, hs⟩
   ·skip
    refine pl_yes (.slice pa1 pn1 pc1) (tg := 48) (by kernel_rfl) (congrArg Value.bool a7) (y_move rfl) ?_
    refine pl_yes (.int .i64 (table.length : Int)) (tg := 48) (by kernel_rfl) (congrArg Value.bool a7) (y_move rfl) ?_
    obtain ⟨x159, n7, hs⟩ := bind_some hs
    obtain ⟨n8, n9, o0, o1⟩ := rs_idx Sl41 Sz3 h1 n7
    refine pl_yes (.pointer (some ⟨n8, n9, none⟩)) (tg := 48) (by kernel_rfl) (congrArg Value.bool a7) (o0 _ _ _ _ _ _ _ _ _ rfl rfl) ?_
    refine pl_yes (.int .i64 x159) (tg := 48) (by kernel_rfl) (congrArg Value.bool a7) (y_load rfl ((at_load_int Ag3 Sz3 o1) _ (Chg.refl _ _))) ?_
    refine pl_yes (.int .i64 k145) (tg := 48) (by kernel_rfl) (congrArg Value.bool a7) (y_move rfl) ?_
    refine pl_yes (.bool (x159 != k145)) (tg := 48) (by kernel_rfl) (congrArg Value.bool a7) (y_neq rfl rfl) ?_
    refine pl_val (.bool (x159 != k145)) (y_pick_t (congrArg Value.bool a7) rfl) ?_
    refine c_nil ?_
    cases hs
    exact ⟨_, fr_ovl 83 ⟨rfl, rfl, rfl, rfl, rfl, rfl, rfl, rfl, rfl, trivial⟩, hMid⟩
   refine pl_not (tg := 48) (by kernel_rfl) (congrArg Value.bool a7) ?_
   refine pl_not (tg := 48) (by kernel_rfl) (congrArg Value.bool a7) ?_
   refine pl_not (tg := 48) (by kernel_rfl) (congrArg Value.bool a7) ?_
   refine pl_not (tg := 48) (by kernel_rfl) (congrArg Value.bool a7) ?_
   refine pl_not (tg := 48) (by kernel_rfl) (congrArg Value.bool a7) ?_
   refine pl_not (tg := 48) (by kernel_rfl) (congrArg Value.bool a7) ?_
   refine pl_val (.bool false) (y_pick_f (congrArg Value.bool a7) rfl) ?_
   refine c_nil ?_
   cases hs
   exact ⟨_, fr_ovl 83 ⟨rfl, rfl, rfl, rfl, rfl, rfl, rfl, rfl, rfl, trivial⟩, hMid⟩
  rintro e9 k2 ⟨σ, rfl, d0⟩
  have h0 := h0.ext d0
  have h1 := h1.ext d0
  have h2 := h2.ext d0
  have a1 := a1.cn d0
  have a0 := a0.cn d0
  have a6 := a6.ext d0
  have hC := hC.ext d0
  have hO := hO.ext d0
  rcases bif_some hs with ⟨h9, hs⟩ | ⟨h9, hs⟩
  ·refine c_condT (congrArg Value.bool h9) ?_
   refine wp_exit ?_
   refine c_region ?_
   refine pl_val (.int .i64 k145) (y_move rfl) ?_
   refine pl_val (.int .i64 (w64 (k145 + 1))) (y_add rfl rfl) ?_
   refine pl_val (.int .i64 (w64 (k145 + 1))) (y_assign rfl) ?_
   refine c_nil ?_
   cases hs
   have hO := hO.fr2
   have hO := hO.fr2
   have hO := hO.fr2
   exact ⟨_, b5, b6, b7, b8, fr_ovl 83 ⟨rfl, rfl, rfl, rfl, rfl, rfl, rfl, congrArg (Value.int .i64) hw, trivial⟩, hC, hO, h0, h1, h2, a1, a0, a6⟩
  refine c_condF (congrArg Value.bool h9) ?_
  refine wp_skip ?_
  refine c_seq ?_
  refine c_sr ?_
  refine pl_val (.slice pa2 pn2 pc2) (y_move rfl) ?_
  obtain ⟨r163, o2, hs⟩ := bind_some hs
  refine pl_call Bd121 rfl (c_spec_l1Own (M := M) table h2 hO.fut o2) ?_
  rintro _ o3 ⟨q7, q8, q9, o4, rfl, d1, g0, o5⟩
  have h0 := h0.ext d1
  have h1 := h1.ext d1
  have h2 := h2.ext d1
  have a1 := a1.cn d1
  have a0 := a0.cn d1
  have a6 := a6.ext d1
  have hC := hC.ext d1
  have hO := Own.join0 hO d1 o5
  have hO := hO.perm (R := o4 ++ (b8 ++ (([a3]) ++ (([a2]) ++ ([]))))) (by simp)
  refine pl_val (.int .i64 k145) (y_move rfl) ?_
  obtain ⟨k3, i0, o6, k4, c3, k5⟩ := new_block o3 [(.int .i64 k145)] 3
  refine pl_val (w' := k3) (.slice (some ⟨i0, 0, none⟩) 1 1) (y_bslice rfl (by rw [o6, k4]; kernel_rfl)) ?_
  have h0 := h0.ext c3
  have h1 := h1.ext c3
  have h2 := h2.ext c3
  have a1 := a1.cn c3
  have a0 := a0.cn c3
  have a6 := a6.ext c3
  have g0 := g0.ext c3
  have hC := hC.ext c3
  have hO := hO.new1 c3 k4 k5.lt
  have i1 := os_of_box (r := (RT.int .i64)) (M := M) (css := [[(.int .i64 k145)]]) (fps := [([] : List Nat)]) (xs := ([k145] : List Int)) k5 ⟨⟨rfl, rfl⟩, trivial⟩ (Nat.le_of_ble_eq_true rfl) (List.nodup_cons.2 ⟨(fun h => nomatch h), List.nodup_nil⟩)
  have i1 : (RT.os 3 (RT.int .i64)).val M k3 (.slice (some ⟨i0, 0, none⟩) 1 1) [k145] [i0] := i1
  obtain ⟨y168, o7, hs⟩ := bind_some hs
  have hO := hO.fr1
  obtain ⟨g1, g2, g3, o8, g4, o9, d2, p0, b9⟩ := app_os Rw41 o7 g0 i1 hO.inM (fun g hg hq => hO.apart g hq (mem_l hg))
  have e1 := os_block g0
  refine pl_val (w' := o8) (.slice g1 g2 g3) (y_append rfl rfl (o9 _)) ?_
  have hO := hO.fr1
  have hO := hO.fr1
  have h0 := h0.mt d2 hO e1
  have h1 := h1.mt d2 hO e1
  have h2 := h2.mt d2 hO e1
  have a1 := a1.ap d2 hO e1 (mem_r (mem_r (mem_r (mem_l (List.mem_singleton.2 rfl)))))
  have a0 := a0.ap d2 hO e1 (mem_r (mem_r (mem_l (List.mem_singleton.2 rfl))))
  have a6 := a6.ma d2 hO e1 (fun _ e => (mem_r (mem_l (e))))
  have hC := hC.st d2 hO e1
  have hO := hO.eat d2 p0 (os_nodup b9) b9.fpl
  refine pl_val (.slice g1 g2 g3) (y_assign rfl) ?_
  refine c_nil ?_
  refine c_sr ?_
  refine pl_val (.slice pa0 pn0 pc0) (y_move rfl) ?_
  refine pl_val (.int .i64 (table.length : Int)) (y_move rfl) ?_
  obtain ⟨x170, p1, hs⟩ := bind_some hs
  obtain ⟨p2, p3, p4, p5⟩ := rs_idx Sl123 Sz149 h0 p1
  refine pl_val (.pointer (some ⟨p2, p3, none⟩)) (p4 _ _ _ _ _ _ _ _ _ rfl rfl) ?_
  obtain ⟨r0, p6, g5⟩ := at_load Ag149 Sz149 (fun _ => rfl) p5
  obtain ⟨p7, p8, p9, rfl⟩ := rs_sl g5
  refine pl_val (.slice p7 p8 p9) (y_load rfl (p6 _ (Chg.refl _ _))) ?_
  refine pl_val (.slice g1 g2 g3) (y_move rfl) ?_
  obtain ⟨r175, q0, hs⟩ := bind_some hs
  refine pl_call Bd133 rfl (c_spec_l14Holds (M := (Less M g4)) x170 y168 (g5.sub Less.sub) (((Frz.os Frz.int)).val b9 Less.sub Less.not) hO.less.fut q0) ?_
  rintro _ r1 ⟨rfl, c0⟩
  have h0 := h0.ext c0
  have h1 := h1.ext c0
  have h2 := h2.ext c0
  have a1 := a1.cn c0
  have a0 := a0.cn c0
  have a6 := a6.ext c0
  have b9 := b9.ext c0
  have g5 := g5.ext c0
  have hC := hC.ext c0
  have hO := hO.ext c0
  refine c_nil ?_
  obtain ⟨s184, q1, hs⟩ := bind_some hs
  refine c_mid (I := fun a b0 => ∃ (σ : Nat → Value) (b1 : Option Addr) (b2 : Nat) (b3 : Nat) (f0 : List Nat), a = fr 83 (ovl σ [(0, (.int .i64 n)), (1, (.slice pa0 pn0 pc0)), (2, (.slice pa1 pn1 pc1)), (3, (.slice pa2 pn2 pc2)), (9, (.pointer (some ⟨a2, 0, none⟩))), (10, (.pointer (some ⟨a3, 0, none⟩))), (11, (.int .i64 (table.length : Int))), (12, (.int .i64 k145))]) ∧ Chg (pf3 ++ ([])) w b0 ∧ Own (Nw w (pf3 ++ ([]))) M b0 (f0 ++ (([a3]) ++ (([a2]) ++ []))) ∧ (RT.rs (RT.rs (RT.pr (RT.rs (RT.int .i64)) (RT.pr (RT.int .i64) (RT.rs (RT.rs (RT.int .i64))))))).val M b0 (.slice pa0 pn0 pc0) needs ([]) ∧ (RT.rs (RT.int .i64)).val M b0 (.slice pa1 pn1 pc1) fixed ([]) ∧ (RT.rs (RT.int .i64)).val M b0 (.slice pa2 pn2 pc2) table ([]) ∧ BoxV b0 a2 86 [(.slice b1 b2 b3), (.int .i64 s184.2.1), (.int .i64 s184.2.2)] ∧ BoxV b0 a3 86 [(.slice none 0 0), (.int .i64 0), (.int .i64 0)] ∧ (RT.os 41 (RT.os 3 (RT.int .i64))).val M b0 (.slice b1 b2 b3) s184.1 f0) ?_ ?_
  ·replace hs := q1
   rcases bif_some hs with ⟨i2, hs⟩ | ⟨i2, hs⟩
   ·refine c_condT (congrArg Value.bool i2) ?_
    refine c_region ?_
    refine pl_val (.int .i64 n) (y_move rfl) ?_
    refine pl_val (.slice pa0 pn0 pc0) (y_move rfl) ?_
    refine pl_val (.slice pa1 pn1 pc1) (y_move rfl) ?_
    refine pl_val (.slice g1 g2 g3) (y_move rfl) ?_
    refine pl_val (.agg #[(.slice b5 b6 b7), (.int .i64 s143.2.1), (.int .i64 s143.2.2)]) (y_load rfl ((box_load Ag86 Sz86 a1 [] [(.slice b5 b6 b7), (.int .i64 s143.2.1), (.int .i64 s143.2.2)] [] rfl rfl (fun h => nomatch h)) _ (Chg.refl _ _))) ?_
    have hO := hO.fr1
    have i3 := hO
    have i3 := i3.fr1
    have k6 := Own.lend (F := (b8 ++ ([]))) (R := ([a3]) ++ (([a2]) ++ ([]))) (Own.perm (i3.less) (by simp))
    obtain ⟨r191, q2, hs⟩ := bind_some hs
    refine pl_call Bd107 rfl (c_ih (M := (Less M g4)) n needs fixed y168 (s143.1, s143.2.1, s143.2.2) (h0.sub Less.sub) (h1.sub Less.sub) (((Frz.os Frz.int)).val b9 Less.sub Less.not) (a6.sub Less.sub) k6 k6.fut q2) ?_
    rintro _ r2 ⟨i4, i5, i6, k7, rfl, d3, f1, q3⟩
    have hO := hO.fr1
    have hO := hO.fr1
    have hO := hO.perm (R := (b8 ++ ([])) ++ (g4 ++ (([a3]) ++ (([a2]) ++ ([]))))) (by simp)
    have h0 := h0.mt d3 hO same_
    have h1 := h1.mt d3 hO same_
    have h2 := h2.mt d3 hO same_
    have a1 := a1.ap d3 hO same_ (mem_r (mem_r (mem_l (List.mem_singleton.2 rfl))))
    have a0 := a0.ap d3 hO same_ (mem_r (mem_l (List.mem_singleton.2 rfl)))
    have b9 := b9.ma d3 hO same_ (fun _ e => (mem_l (e)))
    have hC := hC.st d3 hO same_
    have hO := Own.join hO d3 q3
    have hO := hO.perm (R := k7 ++ (g4 ++ (([a3]) ++ (([a2]) ++ ([]))))) (by simp)
    have f1 := f1.free (M' := M) (Free.os (Free.os Free.int))
    obtain ⟨k8, q4, d4, i7⟩ := box_store (P := Try.prog) a1 [] [(.slice b5 b6 b7), (.int .i64 s143.2.1), (.int .i64 s143.2.2)] [] [(.slice i4 i5 i6), (.int .i64 r191.2.1), (.int .i64 r191.2.2)] rfl rfl (by intro u hu; simp only [List.mem_cons, List.not_mem_nil, or_false] at hu; rcases hu with rfl | rfl | rfl <;> rfl)
    refine pl_skip (w' := k8) (ys_store rfl rfl (q4 _ _ rfl Sz86)) ?_
    have hO := hO.fr3
    have h0 := h0.mt d4 hO same_
    have h1 := h1.mt d4 hO same_
    have h2 := h2.mt d4 hO same_
    have a0 := a0.ap d4 hO same_ (mem_r (mem_r (mem_l (List.mem_singleton.2 rfl))))
    have b9 := b9.ma d4 hO same_ (fun _ e => (mem_r (mem_l (e))))
    have f1 := f1.ma d4 hO same_ (fun _ e => (mem_l (e)))
    have hC := hC.st d4 hO same_
    have hO := hO.ext d4
    have i7 : BoxV k8 a2 86 [(.slice i4 i5 i6), (.int .i64 r191.2.1), (.int .i64 r191.2.2)] := i7
    refine c_nil ?_
    cases hs
    have hO := hO.fr2
    have hO := hO.drop
    have hO := hO.fr2
    have hO := hO.fr2
    exact ⟨_, i4, i5, i6, k7, fr_ovl 83 ⟨rfl, rfl, rfl, rfl, rfl, rfl, rfl, rfl, trivial⟩, hC, hO, h0, h1, h2, i7, a0, f1⟩
   refine c_condF (congrArg Value.bool i2) ?_
   refine wp_skip ?_
   cases hs
   have hO := hO.drop
   have hO := hO.fr2
   have hO := hO.fr2
   have hO := hO.fr2
   exact ⟨_, b5, b6, b7, b8, fr_ovl 83 ⟨rfl, rfl, rfl, rfl, rfl, rfl, rfl, rfl, trivial⟩, hC, hO, h0, h1, h2, a1, a0, a6⟩
  rintro e9 b0 ⟨σ, b1, b2, b3, f0, rfl, hC, hO, h0, h1, h2, a1, a0, e6⟩
  refine c_seq ?_
  refine c_mid (I := fun a k9 => ∃ (σ : Nat → Value), a = fr 83 (ovl σ [(0, (.int .i64 n)), (1, (.slice pa0 pn0 pc0)), (2, (.slice pa1 pn1 pc1)), (3, (.slice pa2 pn2 pc2)), (9, (.pointer (some ⟨a2, 0, none⟩))), (10, (.pointer (some ⟨a3, 0, none⟩))), (11, (.int .i64 (table.length : Int))), (12, (.int .i64 k145)), (80, (.bool ((s184.2.2 == 1) && (decide (0 < s184.2.1)))))]) ∧ Chg [] b0 k9) ?_ ?_
  ·have hMid := Chg.refl [] b0
   refine c_region ?_
   refine pl_val (.pointer (some ⟨a2, 2, none⟩)) (y_faddr rfl Fa86x2) ?_
   refine pl_val (.int .i64 s184.2.2) (y_load rfl ((box_load Ag3 Sz3 a1 [(.slice b1 b2 b3), (.int .i64 s184.2.1)] [(.int .i64 s184.2.2)] [] rfl rfl (fun _ => rfl)) _ (Chg.refl _ _))) ?_
   refine pl_val (.bool (s184.2.2 == 1)) (y_eql rfl rfl) ?_
   refine pl_val (.bool (s184.2.2 == 1)) (y_move rfl) ?_
   rcases Bool.eq_false_or_eq_true ((s184.2.2 == 1)) with b4 | b4
   ·skip
    refine pl_yes (.pointer (some ⟨a2, 1, none⟩)) (tg := 76) (by kernel_rfl) (congrArg Value.bool b4) (y_faddr rfl Fa86x1) ?_
    refine pl_yes (.int .i64 s184.2.1) (tg := 76) (by kernel_rfl) (congrArg Value.bool b4) (y_load rfl ((box_load Ag3 Sz3 a1 [(.slice b1 b2 b3)] [(.int .i64 s184.2.1)] [(.int .i64 s184.2.2)] rfl rfl (fun _ => rfl)) _ (Chg.refl _ _))) ?_
    refine pl_yes (.bool (decide (0 < s184.2.1))) (tg := 76) (by kernel_rfl) (congrArg Value.bool b4) (y_gtr rfl rfl) ?_
    refine pl_val (.bool ((s184.2.2 == 1) && (decide (0 < s184.2.1)))) (y_pick_t (congrArg Value.bool b4) (congrArg Value.bool (by rw [b4]; rfl))) ?_
    refine c_nil ?_
    exact ⟨_, fr_ovl 83 ⟨rfl, rfl, rfl, rfl, rfl, rfl, rfl, rfl, rfl, trivial⟩, hMid⟩
   refine pl_not (tg := 76) (by kernel_rfl) (congrArg Value.bool b4) ?_
   refine pl_not (tg := 76) (by kernel_rfl) (congrArg Value.bool b4) ?_
   refine pl_not (tg := 76) (by kernel_rfl) (congrArg Value.bool b4) ?_
   refine pl_val (.bool ((s184.2.2 == 1) && (decide (0 < s184.2.1)))) (y_pick_f (congrArg Value.bool b4) (congrArg Value.bool (by rw [b4]; rfl))) ?_
   refine c_nil ?_
   exact ⟨_, fr_ovl 83 ⟨rfl, rfl, rfl, rfl, rfl, rfl, rfl, rfl, rfl, trivial⟩, hMid⟩
  rintro e9 k9 ⟨σ, rfl, d5⟩
  have h0 := h0.ext d5
  have h1 := h1.ext d5
  have h2 := h2.ext d5
  have a1 := a1.cn d5
  have a0 := a0.cn d5
  have e6 := e6.ext d5
  have hC := hC.ext d5
  have hO := hO.ext d5
  rcases bif_some hs with ⟨i9, hs⟩ | ⟨i9, hs⟩
  ·refine c_condT (congrArg Value.bool i9) ?_
   refine c_sr ?_
   refine pl_val (.agg #[(.slice b1 b2 b3), (.int .i64 s184.2.1), (.int .i64 s184.2.2)]) (y_load rfl ((box_load Ag86 Sz86 a1 [] [(.slice b1 b2 b3), (.int .i64 s184.2.1), (.int .i64 s184.2.2)] [] rfl rfl (fun h => nomatch h)) _ (Chg.refl _ _))) ?_
   obtain ⟨l0, q5, e2, j0⟩ := box_store (P := Try.prog) a0 [] [(.slice none 0 0), (.int .i64 0), (.int .i64 0)] [] [(.slice b1 b2 b3), (.int .i64 s184.2.1), (.int .i64 s184.2.2)] rfl rfl (by intro u hu; simp only [List.mem_cons, List.not_mem_nil, or_false] at hu; rcases hu with rfl | rfl | rfl <;> rfl)
   refine pl_skip (w' := l0) (ys_store rfl rfl (q5 _ _ rfl Sz86)) ?_
   have hO := hO.fr1
   have h0 := h0.mt e2 hO same_
   have h1 := h1.mt e2 hO same_
   have h2 := h2.mt e2 hO same_
   have a1 := a1.ap e2 hO same_ (mem_r (mem_l (List.mem_singleton.2 rfl)))
   have e6 := e6.ma e2 hO same_ (fun _ e => (mem_l (e)))
   have hC := hC.st e2 hO same_
   have hO := hO.ext e2
   have j0 : BoxV l0 a3 86 [(.slice b1 b2 b3), (.int .i64 s184.2.1), (.int .i64 s184.2.2)] := j0
   refine c_nil ?_
   refine wp_ret ?_
   cases hs
   have hO := hO.drop
   have hO := hO.fr1
   have hO := hO.drop
   exact ⟨_, a3, b1, b2, b3, f0, fr_ovl 83 ⟨rfl, trivial⟩, j0, hC, e6, hO.top⟩
  refine c_condF (congrArg Value.bool i9) ?_
  refine wp_skip ?_
  refine c_region ?_
  refine pl_val (.int .i64 k145) (y_move rfl) ?_
  refine pl_val (.int .i64 (w64 (k145 + 1))) (y_add rfl rfl) ?_
  refine pl_val (.int .i64 (w64 (k145 + 1))) (y_assign rfl) ?_
  refine c_nil ?_
  cases hs
  have hO := hO.fr2
  have hO := hO.fr2
  have hO := hO.fr2
  exact ⟨_, b1, b2, b3, f0, fr_ovl 83 ⟨rfl, rfl, rfl, rfl, rfl, rfl, rfl, congrArg (Value.int .i64) hw, trivial⟩, hC, hO, h0, h1, h2, a1, a0, e6⟩
 ·skip
  have hO := hO.fr1
  have hO := hO.fr1
  have hO := hO.fr2
  exact ⟨_, pa3, pn3, pc3, pf3, fr_ovl 83 ⟨rfl, rfl, rfl, rfl, rfl, rfl, rfl, rfl, trivial⟩, hC, hO, h0, h1, h2, a1, a0, h3⟩
 cases o147 with
 | nx _ => exact True.intro
 | rt r_ =>
  have hs := after_rt hs
  intro e9 l2 hK
  cases hs
  exact hK
 | br s143 =>
  have hs := after_br hs
  rintro e9 a4 ⟨σ, c7, c8, c9, f9, rfl, hC, hO, h0, h1, h2, a1, a0, j1⟩
  refine c_sr ?_
  refine pl_val (.agg #[(.slice c7 c8 c9), (.int .i64 s143.2.1), (.int .i64 s143.2.2)]) (y_load rfl ((box_load Ag86 Sz86 a1 [] [(.slice c7 c8 c9), (.int .i64 s143.2.1), (.int .i64 s143.2.2)] [] rfl rfl (fun h => nomatch h)) _ (Chg.refl _ _))) ?_
  obtain ⟨l1, q6, e3, j2⟩ := box_store (P := Try.prog) a0 [] [(.slice none 0 0), (.int .i64 0), (.int .i64 0)] [] [(.slice c7 c8 c9), (.int .i64 s143.2.1), (.int .i64 s143.2.2)] rfl rfl (by intro u hu; simp only [List.mem_cons, List.not_mem_nil, or_false] at hu; rcases hu with rfl | rfl | rfl <;> rfl)
  refine pl_skip (w' := l1) (ys_store rfl rfl (q6 _ _ rfl Sz86)) ?_
  have hO := hO.fr1
  have h0 := h0.mt e3 hO same_
  have h1 := h1.mt e3 hO same_
  have h2 := h2.mt e3 hO same_
  have a1 := a1.ap e3 hO same_ (mem_r (mem_l (List.mem_singleton.2 rfl)))
  have j1 := j1.ma e3 hO same_ (fun _ e => (mem_l (e)))
  have hC := hC.st e3 hO same_
  have hO := hO.ext e3
  have j2 : BoxV l1 a3 86 [(.slice c7 c8 c9), (.int .i64 s143.2.1), (.int .i64 s143.2.2)] := j2
  refine c_nil ?_
  refine wp_ret ?_
  cases hs
  have hO := hO.drop
  have hO := hO.fr1
  have hO := hO.drop
  exact ⟨_, a3, c7, c8, c9, f9, fr_ovl 83 ⟨rfl, trivial⟩, j2, hC, j1, hO.top⟩

theorem Bd108 : Bodied Try.prog 108 := bodied Try.func108 (by kernel_rfl) rfl

def k_spec_l14All (M : Nat → Prop) (w0 : World) (r : ((List (List Int)) × Int × Int)) (a : Act) (w : World) : Prop :=
  ∃ (σ : Nat → Value) (rg10 : Nat) (ra0 : Option Addr) (rn0 rc0 : Nat) (rf0 : List Nat), a = fr 21 (ovl σ [(10, (.pointer (some ⟨rg10, 0, none⟩)))]) ∧ BoxV w rg10 86 [(.slice ra0 rn0 rc0), (.int .i64 r.2.1), (.int .i64 r.2.2)] ∧ Chg [] w0 w ∧ (RT.os 41 (RT.os 3 (RT.int .i64))).val M w (.slice ra0 rn0 rc0) r.1 rf0 ∧ Own (Nw w0 []) (fun _ => True) w (rf0 ++ ([]))
def s_spec_l14All (n : Int) (rels : List (Int × (List (List Int)))) (k : Int) (fixed : List Int) (most : Int) : Option (((List (List Int)) × Int × Int)) :=
  (s_spec_l14Needs n rels k).bind fun r5 =>
  (s_spec_l14Go__take4 FU n r5 fixed ([]) ([], 0, most)).bind fun r12 =>
  some (r12.1, r12.2.1, r12.2.2)
set_option maxHeartbeats 4000000 in
theorem c_spec_l14All {M : Nat → Prop} {w : World} {pa0 : Option Addr} {pn0 pc0 : Nat} {pa1 : Option Addr} {pn1 pc1 : Nat} (n : Int) (rels : List (Int × (List (List Int)))) (k : Int) (fixed : List Int) (most : Int) (h0 : (RT.rs (RT.pr (RT.int .i64) (RT.rs (RT.rs (RT.int .i64))))).val M w (.slice pa0 pn0 pc0) rels ([])) (h1 : (RT.rs (RT.int .i64)).val M w (.slice pa1 pn1 pc1) fixed ([])) (hM : ∀ g, w.heap.size ≤ g → M g) {r : ((List (List Int)) × Int × Int)} (hs : s_spec_l14All n rels k fixed most = some r) :
    Gives Try.prog 57 [(.int .i64 n), (.slice pa0 pn0 pc0), (.int .i64 k), (.slice pa1 pn1 pc1), (.int .i64 most)] w (fun v w' => ∃ (ra0 : Option Addr) (rn0 rc0 : Nat) (rf0 : List Nat), v = (.agg #[(.slice ra0 rn0 rc0), (.int .i64 r.2.1), (.int .i64 r.2.2)]) ∧ Chg [] w w' ∧ (RT.os 41 (RT.os 3 (RT.int .i64))).val M w' (.slice ra0 rn0 rc0) r.1 rf0 ∧ Own (Nw w []) (fun _ => True) w' (rf0 ++ ([]))) := by
 refine calls_fr Try.func57 rfl Try.ntmps57 (Nat.le_of_ble_eq_true rfl) ?_
 have hO := Own.start (N := Nw w []) hM Nw.fut
 have hC := Chg.refl [] w
 unfold s_spec_l14All at hs
 refine wp_mono (Q := KPost (k_spec_l14All M w r)) ?_ (fun e a d2 h => ?_)
 rotate_left
 ·cases e
  case ret =>
   obtain ⟨σ, rg10, ra0, rn0, rc0, rf0, rfl, hbrg10, hrest⟩ := h
   exact ret1x Try.results57 (res_cell rfl (box_load Ag86 Sz86 hbrg10 [] _ [] rfl rfl (fun h => nomatch h))) ⟨ra0, rn0, rc0, rf0, rfl, hrest⟩
  all_goals exact (h : False).elim
 refine c_sr ?_
 obtain ⟨a0, a7, c5, b9, b2, a2⟩ := new_block w [(.slice none 0 0), (.int .i64 0), (.int .i64 0)] 86
 refine pl_val (w' := a0) (.pointer (some ⟨a7, 0, none⟩)) (y_alloc (by rw [c5, b9]; kernel_rfl)) ?_
 have h0 := h0.ext b2
 have h1 := h1.ext b2
 have hC := hC.ext b2
 have hO := hO.new1 b2 b9 a2.lt
 refine c_nil ?_
 refine c_sr ?_
 refine pl_val (.int .i64 n) (y_move rfl) ?_
 refine pl_val (.int .i64 n) (y_move rfl) ?_
 refine pl_val (.slice pa0 pn0 pc0) (y_move rfl) ?_
 refine pl_val (.int .i64 k) (y_move rfl) ?_
 obtain ⟨r5, c6, hs⟩ := bind_some hs
 refine pl_call Bd108 rfl (c_spec_l14Needs (M := M) n rels k h0 hO.fut c6) ?_
 rintro _ a1 ⟨d3, d4, d5, rfl, b0, a3⟩
 have hK := (show Keeps w M (Past M a0 a1) from Keeps.past hC.size)
 have h0 := h0.ext b0
 have h1 := h1.ext b0
 have a2 := a2.cn b0
 have hC := hC.ext b0
 have hO := hO.past b0
 have h0 := h0.sub (M' := (Past M a0 a1)) (fun g hg => .inl hg.1)
 have h1 := h1.sub (M' := (Past M a0 a1)) (fun g hg => .inl hg.1)
 refine pl_val (.slice pa1 pn1 pc1) (y_move rfl) ?_
 obtain ⟨b3, a8, c7, c0, a9, c1⟩ := new_block a1 [] 3
 refine pl_val (w' := b3) (.slice (some ⟨a8, 0, none⟩) 0 0) (y_bslice rfl (by rw [c7, c0]; kernel_rfl)) ?_
 have h0 := h0.ext a9
 have h1 := h1.ext a9
 have a2 := a2.cn a9
 have a3 := a3.ext a9
 have hC := hC.ext a9
 have hO := hO.new1 a9 c0 c1.lt
 have a4 := os_of_box (r := (RT.int .i64)) (M := (Past M a0 a1)) (css := []) (fps := []) (xs := ([] : List Int)) c1 trivial (Nat.zero_le _) (List.nodup_cons.2 ⟨(fun h => nomatch h), List.nodup_nil⟩)
 have a4 : (RT.os 3 (RT.int .i64)).val (Past M a0 a1) b3 (.slice (some ⟨a8, 0, none⟩) 0 0) [] [a8] := a4
 refine pl_val (.int .i64 most) (y_move rfl) ?_
 refine pl_val (.agg #[(.slice none 0 0), (.int .i64 0), (.int .i64 most)]) (y_build rfl (by kernel_rfl)) ?_
 have c8 : (RT.os 41 (RT.os 3 (RT.int .i64))).val (Past M a0 a1) b3 (.slice none 0 0) [] [] := os_nil
 have hO := hO.nil
 have hO := hO.fr1
 have hO := hO.fr1
 have b4 := hO
 have b4 := b4.fr1
 have c2 := Own.lend (F := (([]) ++ ([]))) (R := ([a7]) ++ ([])) (Own.perm (b4.less) (by simp))
 obtain ⟨r12, c9, hs⟩ := bind_some hs
 refine pl_call Bd107 rfl (c_spec_l14Go__take4 FU (M := (Less (Past M a0 a1) ([a8]))) n r5 fixed ([]) ([], 0, most) (a3.sub Less.sub) (h1.sub Less.sub) (((Frz.os Frz.int)).val a4 Less.sub Less.not) (c8.sub Less.sub) c2 c2.fut c9) ?_
 rintro _ d6 ⟨b5, b6, b7, c3, rfl, a5, b1, d0⟩
 have hO := hO.fr1
 have hO := hO.fr1
 have hO := hO.perm (R := (([]) ++ ([])) ++ (([a8]) ++ (([a7]) ++ ([])))) (by simp)
 have h0 := h0.mt a5 hO same_
 have h1 := h1.mt a5 hO same_
 have a2 := a2.ap a5 hO same_ (mem_r (mem_l (List.mem_singleton.2 rfl)))
 have a3 := a3.mt a5 hO same_
 have a4 := a4.ma a5 hO same_ (fun _ e => (mem_l (e)))
 have hC := hC.st a5 hO same_
 have hO := Own.join hO a5 d0
 have hO := hO.perm (R := c3 ++ (([a8]) ++ (([a7]) ++ ([])))) (by simp)
 have b1 := b1.free (M' := (Past M a0 a1)) (Free.os (Free.os Free.int))
 obtain ⟨c4, d1, a6, b8⟩ := box_store (P := Try.prog) a2 [] [(.slice none 0 0), (.int .i64 0), (.int .i64 0)] [] [(.slice b5 b6 b7), (.int .i64 r12.2.1), (.int .i64 r12.2.2)] rfl rfl (by intro u hu; simp only [List.mem_cons, List.not_mem_nil, or_false] at hu; rcases hu with rfl | rfl | rfl <;> rfl)
 refine pl_skip (w' := c4) (ys_store rfl rfl (d1 _ _ rfl Sz86)) ?_
 have hO := hO.fr2
 have h0 := h0.mt a6 hO same_
 have h1 := h1.mt a6 hO same_
 have a3 := a3.mt a6 hO same_
 have a4 := a4.ma a6 hO same_ (fun _ e => (mem_r (mem_l (e))))
 have b1 := b1.ma a6 hO same_ (fun _ e => (mem_l (e)))
 have hC := hC.st a6 hO same_
 have hO := hO.ext a6
 have b8 : BoxV c4 a7 86 [(.slice b5 b6 b7), (.int .i64 r12.2.1), (.int .i64 r12.2.2)] := b8
 refine c_nil ?_
 refine wp_ret ?_
 cases hs
 have hO := hO.drop
 have hO := hO.fr1
 have hO := hO.drop
 exact ⟨_, a7, b5, b6, b7, c3, fr_ovl 21 ⟨rfl, trivial⟩, b8, hC, (b1.free (Free.os (Free.os Free.int))), hO.top⟩

def k_spec_l1Put (M : Nat → Prop) (w0 : World) (r : (List Int)) (a : Act) (w : World) : Prop :=
  ∃ (σ : Nat → Value) (ra0 : Option Addr) (rn0 rc0 : Nat), a = fr 45 (ovl σ [(4, (.slice ra0 rn0 rc0))]) ∧ Chg [] w0 w ∧ (RT.rs (RT.int .i64)).val (Past M w0 w) w (.slice ra0 rn0 rc0) r []
def s_spec_l1Put (l : List Int) (n : Int) : Option ((List Int)) :=
  (iter (S := Int) (R := (List Int)) (fun s6 =>
  (bif (decide (s6 < (l.length : Int))) then (idx l s6).bind fun x13 =>
  (bif (decide (x13 < n)) then some (.nx (w64 (s6 + 1))) else some (.br s6)) else some (.br s6))) FU 0).bind fun o10 => after o10 (fun r_ => some r_) (fun s6 =>
  ((bif (decide (s6 < (l.length : Int))) then (idx l s6).bind fun x20 =>
  some (x20 == n) else some false)).bind fun s16 =>
  (bif s16 then some l else (slc l 0 s6).bind fun y25 =>
  (slc l s6 (l.length : Int)).bind fun y28 =>
  (app ([]) y25).bind fun y33 =>
  (app y33 ([n])).bind fun y38 =>
  (app y38 y28).bind fun y41 =>
  some y41))
set_option maxHeartbeats 4000000 in
theorem c_spec_l1Put {M : Nat → Prop} {w : World} {pa0 : Option Addr} {pn0 pc0 : Nat} (l : List Int) (n : Int) (h0 : (RT.rs (RT.int .i64)).val M w (.slice pa0 pn0 pc0) l ([])) (hM : ∀ g, w.heap.size ≤ g → M g) {r : (List Int)} (hs : s_spec_l1Put l n = some r) :
    Gives Try.prog 126 [(.slice pa0 pn0 pc0), (.int .i64 n)] w (fun v w' => ∃ (ra0 : Option Addr) (rn0 rc0 : Nat), v = (.slice ra0 rn0 rc0) ∧ Chg [] w w' ∧ (RT.rs (RT.int .i64)).val (Past M w w') w' (.slice ra0 rn0 rc0) r []) := by
 refine calls_fr Try.func126 rfl Try.ntmps126 (Nat.le_of_ble_eq_true rfl) ?_
 have hO := Own.start (N := Nw w []) hM Nw.fut
 have hC := Chg.refl [] w
 unfold s_spec_l1Put at hs
 refine wp_mono (Q := KPost (k_spec_l1Put M w r)) ?_ (fun e a j0 h => ?_)
 rotate_left
 ·cases e
  case ret =>
   obtain ⟨σ, ra0, rn0, rc0, rfl, hrest⟩ := h
   exact ret1x Try.results126 (res_tmp rfl) ⟨ra0, rn0, rc0, rfl, hrest⟩
  all_goals exact (h : False).elim
 refine c_sr ?_
 refine pl_val (.slice none 0 0) (y_assign rfl) ?_
 refine c_nil ?_
 refine c_sr ?_
 refine pl_val (.int .i64 0) (y_assign rfl) ?_
 refine c_nil ?_
 refine c_seq ?_
 obtain ⟨o10, j1, hs⟩ := bind_some hs
 refine wp_block ?_
 refine wp_iter (id := 0) (I := fun s6 a a4 => ∃ (σ : Nat → Value), a = fr 45 (ovl σ [(0, (.slice pa0 pn0 pc0)), (1, (.int .i64 n)), (5, (.int .i64 s6))]) ∧ Chg [] w a4 ∧ Own (Nw w []) M a4 ([]) ∧ (RT.rs (RT.int .i64)).val M a4 (.slice pa0 pn0 pc0) l ([])) (J := fun s6 a a4 => ∃ (σ : Nat → Value), a = fr 45 (ovl σ [(0, (.slice pa0 pn0 pc0)), (1, (.int .i64 n)), (5, (.int .i64 s6))]) ∧ Chg [] w a4 ∧ Own (Nw w []) M a4 ([]) ∧ (RT.rs (RT.int .i64)).val M a4 (.slice pa0 pn0 pc0) l ([])) (K := (k_spec_l1Put M w)) ?_ FU 0 o10 _ _ ?_ j1 ?_
 ·rintro s6 o10 a a4 ⟨σ, rfl, hC, hO, h0⟩ hs
  refine c_seq ?_
  refine c_sr ?_
  refine pl_val (.int .i64 s6) (y_move rfl) ?_
  refine pl_val (.slice pa0 pn0 pc0) (y_move rfl) ?_
  refine pl_val (.int .i64 (l.length : Int)) (y_len' Sl41 (rs_len h0) rfl) ?_
  refine pl_val (.bool (decide (s6 < (l.length : Int)))) (y_lss rfl rfl) ?_
  refine pl_val (.bool (decide (s6 < (l.length : Int)))) (y_move rfl) ?_
  rcases bif_some hs with ⟨a2, hs⟩ | ⟨a2, hs⟩
  ·skip
   refine pl_yes (.slice pa0 pn0 pc0) (tg := 10) (by kernel_rfl) (congrArg Value.bool a2) (y_move rfl) ?_
   refine pl_yes (.int .i64 s6) (tg := 10) (by kernel_rfl) (congrArg Value.bool a2) (y_move rfl) ?_
   obtain ⟨x13, j2, hs⟩ := bind_some hs
   obtain ⟨j3, j4, j5, j6⟩ := rs_idx Sl41 Sz3 h0 j2
   refine pl_yes (.pointer (some ⟨j3, j4, none⟩)) (tg := 10) (by kernel_rfl) (congrArg Value.bool a2) (j5 _ _ _ _ _ _ _ _ _ rfl rfl) ?_
   refine pl_yes (.int .i64 x13) (tg := 10) (by kernel_rfl) (congrArg Value.bool a2) (y_load rfl ((at_load_int Ag3 Sz3 j6) _ (Chg.refl _ _))) ?_
   refine pl_yes (.int .i64 n) (tg := 10) (by kernel_rfl) (congrArg Value.bool a2) (y_move rfl) ?_
   refine pl_yes (.bool (decide (x13 < n))) (tg := 10) (by kernel_rfl) (congrArg Value.bool a2) (y_lss rfl rfl) ?_
   refine pl_val (.bool (decide (x13 < n))) (y_pick_t (congrArg Value.bool a2) rfl) ?_
   refine c_nil ?_
   rcases bif_some hs with ⟨e3, hs⟩ | ⟨e3, hs⟩
   ·refine c_condT (congrArg Value.bool e3) ?_
    refine wp_skip ?_
    refine wp_block ?_
    refine c_region ?_
    refine pl_val (.int .i64 s6) (y_move rfl) ?_
    refine pl_val (.int .i64 (w64 (s6 + 1))) (y_add rfl rfl) ?_
    refine pl_val (.int .i64 (w64 (s6 + 1))) (y_assign rfl) ?_
    refine c_nil ?_
    cases hs
    exact ⟨_, fr_ovl 45 ⟨rfl, rfl, rfl, trivial⟩, hC, hO, h0⟩
   refine c_condF (congrArg Value.bool e3) ?_
   refine wp_exit ?_
   cases hs
   exact ⟨rfl, _, fr_ovl 45 ⟨rfl, rfl, rfl, trivial⟩, hC, hO, h0⟩
  refine pl_not (tg := 10) (by kernel_rfl) (congrArg Value.bool a2) ?_
  refine pl_not (tg := 10) (by kernel_rfl) (congrArg Value.bool a2) ?_
  refine pl_not (tg := 10) (by kernel_rfl) (congrArg Value.bool a2) ?_
  refine pl_not (tg := 10) (by kernel_rfl) (congrArg Value.bool a2) ?_
  refine pl_not (tg := 10) (by kernel_rfl) (congrArg Value.bool a2) ?_
  refine pl_not (tg := 10) (by kernel_rfl) (congrArg Value.bool a2) ?_
  refine pl_val (.bool false) (y_pick_f (congrArg Value.bool a2) rfl) ?_
  refine c_nil ?_
  refine c_condF (by rfl) ?_
  refine wp_exit ?_
  cases hs
  exact ⟨rfl, _, fr_ovl 45 ⟨rfl, rfl, rfl, trivial⟩, hC, hO, h0⟩
 ·skip
  exact ⟨_, fr_ovl 45 ⟨rfl, rfl, rfl, trivial⟩, hC, hO, h0⟩
 cases o10 with
 | nx _ => exact True.intro
 | rt r_ =>
  have hs := after_rt hs
  intro h4 j0 hK
  cases hs
  exact hK
 | br s6 =>
  have hs := after_br hs
  rintro h4 a4 ⟨σ, rfl, hC, hO, h0⟩
  refine c_seq ?_
  refine c_seq ?_
  obtain ⟨s16, j7, hs⟩ := bind_some hs
  refine c_mid (I := fun a c8 => ∃ (σ : Nat → Value), a = fr 45 (ovl σ [(0, (.slice pa0 pn0 pc0)), (1, (.int .i64 n)), (5, (.int .i64 s6)), (31, (.bool s16))]) ∧ Chg [] a4 c8) ?_ ?_
  ·replace hs := j7
   have hMid := Chg.refl [] a4
   refine c_region ?_
   refine pl_val (.int .i64 s6) (y_move rfl) ?_
   refine pl_val (.slice pa0 pn0 pc0) (y_move rfl) ?_
   refine pl_val (.int .i64 (l.length : Int)) (y_len' Sl41 (rs_len h0) rfl) ?_
   refine pl_val (.bool (decide (s6 < (l.length : Int)))) (y_lss rfl rfl) ?_
   refine pl_val (.bool (decide (s6 < (l.length : Int)))) (y_move rfl) ?_
   rcases bif_some hs with ⟨a3, hs⟩ | ⟨a3, hs⟩
   ·skip
    refine pl_yes (.slice pa0 pn0 pc0) (tg := 24) (by kernel_rfl) (congrArg Value.bool a3) (y_move rfl) ?_
    refine pl_yes (.int .i64 s6) (tg := 24) (by kernel_rfl) (congrArg Value.bool a3) (y_move rfl) ?_
    obtain ⟨x20, j8, hs⟩ := bind_some hs
    obtain ⟨j9, k0, k1, k2⟩ := rs_idx Sl41 Sz3 h0 j8
    refine pl_yes (.pointer (some ⟨j9, k0, none⟩)) (tg := 24) (by kernel_rfl) (congrArg Value.bool a3) (k1 _ _ _ _ _ _ _ _ _ rfl rfl) ?_
    refine pl_yes (.int .i64 x20) (tg := 24) (by kernel_rfl) (congrArg Value.bool a3) (y_load rfl ((at_load_int Ag3 Sz3 k2) _ (Chg.refl _ _))) ?_
    refine pl_yes (.int .i64 n) (tg := 24) (by kernel_rfl) (congrArg Value.bool a3) (y_move rfl) ?_
    refine pl_yes (.bool (x20 == n)) (tg := 24) (by kernel_rfl) (congrArg Value.bool a3) (y_eql rfl rfl) ?_
    refine pl_val (.bool (x20 == n)) (y_pick_t (congrArg Value.bool a3) rfl) ?_
    refine c_nil ?_
    cases hs
    exact ⟨_, fr_ovl 45 ⟨rfl, rfl, rfl, rfl, trivial⟩, hMid⟩
   refine pl_not (tg := 24) (by kernel_rfl) (congrArg Value.bool a3) ?_
   refine pl_not (tg := 24) (by kernel_rfl) (congrArg Value.bool a3) ?_
   refine pl_not (tg := 24) (by kernel_rfl) (congrArg Value.bool a3) ?_
   refine pl_not (tg := 24) (by kernel_rfl) (congrArg Value.bool a3) ?_
   refine pl_not (tg := 24) (by kernel_rfl) (congrArg Value.bool a3) ?_
   refine pl_not (tg := 24) (by kernel_rfl) (congrArg Value.bool a3) ?_
   refine pl_val (.bool false) (y_pick_f (congrArg Value.bool a3) rfl) ?_
   refine c_nil ?_
   cases hs
   exact ⟨_, fr_ovl 45 ⟨rfl, rfl, rfl, rfl, trivial⟩, hMid⟩
  rintro h4 c8 ⟨σ, rfl, e4⟩
  have h0 := h0.ext e4
  have hC := hC.ext e4
  have hO := hO.ext e4
  rcases bif_some hs with ⟨e5, hs⟩ | ⟨e5, hs⟩
  ·refine c_condT (congrArg Value.bool e5) ?_
   refine c_sr ?_
   refine pl_val (.slice pa0 pn0 pc0) (y_move rfl) ?_
   refine pl_val (.slice pa0 pn0 pc0) (y_assign rfl) ?_
   refine c_nil ?_
   refine wp_ret ?_
   cases hs
   exact ⟨_, pa0, pn0, pc0, fr_ovl 45 ⟨rfl, trivial⟩, hC, (Keeps.out Keeps.refl h0)⟩
  refine c_condF (congrArg Value.bool e5) ?_
  refine wp_skip ?_
  refine c_seq ?_
  refine x_start [4, 7, 11] Mx rfl ?_
  have c9 := Chg.drew c8
  generalize World.drew c8 = e6 at c9 ⊢
  have h0 := h0.ext c9
  have hC := hC.ext c9
  have hO := hO.ext c9
  have hS := Chg.refl [] e6
  refine x_p 1 (.slice pa0 pn0 pc0) rfl (by kernel_rfl)  (fun _ => y_move rfl) (fun _ => hS) ?_
  refine x_p 2 (.int .i64 s6) rfl (by kernel_rfl)  (fun _ => y_move rfl) (fun _ => hS) ?_
  obtain ⟨y25, k3, hs⟩ := bind_some hs
  obtain ⟨k4, k5, k6, a0, q8, k7, q9⟩ := rs_part Try.underlying41 Sz3 h0 k3
  refine x_p 3 (.slice k4 k5 k6) rfl (by kernel_rfl)  (fun _ => y_slice rfl rfl rfl (k7 rfl _)) (fun _ => hS) ?_
  refine x_p 5 (.int .i64 n) rfl (by kernel_rfl)  (fun _ => y_move rfl) (fun _ => hS) ?_
  refine x_p 8 (.slice pa0 pn0 pc0) rfl (by kernel_rfl)  (fun _ => y_move rfl) (fun _ => hS) ?_
  refine x_p 9 (.int .i64 s6) rfl (by kernel_rfl)  (fun _ => y_move rfl) (fun _ => hS) ?_
  obtain ⟨y28, k8, hs⟩ := bind_some hs
  obtain ⟨k9, l0, l1, a1, r0, r1, l2⟩ := rs_part Try.underlying41 Sz3 h0 k8
  refine x_p 10 (.slice k9 l0 l1) rfl (by kernel_rfl)  (fun _ => y_slice rfl rfl rfl (l2 rfl _)) (fun _ => hS) ?_
  refine x_two (i := 0) (j := 6) (by kernel_rfl) ?_ ?_
  ·skip
   obtain ⟨e7, e8, l3, h5, a8, h6⟩ := new_block e6 [] 3
   refine xk_val (w' := e7) (b := false) (.slice (some ⟨e8, 0, none⟩) 0 0) rfl  (y_bslice rfl (by rw [l3, h5]; kernel_rfl)) rfl (fun _ => hS.ext a8) ?_
   have h0 := h0.ext a8
   have a0 := a0.ext a8
   have a1 := a1.ext a8
   have hC := hC.ext a8
   have hO := hO.new1 a8 h5 h6.lt
   have a5 := os_of_box (r := (RT.int .i64)) (M := M) (css := []) (fps := []) (xs := ([] : List Int)) h6 trivial (Nat.zero_le _) (List.nodup_cons.2 ⟨(fun h => nomatch h), List.nodup_nil⟩)
   have a5 : (RT.os 3 (RT.int .i64)).val M e7 (.slice (some ⟨e8, 0, none⟩) 0 0) [] [e8] := a5
   have hS := hS.ext a8
   refine x_two (i := 4) (j := 6) (by kernel_rfl) ?_ ?_
   ·skip
    obtain ⟨y33, b5, hs⟩ := bind_some hs
    obtain ⟨l4, l5, l6, h7, r2, l7, b6, l8, b1⟩ := app_rs Rw41 b5 a5 a0 hO.inM
    have d0 := os_block a5
    refine xk_val (w' := h7) (b := true) (.slice l4 l5 l6) rfl  (y_append rfl rfl (l7 _)) rfl (fun h => nomatch h) ?_
    have h0 := h0.mt b6 hO d0
    have a0 := a0.mt b6 hO d0
    have a1 := a1.mt b6 hO d0
    have hC := hC.st b6 hO d0
    have hO := hO.grow b6 l8 (os_nodup b1) b1.fpl
    refine x_one (i := 6) (by kernel_rfl) ?_
    obtain ⟨h8, e9, l9, h9, b2, i0⟩ := new_block h7 [(.int .i64 n)] 3
    refine xk_val (w' := h8) (b := true) (.slice (some ⟨e9, 0, none⟩) 1 1) rfl  (y_bslice rfl (by rw [l9, h9]; kernel_rfl)) rfl (fun h => nomatch h) ?_
    have h0 := h0.ext b2
    have a0 := a0.ext b2
    have a1 := a1.ext b2
    have b1 := b1.ext b2
    have hC := hC.ext b2
    have hO := hO.new1 b2 h9 i0.lt
    have f0 := os_of_box (r := (RT.int .i64)) (M := M) (css := [[(.int .i64 n)]]) (fps := [([] : List Nat)]) (xs := ([n] : List Int)) i0 ⟨⟨rfl, rfl⟩, trivial⟩ (Nat.le_of_ble_eq_true rfl) (List.nodup_cons.2 ⟨(fun h => nomatch h), List.nodup_nil⟩)
    have f0 : (RT.os 3 (RT.int .i64)).val M h8 (.slice (some ⟨e9, 0, none⟩) 1 1) [n] [e9] := f0
    refine x_one (i := 7) (by kernel_rfl) ?_
    obtain ⟨y38, b7, hs⟩ := bind_some hs
    have hO := hO.fr1
    obtain ⟨m0, m1, m2, m3, r3, m4, b8, m5, d1⟩ := app_os Rw41 b7 b1 f0 hO.inM (fun g hg hq => hO.apart g hq (mem_l hg))
    have d2 := os_block b1
    refine xk_val (w' := m3) (b := true) (.slice m0 m1 m2) rfl  (y_append rfl rfl (m4 _)) rfl (fun h => nomatch h) ?_
    have hO := hO.fr1
    have hO := hO.fr1
    have h0 := h0.mt b8 hO d2
    have a0 := a0.mt b8 hO d2
    have a1 := a1.mt b8 hO d2
    have hC := hC.st b8 hO d2
    have hO := hO.eat b8 m5 (os_nodup d1) d1.fpl
    refine x_one (i := 11) (by kernel_rfl) ?_
    obtain ⟨y41, b9, hs⟩ := bind_some hs
    obtain ⟨f1, f2, f3, m6, r4, m7, c0, m8, f4⟩ := app_rs Rw41 b9 d1 a1 hO.inM
    have d3 := os_block d1
    refine xk_val (w' := m6) (b := true) (.slice f1 f2 f3) rfl  (y_append rfl rfl (m7 _)) rfl (fun h => nomatch h) ?_
    have h0 := h0.mt c0 hO d3
    have a0 := a0.mt c0 hO d3
    have a1 := a1.mt c0 hO d3
    have hC := hC.st c0 hO d3
    have hO := hO.grow c0 m8 (os_nodup f4) f4.fpl
    refine x_p 12 (.slice f1 f2 f3) rfl (by kernel_rfl)  (fun _ => y_assign rfl) (fun h => nomatch h) ?_
    refine x_end (by kernel_rfl) ?_
    clear hS
    refine wp_ret ?_
    cases hs
    obtain ⟨f5, r5, f6, m9, hO, n0⟩ := frz_own (Frz.os Frz.int) f4 hO
    have h0 := h0.sub (M' := f5) f6
    have a0 := a0.sub (M' := f5) f6
    have a1 := a1.sub (M' := f5) f6
    have hK := m9
    exact ⟨_, f1, f2, f3, fr_ovl 45 ⟨rfl, trivial⟩, hC, (Keeps.out hK n0)⟩
   ·skip
    obtain ⟨i1, f7, n1, i2, a6, i3⟩ := new_block e7 [(.int .i64 n)] 3
    refine xk_val (w' := i1) (b := false) (.slice (some ⟨f7, 0, none⟩) 1 1) rfl  (y_bslice rfl (by rw [n1, i2]; kernel_rfl)) rfl (fun _ => hS.ext a6) ?_
    have h0 := h0.ext a6
    have a0 := a0.ext a6
    have a1 := a1.ext a6
    have a5 := a5.ext a6
    have hC := hC.ext a6
    have hO := hO.new1 a6 i2 i3.lt
    have c1 := os_of_box (r := (RT.int .i64)) (M := M) (css := [[(.int .i64 n)]]) (fps := [([] : List Nat)]) (xs := ([n] : List Int)) i3 ⟨⟨rfl, rfl⟩, trivial⟩ (Nat.le_of_ble_eq_true rfl) (List.nodup_cons.2 ⟨(fun h => nomatch h), List.nodup_nil⟩)
    have c1 : (RT.os 3 (RT.int .i64)).val M i1 (.slice (some ⟨f7, 0, none⟩) 1 1) [n] [f7] := c1
    have hS := hS.ext a6
    refine x_one (i := 4) (by kernel_rfl) ?_
    obtain ⟨y33, b5, hs⟩ := bind_some hs
    have hO := hO.fr1
    obtain ⟨n2, n3, n4, n5, r6, n6, b3, n7, d4⟩ := app_rs Rw41 b5 a5 a0 hO.inM
    have c2 := os_block a5
    refine xk_val (w' := n5) (b := true) (.slice n2 n3 n4) rfl  (y_append rfl rfl (n6 _)) rfl (fun h => nomatch h) ?_
    have h0 := h0.mt b3 hO c2
    have a0 := a0.mt b3 hO c2
    have a1 := a1.mt b3 hO c2
    have c1 := c1.ma b3 hO c2 (fun _ e => (mem_l (e)))
    have hC := hC.st b3 hO c2
    have hO := hO.grow b3 n7 (os_nodup d4) d4.fpl
    refine x_one (i := 7) (by kernel_rfl) ?_
    obtain ⟨y38, b7, hs⟩ := bind_some hs
    have hO := hO.fr1
    have hO := hO.fr1
    obtain ⟨n8, n9, o0, o1, r7, o2, c3, o3, d5⟩ := app_os Rw41 b7 d4 c1 hO.inM (fun g hg hq => hO.apart g hq (mem_l hg))
    have d6 := os_block d4
    refine xk_val (w' := o1) (b := true) (.slice n8 n9 o0) rfl  (y_append rfl rfl (o2 _)) rfl (fun h => nomatch h) ?_
    have hO := hO.fr1
    have hO := hO.fr1
    have h0 := h0.mt c3 hO d6
    have a0 := a0.mt c3 hO d6
    have a1 := a1.mt c3 hO d6
    have hC := hC.st c3 hO d6
    have hO := hO.eat c3 o3 (os_nodup d5) d5.fpl
    refine x_one (i := 11) (by kernel_rfl) ?_
    obtain ⟨y41, b9, hs⟩ := bind_some hs
    obtain ⟨f8, f9, g0, o4, r8, o5, c4, o6, g1⟩ := app_rs Rw41 b9 d5 a1 hO.inM
    have d7 := os_block d5
    refine xk_val (w' := o4) (b := true) (.slice f8 f9 g0) rfl  (y_append rfl rfl (o5 _)) rfl (fun h => nomatch h) ?_
    have h0 := h0.mt c4 hO d7
    have a0 := a0.mt c4 hO d7
    have a1 := a1.mt c4 hO d7
    have hC := hC.st c4 hO d7
    have hO := hO.grow c4 o6 (os_nodup g1) g1.fpl
    refine x_p 12 (.slice f8 f9 g0) rfl (by kernel_rfl)  (fun _ => y_assign rfl) (fun h => nomatch h) ?_
    refine x_end (by kernel_rfl) ?_
    clear hS
    refine wp_ret ?_
    cases hs
    obtain ⟨g2, r9, g3, o7, hO, o8⟩ := frz_own (Frz.os Frz.int) g1 hO
    have h0 := h0.sub (M' := g2) g3
    have a0 := a0.sub (M' := g2) g3
    have a1 := a1.sub (M' := g2) g3
    have hK := o7
    exact ⟨_, f8, f9, g0, fr_ovl 45 ⟨rfl, trivial⟩, hC, (Keeps.out hK o8)⟩
  ·skip
   obtain ⟨g4, g5, o9, i4, a9, i5⟩ := new_block e6 [(.int .i64 n)] 3
   refine xk_val (w' := g4) (b := false) (.slice (some ⟨g5, 0, none⟩) 1 1) rfl  (y_bslice rfl (by rw [o9, i4]; kernel_rfl)) rfl (fun _ => hS.ext a9) ?_
   have h0 := h0.ext a9
   have a0 := a0.ext a9
   have a1 := a1.ext a9
   have hC := hC.ext a9
   have hO := hO.new1 a9 i4 i5.lt
   have b0 := os_of_box (r := (RT.int .i64)) (M := M) (css := [[(.int .i64 n)]]) (fps := [([] : List Nat)]) (xs := ([n] : List Int)) i5 ⟨⟨rfl, rfl⟩, trivial⟩ (Nat.le_of_ble_eq_true rfl) (List.nodup_cons.2 ⟨(fun h => nomatch h), List.nodup_nil⟩)
   have b0 : (RT.os 3 (RT.int .i64)).val M g4 (.slice (some ⟨g5, 0, none⟩) 1 1) [n] [g5] := b0
   have hS := hS.ext a9
   refine x_one (i := 0) (by kernel_rfl) ?_
   obtain ⟨i6, g6, p0, i7, a7, i9⟩ := new_block g4 [] 3
   refine xk_val (w' := i6) (b := false) (.slice (some ⟨g6, 0, none⟩) 0 0) rfl  (y_bslice rfl (by rw [p0, i7]; kernel_rfl)) rfl (fun _ => hS.ext a7) ?_
   have h0 := h0.ext a7
   have a0 := a0.ext a7
   have a1 := a1.ext a7
   have b0 := b0.ext a7
   have hC := hC.ext a7
   have hO := hO.new1 a7 i7 i9.lt
   have d8 := os_of_box (r := (RT.int .i64)) (M := M) (css := []) (fps := []) (xs := ([] : List Int)) i9 trivial (Nat.zero_le _) (List.nodup_cons.2 ⟨(fun h => nomatch h), List.nodup_nil⟩)
   have d8 : (RT.os 3 (RT.int .i64)).val M i6 (.slice (some ⟨g6, 0, none⟩) 0 0) [] [g6] := d8
   have hS := hS.ext a7
   refine x_one (i := 4) (by kernel_rfl) ?_
   obtain ⟨y33, b5, hs⟩ := bind_some hs
   obtain ⟨p1, p2, p3, p4, s0, p5, b4, p6, d9⟩ := app_rs Rw41 b5 d8 a0 hO.inM
   have c5 := os_block d8
   refine xk_val (w' := p4) (b := true) (.slice p1 p2 p3) rfl  (y_append rfl rfl (p5 _)) rfl (fun h => nomatch h) ?_
   have h0 := h0.mt b4 hO c5
   have a0 := a0.mt b4 hO c5
   have a1 := a1.mt b4 hO c5
   have b0 := b0.ma b4 hO c5 (fun _ e => (mem_l (e)))
   have hC := hC.st b4 hO c5
   have hO := hO.grow b4 p6 (os_nodup d9) d9.fpl
   refine x_one (i := 7) (by kernel_rfl) ?_
   obtain ⟨y38, b7, hs⟩ := bind_some hs
   have hO := hO.fr1
   have hO := hO.fr1
   obtain ⟨p7, p8, p9, q0, s1, q1, c6, q2, e0⟩ := app_os Rw41 b7 d9 b0 hO.inM (fun g hg hq => hO.apart g hq (mem_l hg))
   have e1 := os_block d9
   refine xk_val (w' := q0) (b := true) (.slice p7 p8 p9) rfl  (y_append rfl rfl (q1 _)) rfl (fun h => nomatch h) ?_
   have hO := hO.fr1
   have hO := hO.fr1
   have h0 := h0.mt c6 hO e1
   have a0 := a0.mt c6 hO e1
   have a1 := a1.mt c6 hO e1
   have hC := hC.st c6 hO e1
   have hO := hO.eat c6 q2 (os_nodup e0) e0.fpl
   refine x_one (i := 11) (by kernel_rfl) ?_
   obtain ⟨y41, b9, hs⟩ := bind_some hs
   obtain ⟨g7, g8, g9, q3, s2, q4, c7, q5, h1⟩ := app_rs Rw41 b9 e0 a1 hO.inM
   have e2 := os_block e0
   refine xk_val (w' := q3) (b := true) (.slice g7 g8 g9) rfl  (y_append rfl rfl (q4 _)) rfl (fun h => nomatch h) ?_
   have h0 := h0.mt c7 hO e2
   have a0 := a0.mt c7 hO e2
   have a1 := a1.mt c7 hO e2
   have hC := hC.st c7 hO e2
   have hO := hO.grow c7 q5 (os_nodup h1) h1.fpl
   refine x_p 12 (.slice g7 g8 g9) rfl (by kernel_rfl)  (fun _ => y_assign rfl) (fun h => nomatch h) ?_
   refine x_end (by kernel_rfl) ?_
   clear hS
   refine wp_ret ?_
   cases hs
   obtain ⟨h2, s3, h3, q6, hO, q7⟩ := frz_own (Frz.os Frz.int) h1 hO
   have h0 := h0.sub (M' := h2) h3
   have a0 := a0.sub (M' := h2) h3
   have a1 := a1.sub (M' := h2) h3
   have hK := q6
   exact ⟨_, g7, g8, g9, fr_ovl 45 ⟨rfl, trivial⟩, hC, (Keeps.out hK q7)⟩

theorem Bd126 : Bodied Try.prog 126 := bodied Try.func126 (by kernel_rfl) rfl

def k_spec_l14Values (M : Nat → Prop) (w0 : World) (r : (List Int)) (a : Act) (w : World) : Prop :=
  ∃ (σ : Nat → Value) (ra0 : Option Addr) (rn0 rc0 : Nat), a = fr 19 (ovl σ [(2, (.slice ra0 rn0 rc0))]) ∧ Chg [] w0 w ∧ (RT.rs (RT.int .i64)).val (Past M w0 w) w (.slice ra0 rn0 rc0) r []
def s_spec_l14Values (table : List Int) : Option ((List Int)) :=
  (forC (S := (List Int)) (R := (List Int)) (fun k23 s21 =>
  (idx table k23).bind fun x33 =>
  (s_spec_l1Put s21 x33).bind fun r36 =>
  some (.nx r36)) 0 (table.length : Int) ([])).bind fun o25 => after o25 (fun r_ => some r_) (fun s21 =>
  some s21)
set_option maxHeartbeats 4000000 in
theorem c_spec_l14Values {M : Nat → Prop} {w : World} {pa0 : Option Addr} {pn0 pc0 : Nat} (table : List Int) (h0 : (RT.rs (RT.int .i64)).val M w (.slice pa0 pn0 pc0) table ([])) (hM : ∀ g, w.heap.size ≤ g → M g) {r : (List Int)} (hs : s_spec_l14Values table = some r) :
    Gives Try.prog 95 [(.slice pa0 pn0 pc0)] w (fun v w' => ∃ (ra0 : Option Addr) (rn0 rc0 : Nat), v = (.slice ra0 rn0 rc0) ∧ Chg [] w w' ∧ (RT.rs (RT.int .i64)).val (Past M w w') w' (.slice ra0 rn0 rc0) r []) := by
 refine calls_fr Try.func95 rfl Try.ntmps95 (Nat.le_of_ble_eq_true rfl) ?_
 have hO := Own.start (N := Nw w []) hM Nw.fut
 have hC := Chg.refl [] w
 unfold s_spec_l14Values at hs
 refine wp_mono (Q := KPost (k_spec_l14Values M w r)) ?_ (fun e a c2 h => ?_)
 rotate_left
 ·cases e
  case ret =>
   obtain ⟨σ, ra0, rn0, rc0, rfl, hrest⟩ := h
   exact ret1x Try.results95 (res_tmp rfl) ⟨ra0, rn0, rc0, rfl, hrest⟩
  all_goals exact (h : False).elim
 refine c_sr ?_
 refine pl_val (.slice none 0 0) (y_assign rfl) ?_
 refine c_nil ?_
 refine c_sr ?_
 obtain ⟨b5, a9, c3, b6, b3, b7⟩ := new_block w [] 3
 refine pl_val (w' := b5) (.slice (some ⟨a9, 0, none⟩) 0 0) (y_bslice rfl (by rw [c3, b6]; kernel_rfl)) ?_
 have h0 := h0.ext b3
 have hC := hC.ext b3
 have hO := hO.new1 b3 b6 b7.lt
 have b4 := os_of_box (r := (RT.int .i64)) (M := M) (css := []) (fps := []) (xs := ([] : List Int)) b7 trivial (Nat.zero_le _) (List.nodup_cons.2 ⟨(fun h => nomatch h), List.nodup_nil⟩)
 have b4 : (RT.os 3 (RT.int .i64)).val M b5 (.slice (some ⟨a9, 0, none⟩) 0 0) [] [a9] := b4
 refine pl_val (.slice (some ⟨a9, 0, none⟩) 0 0) (y_assign rfl) ?_
 refine c_nil ?_
 refine c_seq ?_
 refine c_sr ?_
 refine pl_val (.int .i64 0) (y_assign rfl) ?_
 refine c_nil ?_
 obtain ⟨b8, d7, c4, c5, hO, c6⟩ := frz_own (Frz.os Frz.int) b4 hO
 have h0 := h0.sub (M' := b8) c4
 have hK := c5
 obtain ⟨o25, c7, hs⟩ := bind_some hs
 refine wp_block ?_
 refine wp_forC (id := 0) (table.length : Int) (I := fun k23 s21 a a0 => ∃ (σ : Nat → Value) (a1 : Nat → Prop) (a3 : Option Addr) (a4 : Nat) (a5 : Nat), a = fr 19 (ovl σ [(0, (.slice pa0 pn0 pc0)), (3, (.slice a3 a4 a5)), (4, (.int .i64 k23))]) ∧ Chg [] w a0 ∧ Own (Nw w []) a1 a0 ([]) ∧ Keeps w M a1 ∧ (RT.rs (RT.int .i64)).val a1 a0 (.slice pa0 pn0 pc0) table ([]) ∧ (RT.rs (RT.int .i64)).val a1 a0 (.slice a3 a4 a5) s21 ([])) (J := fun s21 a a0 => ∃ (σ : Nat → Value) (b0 : Nat → Prop) (a6 : Option Addr) (a7 : Nat) (a8 : Nat), a = fr 19 (ovl σ [(3, (.slice a6 a7 a8))]) ∧ Chg [] w a0 ∧ Own (Nw w []) b0 a0 ([]) ∧ Keeps w M b0 ∧ (RT.rs (RT.int .i64)).val b0 a0 (.slice pa0 pn0 pc0) table ([]) ∧ (RT.rs (RT.int .i64)).val b0 a0 (.slice a6 a7 a8) s21 ([])) (K := (k_spec_l14Values M w)) ?_ ?_ 0 ([]) o25 _ _ ?_ c7 ?_
 ·rintro k23 s21 a a0 ⟨σ, a1, a3, a4, a5, rfl, hC, hO, hK, h0, a2⟩ hlt
  refine c_seq ?_
  refine c_sr ?_
  refine pl_val (.int .i64 k23) (y_move rfl) ?_
  refine pl_val (.slice pa0 pn0 pc0) (y_move rfl) ?_
  refine pl_val (.int .i64 (table.length : Int)) (y_len' Sl41 (rs_len h0) rfl) ?_
  refine pl_val (.bool (decide (k23 < (table.length : Int)))) (y_lss rfl rfl) ?_
  refine c_nil ?_
  refine c_condF (congrArg Value.bool (decide_eq_false hlt)) ?_
  refine wp_exit ?_
  exact ⟨rfl, _, a1, a3, a4, a5, fr_ovl 19 ⟨rfl, trivial⟩, hC, hO, hK, h0, a2⟩
 ·rintro k23 s21 o25 a a0 ⟨σ, a1, a3, a4, a5, rfl, hC, hO, hK, h0, a2⟩ hlt hw hs
  refine c_seq ?_
  refine c_sr ?_
  refine pl_val (.int .i64 k23) (y_move rfl) ?_
  refine pl_val (.slice pa0 pn0 pc0) (y_move rfl) ?_
  refine pl_val (.int .i64 (table.length : Int)) (y_len' Sl41 (rs_len h0) rfl) ?_
  refine pl_val (.bool (decide (k23 < (table.length : Int)))) (y_lss rfl rfl) ?_
  refine c_nil ?_
  refine c_condT (congrArg Value.bool (decide_eq_true hlt)) ?_
  refine wp_skip ?_
  refine c_seq ?_
  refine wp_block ?_
  refine c_region ?_
  refine pl_val (.slice a3 a4 a5) (y_move rfl) ?_
  refine pl_val (.slice pa0 pn0 pc0) (y_move rfl) ?_
  refine pl_val (.int .i64 k23) (y_move rfl) ?_
  obtain ⟨x33, c8, hs⟩ := bind_some hs
  obtain ⟨c9, d0, d1, d2⟩ := rs_idx Sl41 Sz3 h0 c8
  refine pl_val (.pointer (some ⟨c9, d0, none⟩)) (d1 _ _ _ _ _ _ _ _ _ rfl rfl) ?_
  refine pl_val (.int .i64 x33) (y_load rfl ((at_load_int Ag3 Sz3 d2) _ (Chg.refl _ _))) ?_
  obtain ⟨r36, d3, hs⟩ := bind_some hs
  refine pl_call Bd126 rfl (c_spec_l1Put (M := a1) s21 x33 a2 hO.fut d3) ?_
  rintro _ b1 ⟨b9, c0, c1, rfl, b2, d4⟩
  have hK := hK.trans (show Keeps w a1 (Past a1 a0 b1) from Keeps.past hC.size)
  have h0 := h0.ext b2
  have a2 := a2.ext b2
  have hC := hC.ext b2
  have hO := hO.past b2
  have h0 := h0.sub (M' := (Past a1 a0 b1)) (fun g hg => .inl hg.1)
  have a2 := a2.sub (M' := (Past a1 a0 b1)) (fun g hg => .inl hg.1)
  refine pl_val (.slice b9 c0 c1) (y_assign rfl) ?_
  refine c_nil ?_
  refine c_region ?_
  refine pl_val (.int .i64 k23) (y_move rfl) ?_
  refine pl_val (.int .i64 (w64 (k23 + 1))) (y_add rfl rfl) ?_
  refine pl_val (.int .i64 (w64 (k23 + 1))) (y_assign rfl) ?_
  refine c_nil ?_
  cases hs
  exact ⟨_, (Past a1 a0 b1), b9, c0, c1, fr_ovl 19 ⟨rfl, rfl, congrArg (Value.int .i64) hw, trivial⟩, hC, hO, hK, h0, d4⟩
 ·skip
  exact ⟨_, b8, (some ⟨a9, 0, none⟩), 0, 0, fr_ovl 19 ⟨rfl, rfl, rfl, trivial⟩, hC, hO, hK, h0, c6⟩
 cases o25 with
 | nx _ => exact True.intro
 | rt r_ =>
  have hs := after_rt hs
  intro d5 c2 hK
  cases hs
  exact hK
 | br s21 =>
  have hs := after_br hs
  rintro d5 a0 ⟨σ, b0, a6, a7, a8, rfl, hC, hO, hK, h0, d6⟩
  refine c_sr ?_
  refine pl_val (.slice a6 a7 a8) (y_move rfl) ?_
  refine pl_val (.slice a6 a7 a8) (y_assign rfl) ?_
  refine c_nil ?_
  refine wp_ret ?_
  cases hs
  exact ⟨_, a6, a7, a8, fr_ovl 19 ⟨rfl, trivial⟩, hC, (Keeps.out hK d6)⟩

theorem Bd49 : Bodied Try.prog 49 := bodied Try.func49 (by kernel_rfl) rfl

theorem Bd57 : Bodied Try.prog 57 := bodied Try.func57 (by kernel_rfl) rfl

theorem Bd95 : Bodied Try.prog 95 := bodied Try.func95 (by kernel_rfl) rfl

def k_spec_l14Core (M : Nat → Prop) (w0 : World) (r : (List Int)) (a : Act) (w : World) : Prop :=
  ∃ (σ : Nat → Value) (ra0 : Option Addr) (rn0 rc0 : Nat), a = fr 38 (ovl σ [(4, (.slice ra0 rn0 rc0))]) ∧ Chg [] w0 w ∧ (RT.rs (RT.int .i64)).val (Past M w0 w) w (.slice ra0 rn0 rc0) r []
def s_spec_l14Core (n : Int) (rels : List (Int × (List (List Int)))) : Option ((List Int)) :=
  (s_spec_l14Free n).bind fun r3 =>
  (s_spec_l14All n rels 1 r3 300).bind fun r6 =>
  (idx r6.1 0).bind fun x8 =>
  (iter (S := (List Int) × Int) (R := (List Int)) (fun s117 =>
  (bif (decide (s117.2 < (r6.1.length : Int))) then (idx r6.1 s117.2).bind fun x130 =>
  (s_spec_l14Values x130).bind fun r135 =>
  (s_spec_l14Values s117.1).bind fun r138 =>
  (bif (decide ((r135.length : Int) < (r138.length : Int))) then (idx r6.1 s117.2).bind fun x141 =>
  some (.nx (x141, w64 (s117.2 + 1))) else some (.nx (s117.1, w64 (s117.2 + 1)))) else some (.br (s117.1, s117.2)))) FU (x8, 1)).bind fun o121 => after o121 (fun r_ => some r_) (fun s117 =>
  some s117.1)
set_option maxHeartbeats 4000000 in
theorem c_spec_l14Core {M : Nat → Prop} {w : World} {pa0 : Option Addr} {pn0 pc0 : Nat} (n : Int) (rels : List (Int × (List (List Int)))) (h0 : (RT.rs (RT.pr (RT.int .i64) (RT.rs (RT.rs (RT.int .i64))))).val M w (.slice pa0 pn0 pc0) rels ([])) (hM : ∀ g, w.heap.size ≤ g → M g) {r : (List Int)} (hs : s_spec_l14Core n rels = some r) :
    Gives Try.prog 96 [(.int .i64 n), (.slice pa0 pn0 pc0)] w (fun v w' => ∃ (ra0 : Option Addr) (rn0 rc0 : Nat), v = (.slice ra0 rn0 rc0) ∧ Chg [] w w' ∧ (RT.rs (RT.int .i64)).val (Past M w w') w' (.slice ra0 rn0 rc0) r []) := by
 refine calls_fr Try.func96 rfl Try.ntmps96 (Nat.le_of_ble_eq_true rfl) ?_
 have hO := Own.start (N := Nw w []) hM Nw.fut
 have hC := Chg.refl [] w
 unfold s_spec_l14Core at hs
 refine wp_mono (Q := KPost (k_spec_l14Core M w r)) ?_ (fun e a d5 h => ?_)
 rotate_left
 ·cases e
  case ret =>
   obtain ⟨σ, ra0, rn0, rc0, rfl, hrest⟩ := h
   exact ret1x Try.results96 (res_tmp rfl) ⟨ra0, rn0, rc0, rfl, hrest⟩
  all_goals exact (h : False).elim
 refine c_sr ?_
 refine pl_val (.slice none 0 0) (y_assign rfl) ?_
 refine c_nil ?_
 refine c_sr ?_
 refine pl_val (.int .i64 n) (y_move rfl) ?_
 refine pl_val (.slice pa0 pn0 pc0) (y_move rfl) ?_
 refine pl_val (.int .i64 n) (y_move rfl) ?_
 obtain ⟨r3, d6, hs⟩ := bind_some hs
 refine pl_call Bd49 rfl (c_spec_l14Free (M := M) n  hO.fut d6) ?_
 rintro _ h3 ⟨h4, h5, h6, c2, rfl, c3, c4, d7⟩
 have h0 := h0.ext c3
 have hC := hC.ext c3
 have hO := Own.join0 hO c3 d7
 have hO := hO.perm (R := c2 ++ ([])) (by simp)
 obtain ⟨r6, d8, hs⟩ := bind_some hs
 refine pl_call Bd57 rfl (c_spec_l14All (M := (Less M c2)) n rels 1 r3 300 (h0.sub Less.sub) (((Frz.os Frz.int)).val c4 Less.sub Less.not) hO.less.fut d8) ?_
 rintro _ h7 ⟨a6, a7, a8, d9, rfl, c0, c1, e0⟩
 have h0 := h0.ext c0
 have c4 := c4.ext c0
 have hC := hC.ext c0
 have hO := Own.join0 hO c0 e0
 have hO := hO.perm (R := d9 ++ (c2 ++ ([]))) (by simp)
 have c1 := c1.free (M' := M) (Free.os (Free.os Free.int))
 refine pl_val (.slice a6 a7 a8) (y_field rfl (by kernel_rfl)) ?_
 refine pl_val (.slice a6 a7 a8) (y_assign rfl) ?_
 refine c_nil ?_
 refine c_sr ?_
 refine pl_val (.slice a6 a7 a8) (y_move rfl) ?_
 obtain ⟨x8, e1, hs⟩ := bind_some hs
 obtain ⟨e2, h8, h9, i0, e3, e4, e5⟩ := os_idx Sl47 Sz41 c1 e1
 have e6 := own_row (Frz.os Frz.int) e4 e5
 refine pl_val (.pointer (some ⟨e2, 0 + Int.toNat 0 * 1, none⟩)) (e3 _ _ _ _ _ _ _ _ _ rfl rfl) ?_
 obtain ⟨i1, e7, hrow10, c5⟩ := at_load1 Ag41 Sz41 rfl rfl e6
 obtain ⟨c6, c7, c8, rfl⟩ := rs_sl c5
 refine pl_val (.slice c6 c7 c8) (y_load rfl (e7 _ (Chg.refl _ _))) ?_
 refine pl_val (.slice c6 c7 c8) (y_assign rfl) ?_
 refine c_nil ?_
 refine c_seq ?_
 refine c_sr ?_
 refine pl_val (.int .i64 1) (y_assign rfl) ?_
 refine c_nil ?_
 have hO := hO.fr1
 have hO := hO.drop
 obtain ⟨e8, e9, i2, f0, hO, a3⟩ := frz_own (Frz.os (Frz.os Frz.int)) c1 hO
 rw [← e9] at c5
 have hK := f0
 obtain ⟨o121, f1, hs⟩ := bind_some hs
 refine wp_block ?_
 refine wp_iter (id := 0) (I := fun s117 a a0 => ∃ (σ : Nat → Value) (a1 : Nat → Prop) (b0 : Option Addr) (b1 : Nat) (b2 : Nat), a = fr 38 (ovl σ [(5, (.slice a6 a7 a8)), (6, (.slice b0 b1 b2)), (7, (.int .i64 s117.2))]) ∧ Chg [] w a0 ∧ Own (Nw w []) a1 a0 ([]) ∧ Keeps w M a1 ∧ (RT.rs (RT.rs (RT.int .i64))).val a1 a0 (.slice a6 a7 a8) r6.1 ([]) ∧ (RT.rs (RT.int .i64)).val a1 a0 (.slice b0 b1 b2) s117.1 ([])) (J := fun s117 a a0 => ∃ (σ : Nat → Value) (b7 : Nat → Prop) (b3 : Option Addr) (b4 : Nat) (b5 : Nat), a = fr 38 (ovl σ [(6, (.slice b3 b4 b5))]) ∧ Chg [] w a0 ∧ Own (Nw w []) b7 a0 ([]) ∧ Keeps w M b7 ∧ (RT.rs (RT.rs (RT.int .i64))).val b7 a0 (.slice a6 a7 a8) r6.1 ([]) ∧ (RT.rs (RT.int .i64)).val b7 a0 (.slice b3 b4 b5) s117.1 ([])) (K := (k_spec_l14Core M w)) ?_ FU (x8, 1) o121 _ _ ?_ f1 ?_
 ·rintro s117 o121 a a0 ⟨σ, a1, b0, b1, b2, rfl, hC, hO, hK, a3, a4⟩ hs
  refine c_seq ?_
  refine c_sr ?_
  refine pl_val (.int .i64 s117.2) (y_move rfl) ?_
  refine pl_val (.slice a6 a7 a8) (y_move rfl) ?_
  refine pl_val (.int .i64 (r6.1.length : Int)) (y_len' Sl47 (rs_len a3) rfl) ?_
  refine pl_val (.bool (decide (s117.2 < (r6.1.length : Int)))) (y_lss rfl rfl) ?_
  refine c_nil ?_
  rcases bif_some hs with ⟨c9, hs⟩ | ⟨c9, hs⟩
  ·refine c_condT (congrArg Value.bool c9) ?_
   refine wp_skip ?_
   refine c_seq ?_
   refine wp_block ?_
   refine c_sr ?_
   refine pl_val (.slice a6 a7 a8) (y_move rfl) ?_
   refine pl_val (.int .i64 s117.2) (y_move rfl) ?_
   obtain ⟨x130, f2, hs⟩ := bind_some hs
   obtain ⟨f3, f4, f5, f6⟩ := rs_idx Sl47 Sz41 a3 f2
   refine pl_val (.pointer (some ⟨f3, f4, none⟩)) (f5 _ _ _ _ _ _ _ _ _ rfl rfl) ?_
   obtain ⟨i3, f7, a5⟩ := at_load Ag41 Sz41 (fun _ => rfl) f6
   obtain ⟨f8, f9, g0, rfl⟩ := rs_sl a5
   refine pl_val (.slice f8 f9 g0) (y_load rfl (f7 _ (Chg.refl _ _))) ?_
   obtain ⟨r135, g1, hs⟩ := bind_some hs
   refine pl_call Bd95 rfl (c_spec_l14Values (M := a1) x130 a5 hO.fut g1) ?_
   rintro _ a2 ⟨i4, i5, i6, rfl, b8, b9⟩
   have hK := hK.trans (show Keeps w a1 (Past a1 a0 a2) from Keeps.past hC.size)
   have a3 := a3.ext b8
   have a4 := a4.ext b8
   have a5 := a5.ext b8
   have hC := hC.ext b8
   have hO := hO.past b8
   have a3 := a3.sub (M' := (Past a1 a0 a2)) (fun g hg => .inl hg.1)
   have a4 := a4.sub (M' := (Past a1 a0 a2)) (fun g hg => .inl hg.1)
   have a5 := a5.sub (M' := (Past a1 a0 a2)) (fun g hg => .inl hg.1)
   refine pl_val (.int .i64 (r135.length : Int)) (y_len' Sl41 (rs_len b9) rfl) ?_
   refine pl_val (.slice b0 b1 b2) (y_move rfl) ?_
   obtain ⟨r138, g2, hs⟩ := bind_some hs
   refine pl_call Bd95 rfl (c_spec_l14Values (M := (Past a1 a0 a2)) s117.1 a4 hO.fut g2) ?_
   rintro _ a9 ⟨i7, i9, j0, rfl, b6, g3⟩
   have hK := hK.trans (show Keeps w (Past a1 a0 a2) (Past (Past a1 a0 a2) a2 a9) from Keeps.past hC.size)
   have a3 := a3.ext b6
   have a4 := a4.ext b6
   have a5 := a5.ext b6
   have b9 := b9.ext b6
   have hC := hC.ext b6
   have hO := hO.past b6
   have a3 := a3.sub (M' := (Past (Past a1 a0 a2) a2 a9)) (fun g hg => .inl hg.1)
   have a4 := a4.sub (M' := (Past (Past a1 a0 a2) a2 a9)) (fun g hg => .inl hg.1)
   have a5 := a5.sub (M' := (Past (Past a1 a0 a2) a2 a9)) (fun g hg => .inl hg.1)
   have b9 := b9.sub (M' := (Past (Past a1 a0 a2) a2 a9)) (fun g hg => .inl hg.1)
   refine pl_val (.int .i64 (r138.length : Int)) (y_len' Sl41 (rs_len g3) rfl) ?_
   refine pl_val (.bool (decide ((r135.length : Int) < (r138.length : Int)))) (y_lss rfl rfl) ?_
   refine c_nil ?_
   rcases bif_some hs with ⟨d0, hs⟩ | ⟨d0, hs⟩
   ·refine c_condT (congrArg Value.bool d0) ?_
    refine c_region ?_
    refine pl_val (.slice a6 a7 a8) (y_move rfl) ?_
    refine pl_val (.int .i64 s117.2) (y_move rfl) ?_
    obtain ⟨x141, g4, hs⟩ := bind_some hs
    obtain ⟨g5, g6, g7, g8⟩ := rs_idx Sl47 Sz41 a3 g4
    refine pl_val (.pointer (some ⟨g5, g6, none⟩)) (g7 _ _ _ _ _ _ _ _ _ rfl rfl) ?_
    obtain ⟨j1, g9, d4⟩ := at_load Ag41 Sz41 (fun _ => rfl) g8
    obtain ⟨d1, d2, d3, rfl⟩ := rs_sl d4
    refine pl_val (.slice d1 d2 d3) (y_load rfl (g9 _ (Chg.refl _ _))) ?_
    refine pl_val (.slice d1 d2 d3) (y_assign rfl) ?_
    refine c_nil ?_
    refine c_region ?_
    refine pl_val (.int .i64 s117.2) (y_move rfl) ?_
    refine pl_val (.int .i64 (w64 (s117.2 + 1))) (y_add rfl rfl) ?_
    refine pl_val (.int .i64 (w64 (s117.2 + 1))) (y_assign rfl) ?_
    refine c_nil ?_
    cases hs
    exact ⟨_, (Past (Past a1 a0 a2) a2 a9), d1, d2, d3, fr_ovl 38 ⟨rfl, rfl, rfl, trivial⟩, hC, hO, hK, a3, d4⟩
   refine c_condF (congrArg Value.bool d0) ?_
   refine wp_skip ?_
   refine c_region ?_
   refine pl_val (.int .i64 s117.2) (y_move rfl) ?_
   refine pl_val (.int .i64 (w64 (s117.2 + 1))) (y_add rfl rfl) ?_
   refine pl_val (.int .i64 (w64 (s117.2 + 1))) (y_assign rfl) ?_
   refine c_nil ?_
   cases hs
   exact ⟨_, (Past (Past a1 a0 a2) a2 a9), b0, b1, b2, fr_ovl 38 ⟨rfl, rfl, rfl, trivial⟩, hC, hO, hK, a3, a4⟩
  refine c_condF (congrArg Value.bool c9) ?_
  refine wp_exit ?_
  cases hs
  exact ⟨rfl, _, a1, b0, b1, b2, fr_ovl 38 ⟨rfl, trivial⟩, hC, hO, hK, a3, a4⟩
 ·skip
  exact ⟨_, e8, c6, c7, c8, fr_ovl 38 ⟨rfl, rfl, rfl, trivial⟩, hC, hO, hK, a3, c5⟩
 cases o121 with
 | nx _ => exact True.intro
 | rt r_ =>
  have hs := after_rt hs
  intro h1 d5 hK
  cases hs
  exact hK
 | br s117 =>
  have hs := after_br hs
  rintro h1 a0 ⟨σ, b7, b3, b4, b5, rfl, hC, hO, hK, a3, h2⟩
  refine c_sr ?_
  refine pl_val (.slice b3 b4 b5) (y_move rfl) ?_
  refine pl_val (.slice b3 b4 b5) (y_assign rfl) ?_
  refine c_nil ?_
  refine wp_ret ?_
  cases hs
  exact ⟨_, b3, b4, b5, fr_ovl 38 ⟨rfl, trivial⟩, hC, (Keeps.out hK h2)⟩

theorem Bd94 : Bodied Try.prog 94 := bodied Try.func94 (by kernel_rfl) rfl

theorem Bd96 : Bodied Try.prog 96 := bodied Try.func96 (by kernel_rfl) rfl

def k_spec_IsCore (M : Nat → Prop) (w0 : World) (r : Bool × Bool) (a : Act) (w : World) : Prop :=
  ∃ (σ : Nat → Value) , a = fr 17 (ovl σ [(4, (.bool r.1)), (5, (.bool r.2))]) ∧ Chg [] w0 w
def s_spec_IsCore (n : Int) (rels : List (Int × (List (List Int)))) : Option (Bool × Bool) :=
  (s_spec_l14Takes n rels 1).bind fun r3 =>
  (bif (!r3) then some (false, false) else (s_spec_l14Core n rels).bind fun r6 =>
  (s_spec_l14Values r6).bind fun r9 =>
  some (((r9.length : Int) == n), true))
set_option maxHeartbeats 4000000 in
theorem c_spec_IsCore {M : Nat → Prop} {w : World} {pa0 : Option Addr} {pn0 pc0 : Nat} (n : Int) (rels : List (Int × (List (List Int)))) (h0 : (RT.rs (RT.pr (RT.int .i64) (RT.rs (RT.rs (RT.int .i64))))).val M w (.slice pa0 pn0 pc0) rels ([])) (hM : ∀ g, w.heap.size ≤ g → M g) {r : Bool × Bool} (hs : s_spec_IsCore n rels = some r) :
    Gives Try.prog 44 [(.int .i64 n), (.slice pa0 pn0 pc0)] w (fun v w' => v = (.tuple #[(.bool r.1), (.bool r.2)]) ∧ Chg [] w w') := by
 refine calls_fr Try.func44 rfl Try.ntmps44 (Nat.le_of_ble_eq_true rfl) ?_
 have hO := Own.start (N := Nw w []) hM Nw.fut
 have hC := Chg.refl [] w
 unfold s_spec_IsCore at hs
 refine wp_mono (Q := KPost (k_spec_IsCore M w r)) ?_ (fun e a b2 h => ?_)
 rotate_left
 ·cases e
  case ret =>
   obtain ⟨σ, rfl, hrest⟩ := h
   exact ret2x Try.results44 (res_tmp rfl) (res_tmp rfl) ⟨rfl, hrest⟩
  all_goals exact (h : False).elim
 refine c_sr ?_
 refine pl_val (.bool false) (y_assign rfl) ?_
 refine pl_val (.bool false) (y_assign rfl) ?_
 refine c_nil ?_
 refine c_seq ?_
 refine c_sr ?_
 refine pl_val (.int .i64 n) (y_move rfl) ?_
 refine pl_val (.slice pa0 pn0 pc0) (y_move rfl) ?_
 obtain ⟨r3, a8, hs⟩ := bind_some hs
 refine pl_call Bd94 rfl (c_spec_l14Takes (M := M) n rels 1 h0 hO.fut a8) ?_
 rintro _ a1 ⟨rfl, a4⟩
 have h0 := h0.ext a4
 have hC := hC.ext a4
 have hO := hO.ext a4
 refine pl_val (.bool (!r3)) (y_not rfl) ?_
 refine c_nil ?_
 rcases bif_some hs with ⟨a5, hs⟩ | ⟨a5, hs⟩
 ·refine c_condT (congrArg Value.bool a5) ?_
  refine c_sr ?_
  refine pl_val (.bool false) (y_assign rfl) ?_
  refine pl_val (.bool false) (y_assign rfl) ?_
  refine c_nil ?_
  refine wp_ret ?_
  cases hs
  exact ⟨_, fr_ovl 17 ⟨rfl, rfl, trivial⟩, hC⟩
 refine c_condF (congrArg Value.bool a5) ?_
 refine wp_skip ?_
 refine c_sr ?_
 refine pl_val (.int .i64 n) (y_move rfl) ?_
 refine pl_val (.slice pa0 pn0 pc0) (y_move rfl) ?_
 obtain ⟨r6, a9, hs⟩ := bind_some hs
 refine pl_call Bd96 rfl (c_spec_l14Core (M := M) n rels h0 hO.fut a9) ?_
 rintro _ a0 ⟨b3, b4, b5, rfl, a6, a2⟩
 have hK := (show Keeps w M (Past M a1 a0) from Keeps.past hC.size)
 have h0 := h0.ext a6
 have hC := hC.ext a6
 have hO := hO.past a6
 have h0 := h0.sub (M' := (Past M a1 a0)) (fun g hg => .inl hg.1)
 obtain ⟨r9, b0, hs⟩ := bind_some hs
 refine pl_call Bd95 rfl (c_spec_l14Values (M := (Past M a1 a0)) r6 a2 hO.fut b0) ?_
 rintro _ a7 ⟨b6, b7, b8, rfl, a3, b1⟩
 have hK := hK.trans (show Keeps w (Past M a1 a0) (Past (Past M a1 a0) a0 a7) from Keeps.past hC.size)
 have h0 := h0.ext a3
 have a2 := a2.ext a3
 have hC := hC.ext a3
 have hO := hO.past a3
 have h0 := h0.sub (M' := (Past (Past M a1 a0) a0 a7)) (fun g hg => .inl hg.1)
 have a2 := a2.sub (M' := (Past (Past M a1 a0) a0 a7)) (fun g hg => .inl hg.1)
 refine pl_val (.int .i64 (r9.length : Int)) (y_len' Sl41 (rs_len b1) rfl) ?_
 refine pl_val (.int .i64 n) (y_move rfl) ?_
 refine pl_val (.bool ((r9.length : Int) == n)) (y_eql rfl rfl) ?_
 refine pl_val (.bool ((r9.length : Int) == n)) (y_assign rfl) ?_
 refine pl_val (.bool true) (y_assign rfl) ?_
 refine c_nil ?_
 refine wp_ret ?_
 cases hs
 exact ⟨_, fr_ovl 17 ⟨rfl, rfl, trivial⟩, hC⟩

def k_impl_isTemplateSize (M : Nat → Prop) (w0 : World) (r : Bool) (a : Act) (w : World) : Prop :=
  ∃ (σ : Nat → Value) , a = fr 9 (ovl σ [(2, (.bool r))]) ∧ Chg [] w0 w
def s_impl_isTemplateSize (n : Int) : Option (Bool) :=
  (bif (decide (1 ≤ n)) then some (decide (n ≤ 4)) else some false)
set_option maxHeartbeats 4000000 in
theorem c_impl_isTemplateSize {M : Nat → Prop} {w : World}  (n : Int)  (hM : ∀ g, w.heap.size ≤ g → M g) {r : Bool} (hs : s_impl_isTemplateSize n = some r) :
    Gives Try.prog 103 [(.int .i64 n)] w (fun v w' => v = (.bool r) ∧ Chg [] w w') := by
 refine calls_fr Try.func103 rfl Try.ntmps103 (Nat.le_of_ble_eq_true rfl) ?_
 have hO := Own.start (N := Nw w []) hM Nw.fut
 have hC := Chg.refl [] w
 unfold s_impl_isTemplateSize at hs
 refine wp_mono (Q := KPost (k_impl_isTemplateSize M w r)) ?_ (fun e a a1 h => ?_)
 rotate_left
 ·cases e
  case ret =>
   obtain ⟨σ, rfl, hrest⟩ := h
   exact ret1x Try.results103 (res_tmp rfl) ⟨rfl, hrest⟩
  all_goals exact (h : False).elim
 refine c_sr ?_
 refine pl_val (.bool false) (y_assign rfl) ?_
 refine c_nil ?_
 refine c_sr ?_
 refine pl_val (.int .i64 n) (y_move rfl) ?_
 refine pl_val (.bool (decide (1 ≤ n))) (y_geq rfl rfl) ?_
 refine pl_val (.bool (decide (1 ≤ n))) (y_move rfl) ?_
 rcases bif_some hs with ⟨a0, hs⟩ | ⟨a0, hs⟩
 ·skip
  refine pl_yes (.int .i64 n) (tg := 5) (by kernel_rfl) (congrArg Value.bool a0) (y_move rfl) ?_
  refine pl_yes (.bool (decide (n ≤ 4))) (tg := 5) (by kernel_rfl) (congrArg Value.bool a0) (y_leq rfl rfl) ?_
  refine pl_val (.bool (decide (n ≤ 4))) (y_pick_t (congrArg Value.bool a0) rfl) ?_
  refine pl_val (.bool (decide (n ≤ 4))) (y_assign rfl) ?_
  refine c_nil ?_
  refine wp_ret ?_
  cases hs
  exact ⟨_, fr_ovl 9 ⟨rfl, trivial⟩, hC⟩
 refine pl_not (tg := 5) (by kernel_rfl) (congrArg Value.bool a0) ?_
 refine pl_not (tg := 5) (by kernel_rfl) (congrArg Value.bool a0) ?_
 refine pl_val (.bool false) (y_pick_f (congrArg Value.bool a0) rfl) ?_
 refine pl_val (.bool false) (y_assign rfl) ?_
 refine c_nil ?_
 refine wp_ret ?_
 cases hs
 exact ⟨_, fr_ovl 9 ⟨rfl, trivial⟩, hC⟩

def k_impl_inSize (M : Nat → Prop) (w0 : World) (r : Bool) (a : Act) (w : World) : Prop :=
  ∃ (σ : Nat → Value) , a = fr 21 (ovl σ [(4, (.bool r))]) ∧ Chg [] w0 w
def s_impl_inSize (list : List Int) (n : Int) : Option (Bool) :=
  (forR (S := Unit) (R := Bool) (fun _ x8 s5 =>
  (bif (decide (x8 < 0)) then some (.rt false) else (bif (decide (n ≤ x8)) then some (.rt false) else some (.nx ())))) 0 list ()).bind fun o9 => after o9 (fun r_ => some r_) (fun s5 =>
  some true)
set_option maxHeartbeats 4000000 in
theorem c_impl_inSize {M : Nat → Prop} {w : World} {pa0 : Option Addr} {pn0 pc0 : Nat} (list : List Int) (n : Int) (h0 : (RT.rs (RT.int .i64)).val M w (.slice pa0 pn0 pc0) list ([])) (hM : ∀ g, w.heap.size ≤ g → M g) {r : Bool} (hs : s_impl_inSize list n = some r) :
    Gives Try.prog 71 [(.slice pa0 pn0 pc0), (.int .i64 n)] w (fun v w' => v = (.bool r) ∧ Chg [] w w') := by
 refine calls_fr Try.func71 rfl Try.ntmps71 (Nat.le_of_ble_eq_true rfl) ?_
 have hO := Own.start (N := Nw w []) hM Nw.fut
 have hC := Chg.refl [] w
 unfold s_impl_inSize at hs
 refine wp_mono (Q := KPost (k_impl_inSize M w r)) ?_ (fun e a a4 h => ?_)
 rotate_left
 ·cases e
  case ret =>
   obtain ⟨σ, rfl, hrest⟩ := h
   exact ret1x Try.results71 (res_tmp rfl) ⟨rfl, hrest⟩
  all_goals exact (h : False).elim
 refine c_sr ?_
 refine pl_val (.bool false) (y_assign rfl) ?_
 refine c_nil ?_
 refine c_seq ?_
 refine c_sr ?_
 refine pl_val (.slice pa0 pn0 pc0) (y_move rfl) ?_
 refine pl_val (.int .i64 (list.length : Int)) (y_len' Sl41 (rs_len h0) rfl) ?_
 refine pl_val (.int .i64 0) (y_move rfl) ?_
 refine c_nil ?_
 obtain ⟨o9, a5, hs⟩ := bind_some hs
 refine wp_block ?_
 refine wp_forR (id := 0) (I := fun i_ xs_ s5 a a0 => ∃ a1 : Nat, i_ = (a1 : Int) ∧ List.drop a1 list = xs_ ∧ (∃ (σ : Nat → Value), a = fr 21 (ovl σ [(1, (.int .i64 n)), (7, (.slice pa0 pn0 pc0)), (8, (.int .i64 (list.length : Int))), (9, (.int .i64 (a1 : Int)))]) ∧ Chg [] w a0 ∧ Own (Nw w []) M a0 ([]) ∧ (RT.rs (RT.int .i64)).val M a0 (.slice pa0 pn0 pc0) list ([]))) (J := fun s5 a a0 => ∃ (σ : Nat → Value), a = fr 21 (ovl σ []) ∧ Chg [] w a0 ∧ Own (Nw w []) M a0 ([]) ∧ (RT.rs (RT.int .i64)).val M a0 (.slice pa0 pn0 pc0) list ([])) (K := (k_impl_inSize M w)) ?_ ?_ list 0 () o9 _ _ ?_ a5 ?_
 ·rintro _ s5 a a0 ⟨a1, rfl, hd, σ, rfl, hC, hO, h0⟩
  have hlt := drop_nil_ge hd
  refine c_sr ?_
  refine pl_val (.bool (decide ((a1 : Int) < (list.length : Int)))) (y_lss rfl rfl) ?_
  refine c_nil ?_
  refine c_seq ?_
  refine c_condF (congrArg Value.bool (decide_eq_false hlt)) ?_
  refine wp_exit ?_
  exact ⟨rfl, _, fr_ovl 21 trivial, hC, hO, h0⟩
 ·rintro _ x8 xs_ s5 o9 a a0 ⟨a1, rfl, hd, σ, rfl, hC, hO, h0⟩ hs
  have hlt := drop_cons_lt hd
  have a6 := drop_cons_idx hd
  refine c_sr ?_
  refine pl_val (.bool (decide ((a1 : Int) < (list.length : Int)))) (y_lss rfl rfl) ?_
  refine c_nil ?_
  refine c_seq ?_
  refine c_condT (congrArg Value.bool (decide_eq_true hlt)) ?_
  refine wp_skip ?_
  refine c_seq ?_
  refine wp_block ?_
  refine c_sr ?_
  obtain ⟨a7, a8, a9, b0⟩ := rs_idx Sl41 Sz3 h0 a6
  refine pl_val (.pointer (some ⟨a7, a8, none⟩)) (a9 _ _ _ _ _ _ _ _ _ rfl rfl) ?_
  refine pl_val (.int .i64 x8) (y_load rfl ((at_load_int Ag3 Sz3 b0) _ (Chg.refl _ _))) ?_
  refine pl_val (.int .i64 x8) (y_assign rfl) ?_
  refine c_nil ?_
  refine c_sr ?_
  refine pl_val (.int .i64 x8) (y_move rfl) ?_
  refine pl_val (.bool (decide (x8 < 0))) (y_lss rfl rfl) ?_
  refine pl_val (.bool (decide (x8 < 0))) (y_move rfl) ?_
  rcases bif_some hs with ⟨a2, hs⟩ | ⟨a2, hs⟩
  ·skip
   refine pl_not (tg := 15) (by kernel_rfl) (congrArg Value.bool a2) ?_
   refine pl_not (tg := 15) (by kernel_rfl) (congrArg Value.bool a2) ?_
   refine pl_not (tg := 15) (by kernel_rfl) (congrArg Value.bool a2) ?_
   refine pl_val (.bool true) (y_pick_t (congrArg Value.bool a2) rfl) ?_
   refine c_nil ?_
   refine c_condT (by rfl) ?_
   refine c_sr ?_
   refine pl_val (.bool false) (y_assign rfl) ?_
   refine c_nil ?_
   refine wp_ret ?_
   cases hs
   exact ⟨_, fr_ovl 21 ⟨rfl, trivial⟩, hC⟩
  refine pl_yes (.int .i64 x8) (tg := 15) (by kernel_rfl) (congrArg Value.bool a2) (y_move rfl) ?_
  refine pl_yes (.int .i64 n) (tg := 15) (by kernel_rfl) (congrArg Value.bool a2) (y_move rfl) ?_
  refine pl_yes (.bool (decide (n ≤ x8))) (tg := 15) (by kernel_rfl) (congrArg Value.bool a2) (y_geq rfl rfl) ?_
  refine pl_val (.bool (decide (n ≤ x8))) (y_pick_f (congrArg Value.bool a2) rfl) ?_
  refine c_nil ?_
  rcases bif_some hs with ⟨a3, hs⟩ | ⟨a3, hs⟩
  ·refine c_condT (congrArg Value.bool a3) ?_
   refine c_sr ?_
   refine pl_val (.bool false) (y_assign rfl) ?_
   refine c_nil ?_
   refine wp_ret ?_
   cases hs
   exact ⟨_, fr_ovl 21 ⟨rfl, trivial⟩, hC⟩
  refine c_condF (congrArg Value.bool a3) ?_
  refine wp_skip ?_
  refine c_region ?_
  refine pl_val (.int .i64 (w64 ((a1 : Int) + 1))) (y_add rfl rfl) ?_
  refine pl_val (.int .i64 (w64 ((a1 : Int) + 1))) (y_move rfl) ?_
  refine c_nil ?_
  cases hs
  exact ⟨_, rfl, drop_cons_next hd, _, fr_ovl 21 ⟨rfl, rfl, rfl, congrArg (Value.int .i64) (w64_succ hlt (Int.natCast_nonneg _) (rs_max h0)), trivial⟩, hC, hO, h0⟩
 ·skip
  exact ⟨0, rfl, rfl, _, fr_ovl 21 ⟨rfl, rfl, rfl, rfl, trivial⟩, hC, hO, h0⟩
 cases o9 with
 | nx _ => exact True.intro
 | rt r_ =>
  have hs := after_rt hs
  intro b1 a4 hK
  cases hs
  exact hK
 | br s5 =>
  have hs := after_br hs
  rintro b1 a0 ⟨σ, rfl, hC, hO, h0⟩
  refine c_sr ?_
  refine pl_val (.bool true) (y_assign rfl) ?_
  refine c_nil ?_
  refine wp_ret ?_
  cases hs
  exact ⟨_, fr_ovl 21 ⟨rfl, trivial⟩, hC⟩

def k_impl_compareLists (M : Nat → Prop) (w0 : World) (r : Int) (a : Act) (w : World) : Prop :=
  ∃ (σ : Nat → Value) , a = fr 48 (ovl σ [(4, (.int .i64 r))]) ∧ Chg [] w0 w
def s_impl_compareLists (s_ : List Int) (t : List Int) : Option (Int) :=
  (iter (S := Int) (R := Int) (fun s25 =>
  (bif ((decide (s25 < (s_.length : Int))) && (decide (s25 < (t.length : Int)))) then (idx s_ s25).bind fun x42 =>
  (idx t s25).bind fun x44 =>
  (bif (x42 != x44) then (idx s_ s25).bind fun x48 =>
  (idx t s25).bind fun x50 =>
  (bif (decide (x48 < x50)) then some (.rt (-1)) else some (.rt 1)) else some (.nx (w64 (s25 + 1)))) else some (.br s25))) FU 0).bind fun o29 => after o29 (fun r_ => some r_) (fun s25 =>
  (bif (decide ((s_.length : Int) < (t.length : Int))) then some (-1) else (bif (decide ((t.length : Int) < (s_.length : Int))) then some 1 else some 0)))
set_option maxHeartbeats 4000000 in
theorem c_impl_compareLists {M : Nat → Prop} {w : World} {pa0 : Option Addr} {pn0 pc0 : Nat} {pa1 : Option Addr} {pn1 pc1 : Nat} (s_ : List Int) (t : List Int) (h0 : (RT.rs (RT.int .i64)).val M w (.slice pa0 pn0 pc0) s_ ([])) (h1 : (RT.rs (RT.int .i64)).val M w (.slice pa1 pn1 pc1) t ([])) (hM : ∀ g, w.heap.size ≤ g → M g) {r : Int} (hs : s_impl_compareLists s_ t = some r) :
    Gives Try.prog 136 [(.slice pa0 pn0 pc0), (.slice pa1 pn1 pc1)] w (fun v w' => v = (.int .i64 r) ∧ Chg [] w w') := by
 refine calls_fr Try.func136 rfl Try.ntmps136 (Nat.le_of_ble_eq_true rfl) ?_
 have hO := Own.start (N := Nw w []) hM Nw.fut
 have hC := Chg.refl [] w
 unfold s_impl_compareLists at hs
 refine wp_mono (Q := KPost (k_impl_compareLists M w r)) ?_ (fun e a b3 h => ?_)
 rotate_left
 ·cases e
  case ret =>
   obtain ⟨σ, rfl, hrest⟩ := h
   exact ret1x Try.results136 (res_tmp rfl) ⟨rfl, hrest⟩
  all_goals exact (h : False).elim
 refine c_sr ?_
 refine pl_val (.int .i64 0) (y_assign rfl) ?_
 refine c_nil ?_
 refine c_seq ?_
 refine c_sr ?_
 refine pl_val (.int .i64 0) (y_assign rfl) ?_
 refine c_nil ?_
 obtain ⟨o29, b4, hs⟩ := bind_some hs
 refine wp_block ?_
 refine wp_iter (id := 0) (I := fun s25 a a0 => ∃ (σ : Nat → Value), a = fr 48 (ovl σ [(0, (.slice pa0 pn0 pc0)), (1, (.slice pa1 pn1 pc1)), (5, (.int .i64 s25))]) ∧ Chg [] w a0 ∧ Own (Nw w []) M a0 ([]) ∧ (RT.rs (RT.int .i64)).val M a0 (.slice pa0 pn0 pc0) s_ ([]) ∧ (RT.rs (RT.int .i64)).val M a0 (.slice pa1 pn1 pc1) t ([])) (J := fun s25 a a0 => ∃ (σ : Nat → Value), a = fr 48 (ovl σ [(0, (.slice pa0 pn0 pc0)), (1, (.slice pa1 pn1 pc1))]) ∧ Chg [] w a0 ∧ Own (Nw w []) M a0 ([]) ∧ (RT.rs (RT.int .i64)).val M a0 (.slice pa0 pn0 pc0) s_ ([]) ∧ (RT.rs (RT.int .i64)).val M a0 (.slice pa1 pn1 pc1) t ([])) (K := (k_impl_compareLists M w)) ?_ FU 0 o29 _ _ ?_ b4 ?_
 ·rintro s25 o29 a a0 ⟨σ, rfl, hC, hO, h0, h1⟩ hs
  refine c_seq ?_
  refine c_seq ?_
  refine c_mid (I := fun a a4 => ∃ (σ : Nat → Value), a = fr 48 (ovl σ [(0, (.slice pa0 pn0 pc0)), (1, (.slice pa1 pn1 pc1)), (5, (.int .i64 s25)), (15, (.bool ((decide (s25 < (s_.length : Int))) && (decide (s25 < (t.length : Int))))))]) ∧ Chg [] a0 a4) ?_ ?_
  ·have hMid := Chg.refl [] a0
   refine c_region ?_
   refine pl_val (.int .i64 s25) (y_move rfl) ?_
   refine pl_val (.slice pa0 pn0 pc0) (y_move rfl) ?_
   refine pl_val (.int .i64 (s_.length : Int)) (y_len' Sl41 (rs_len h0) rfl) ?_
   refine pl_val (.bool (decide (s25 < (s_.length : Int)))) (y_lss rfl rfl) ?_
   refine pl_val (.bool (decide (s25 < (s_.length : Int)))) (y_move rfl) ?_
   rcases Bool.eq_false_or_eq_true ((decide (s25 < (s_.length : Int)))) with a1 | a1
   ·skip
    refine pl_yes (.int .i64 s25) (tg := 10) (by kernel_rfl) (congrArg Value.bool a1) (y_move rfl) ?_
    refine pl_yes (.slice pa1 pn1 pc1) (tg := 10) (by kernel_rfl) (congrArg Value.bool a1) (y_move rfl) ?_
    refine pl_yes (.int .i64 (t.length : Int)) (tg := 10) (by kernel_rfl) (congrArg Value.bool a1) (y_len' Sl41 (rs_len h1) rfl) ?_
    refine pl_yes (.bool (decide (s25 < (t.length : Int)))) (tg := 10) (by kernel_rfl) (congrArg Value.bool a1) (y_lss rfl rfl) ?_
    refine pl_val (.bool ((decide (s25 < (s_.length : Int))) && (decide (s25 < (t.length : Int))))) (y_pick_t (congrArg Value.bool a1) (congrArg Value.bool (by rw [a1]; rfl))) ?_
    refine c_nil ?_
    exact ⟨_, fr_ovl 48 ⟨rfl, rfl, rfl, rfl, trivial⟩, hMid⟩
   refine pl_not (tg := 10) (by kernel_rfl) (congrArg Value.bool a1) ?_
   refine pl_not (tg := 10) (by kernel_rfl) (congrArg Value.bool a1) ?_
   refine pl_not (tg := 10) (by kernel_rfl) (congrArg Value.bool a1) ?_
   refine pl_not (tg := 10) (by kernel_rfl) (congrArg Value.bool a1) ?_
   refine pl_val (.bool ((decide (s25 < (s_.length : Int))) && (decide (s25 < (t.length : Int))))) (y_pick_f (congrArg Value.bool a1) (congrArg Value.bool (by rw [a1]; rfl))) ?_
   refine c_nil ?_
   exact ⟨_, fr_ovl 48 ⟨rfl, rfl, rfl, rfl, trivial⟩, hMid⟩
  rintro b2 a4 ⟨σ, rfl, a5⟩
  have h0 := h0.ext a5
  have h1 := h1.ext a5
  have hC := hC.ext a5
  have hO := hO.ext a5
  rcases bif_some hs with ⟨a6, hs⟩ | ⟨a6, hs⟩
  ·refine c_condT (congrArg Value.bool a6) ?_
   refine wp_skip ?_
   refine c_seq ?_
   refine wp_block ?_
   refine c_seq ?_
   refine x_start [] Mx rfl ?_
   have a2 := Chg.drew a4
   generalize World.drew a4 = a7 at a2 ⊢
   have h0 := h0.ext a2
   have h1 := h1.ext a2
   have hC := hC.ext a2
   have hO := hO.ext a2
   have hS := Chg.refl [] a7
   refine x_p 0 (.slice pa0 pn0 pc0) rfl (by kernel_rfl)  (fun _ => y_move rfl) (fun _ => hS) ?_
   refine x_p 1 (.int .i64 s25) rfl (by kernel_rfl)  (fun _ => y_move rfl) (fun _ => hS) ?_
   obtain ⟨x42, b5, hs⟩ := bind_some hs
   obtain ⟨b6, b7, b8, b9⟩ := rs_idx Sl41 Sz3 h0 b5
   refine x_p 2 (.pointer (some ⟨b6, b7, none⟩)) rfl (by kernel_rfl)  (fun _ => b8 _ _ _ _ _ _ _ _ _ rfl rfl) (fun _ => hS) ?_
   refine x_l 3 (.int .i64 x42) rfl (by kernel_rfl)  (fun w' hw' => y_load rfl ((at_load_int Ag3 Sz3 b9) w' hw')) hS ?_
   refine x_p 4 (.slice pa1 pn1 pc1) rfl (by kernel_rfl)  (fun _ => y_move rfl) (fun _ => hS) ?_
   refine x_p 5 (.int .i64 s25) rfl (by kernel_rfl)  (fun _ => y_move rfl) (fun _ => hS) ?_
   obtain ⟨x44, c0, hs⟩ := bind_some hs
   obtain ⟨c1, c2, c3, c4⟩ := rs_idx Sl41 Sz3 h1 c0
   refine x_p 6 (.pointer (some ⟨c1, c2, none⟩)) rfl (by kernel_rfl)  (fun _ => c3 _ _ _ _ _ _ _ _ _ rfl rfl) (fun _ => hS) ?_
   refine x_l 7 (.int .i64 x44) rfl (by kernel_rfl)  (fun w' hw' => y_load rfl ((at_load_int Ag3 Sz3 c4) w' hw')) hS ?_
   refine x_p 8 (.bool (x42 != x44)) rfl (by kernel_rfl)  (fun _ => y_neq rfl rfl) (fun _ => hS) ?_
   refine x_end (by kernel_rfl) ?_
   clear hS
   rcases bif_some hs with ⟨a8, hs⟩ | ⟨a8, hs⟩
   ·refine c_condT (congrArg Value.bool a8) ?_
    refine c_seq ?_
    refine c_seq ?_
    refine x_start [] Mx rfl ?_
    have a3 := Chg.drew a7
    generalize World.drew a7 = c5 at a3 ⊢
    have h0 := h0.ext a3
    have h1 := h1.ext a3
    have hC := hC.ext a3
    have hO := hO.ext a3
    have hS := Chg.refl [] c5
    refine x_p 0 (.slice pa0 pn0 pc0) rfl (by kernel_rfl)  (fun _ => y_move rfl) (fun _ => hS) ?_
    refine x_p 1 (.int .i64 s25) rfl (by kernel_rfl)  (fun _ => y_move rfl) (fun _ => hS) ?_
    obtain ⟨x48, c6, hs⟩ := bind_some hs
    obtain ⟨c7, c8, c9, d0⟩ := rs_idx Sl41 Sz3 h0 c6
    refine x_p 2 (.pointer (some ⟨c7, c8, none⟩)) rfl (by kernel_rfl)  (fun _ => c9 _ _ _ _ _ _ _ _ _ rfl rfl) (fun _ => hS) ?_
    refine x_l 3 (.int .i64 x48) rfl (by kernel_rfl)  (fun w' hw' => y_load rfl ((at_load_int Ag3 Sz3 d0) w' hw')) hS ?_
    refine x_p 4 (.slice pa1 pn1 pc1) rfl (by kernel_rfl)  (fun _ => y_move rfl) (fun _ => hS) ?_
    refine x_p 5 (.int .i64 s25) rfl (by kernel_rfl)  (fun _ => y_move rfl) (fun _ => hS) ?_
    obtain ⟨x50, d1, hs⟩ := bind_some hs
    obtain ⟨d2, d3, d4, d5⟩ := rs_idx Sl41 Sz3 h1 d1
    refine x_p 6 (.pointer (some ⟨d2, d3, none⟩)) rfl (by kernel_rfl)  (fun _ => d4 _ _ _ _ _ _ _ _ _ rfl rfl) (fun _ => hS) ?_
    refine x_l 7 (.int .i64 x50) rfl (by kernel_rfl)  (fun w' hw' => y_load rfl ((at_load_int Ag3 Sz3 d5) w' hw')) hS ?_
    refine x_p 8 (.bool (decide (x48 < x50))) rfl (by kernel_rfl)  (fun _ => y_lss rfl rfl) (fun _ => hS) ?_
    refine x_end (by kernel_rfl) ?_
    clear hS
    rcases bif_some hs with ⟨a9, hs⟩ | ⟨a9, hs⟩
    ·refine c_condT (congrArg Value.bool a9) ?_
     refine c_sr ?_
     refine pl_val (.int .i64 (-1)) (y_assign rfl) ?_
     refine c_nil ?_
     refine wp_ret ?_
     cases hs
     exact ⟨_, fr_ovl 48 ⟨rfl, trivial⟩, hC⟩
    refine c_condF (congrArg Value.bool a9) ?_
    refine wp_skip ?_
    refine c_sr ?_
    refine pl_val (.int .i64 1) (y_assign rfl) ?_
    refine c_nil ?_
    refine wp_ret ?_
    cases hs
    exact ⟨_, fr_ovl 48 ⟨rfl, trivial⟩, hC⟩
   refine c_condF (congrArg Value.bool a8) ?_
   refine wp_skip ?_
   refine c_region ?_
   refine pl_val (.int .i64 s25) (y_move rfl) ?_
   refine pl_val (.int .i64 (w64 (s25 + 1))) (y_add rfl rfl) ?_
   refine pl_val (.int .i64 (w64 (s25 + 1))) (y_assign rfl) ?_
   refine c_nil ?_
   cases hs
   exact ⟨_, fr_ovl 48 ⟨rfl, rfl, rfl, trivial⟩, hC, hO, h0, h1⟩
  refine c_condF (congrArg Value.bool a6) ?_
  refine wp_exit ?_
  cases hs
  exact ⟨rfl, _, fr_ovl 48 ⟨rfl, rfl, trivial⟩, hC, hO, h0, h1⟩
 ·skip
  exact ⟨_, fr_ovl 48 ⟨rfl, rfl, rfl, trivial⟩, hC, hO, h0, h1⟩
 cases o29 with
 | nx _ => exact True.intro
 | rt r_ =>
  have hs := after_rt hs
  intro b2 b3 hK
  cases hs
  exact hK
 | br s25 =>
  have hs := after_br hs
  rintro b2 a0 ⟨σ, rfl, hC, hO, h0, h1⟩
  refine c_seq ?_
  refine wp_block ?_
  refine c_sr ?_
  refine pl_val (.slice pa0 pn0 pc0) (y_move rfl) ?_
  refine pl_val (.int .i64 (s_.length : Int)) (y_len' Sl41 (rs_len h0) rfl) ?_
  refine pl_val (.slice pa1 pn1 pc1) (y_move rfl) ?_
  refine pl_val (.int .i64 (t.length : Int)) (y_len' Sl41 (rs_len h1) rfl) ?_
  refine pl_val (.bool (decide ((s_.length : Int) < (t.length : Int)))) (y_lss rfl rfl) ?_
  refine pl_val (.bool (decide ((s_.length : Int) < (t.length : Int)))) (y_assign rfl) ?_
  refine c_nil ?_
  rcases bif_some hs with ⟨b0, hs⟩ | ⟨b0, hs⟩
  ·refine c_condT (congrArg Value.bool b0) ?_
   refine c_sr ?_
   refine pl_val (.int .i64 (-1)) (y_assign rfl) ?_
   refine c_nil ?_
   refine wp_ret ?_
   cases hs
   exact ⟨_, fr_ovl 48 ⟨rfl, trivial⟩, hC⟩
  refine c_condF (congrArg Value.bool b0) ?_
  refine c_sr ?_
  refine pl_val (.slice pa0 pn0 pc0) (y_move rfl) ?_
  refine pl_val (.int .i64 (s_.length : Int)) (y_len' Sl41 (rs_len h0) rfl) ?_
  refine pl_val (.slice pa1 pn1 pc1) (y_move rfl) ?_
  refine pl_val (.int .i64 (t.length : Int)) (y_len' Sl41 (rs_len h1) rfl) ?_
  refine pl_val (.bool (decide ((t.length : Int) < (s_.length : Int)))) (y_gtr rfl rfl) ?_
  refine pl_val (.bool (decide ((t.length : Int) < (s_.length : Int)))) (y_assign rfl) ?_
  refine c_nil ?_
  rcases bif_some hs with ⟨b1, hs⟩ | ⟨b1, hs⟩
  ·refine c_condT (congrArg Value.bool b1) ?_
   refine c_sr ?_
   refine pl_val (.int .i64 1) (y_assign rfl) ?_
   refine c_nil ?_
   refine wp_ret ?_
   cases hs
   exact ⟨_, fr_ovl 48 ⟨rfl, trivial⟩, hC⟩
  refine c_condF (congrArg Value.bool b1) ?_
  refine wp_skip ?_
  refine c_sr ?_
  refine pl_val (.int .i64 0) (y_assign rfl) ?_
  refine c_nil ?_
  refine wp_ret ?_
  cases hs
  exact ⟨_, fr_ovl 48 ⟨rfl, trivial⟩, hC⟩

theorem Bd71 : Bodied Try.prog 71 := bodied Try.func71 (by kernel_rfl) rfl

theorem Bd136 : Bodied Try.prog 136 := bodied Try.func136 (by kernel_rfl) rfl

def k_impl_isRelation (M : Nat → Prop) (w0 : World) (r : Bool) (a : Act) (w : World) : Prop :=
  ∃ (σ : Nat → Value) , a = fr 50 (ovl σ [(4, (.bool r))]) ∧ Chg [] w0 w
def s_impl_isRelation (n : Int) (r_ : Int × (List (List Int))) : Option (Bool) :=
  (bif ((decide (r_.1 < 1)) || (decide (3 < r_.1))) then some false else (forC (S := Unit) (R := Bool) (fun k26 s24 =>
  (idx r_.2 k26).bind fun x30 =>
  (bif ((x30.length : Int) != r_.1) then some (.rt false) else (s_impl_inSize x30 n).bind fun r36 =>
  (bif (!r36) then some (.rt false) else (bif (decide (0 < k26)) then (idx r_.2 (w64 (k26 - 1))).bind fun x39 =>
  (s_impl_compareLists x39 x30).bind fun r44 =>
  (bif (decide (0 ≤ r44)) then some (.rt false) else some (.nx ())) else some (.nx ()))))) 0 (r_.2.length : Int) ()).bind fun o28 => after o28 (fun r_ => some r_) (fun s24 =>
  some true))
set_option maxHeartbeats 4000000 in
theorem c_impl_isRelation {M : Nat → Prop} {w : World} {pa0 : Option Addr} {pn0 pc0 : Nat} (n : Int) (r_ : Int × (List (List Int))) (h0 : (RT.rs (RT.rs (RT.int .i64))).val M w (.slice pa0 pn0 pc0) r_.2 ([])) (hM : ∀ g, w.heap.size ≤ g → M g) {r : Bool} (hs : s_impl_isRelation n r_ = some r) :
    Gives Try.prog 118 [(.int .i64 n), (.agg #[(.int .i64 r_.1), (.slice pa0 pn0 pc0)])] w (fun v w' => v = (.bool r) ∧ Chg [] w w') := by
 refine calls_fr Try.func118 rfl Try.ntmps118 (Nat.le_of_ble_eq_true rfl) ?_
 have hO := Own.start (N := Nw w []) hM Nw.fut
 have hC := Chg.refl [] w
 unfold s_impl_isRelation at hs
 refine wp_mono (Q := KPost (k_impl_isRelation M w r)) ?_ (fun e a c2 h => ?_)
 rotate_left
 ·cases e
  case ret =>
   obtain ⟨σ, rfl, hrest⟩ := h
   exact ret1x Try.results118 (res_tmp rfl) ⟨rfl, hrest⟩
  all_goals exact (h : False).elim
 refine c_sr ?_
 obtain ⟨b5, a3, c3, b9, b6, a1⟩ := new_block w [(.int .i64 r_.1), (.slice pa0 pn0 pc0)] 54
 refine pl_val (w' := b5) (.pointer (some ⟨a3, 0, none⟩)) (y_box rfl (by rw [c3, b9]; kernel_rfl)) ?_
 have h0 := h0.ext b6
 have hC := hC.ext b6
 have hO := hO.new1 b6 b9 a1.lt
 refine pl_val (.bool false) (y_assign rfl) ?_
 refine c_nil ?_
 refine c_seq ?_
 refine c_seq ?_
 refine c_mid (I := fun a c0 => ∃ (σ : Nat → Value), a = fr 50 (ovl σ [(0, (.int .i64 n)), (3, (.pointer (some ⟨a3, 0, none⟩))), (4, (.bool false)), (14, (.bool ((decide (r_.1 < 1)) || (decide (3 < r_.1)))))]) ∧ Chg [] b5 c0) ?_ ?_
 ·have hMid := Chg.refl [] b5
  refine c_region ?_
  refine pl_val (.pointer (some ⟨a3, 0, none⟩)) (y_faddr rfl Fa54x0) ?_
  refine pl_val (.int .i64 r_.1) (y_load rfl ((box_load Ag3 Sz3 a1 [] [(.int .i64 r_.1)] [(.slice pa0 pn0 pc0)] rfl rfl (fun _ => rfl)) _ (Chg.refl _ _))) ?_
  refine pl_val (.bool (decide (r_.1 < 1))) (y_lss rfl rfl) ?_
  refine pl_val (.bool (decide (r_.1 < 1))) (y_move rfl) ?_
  rcases Bool.eq_false_or_eq_true ((decide (r_.1 < 1))) with a5 | a5
  ·skip
   refine pl_not (tg := 10) (by kernel_rfl) (congrArg Value.bool a5) ?_
   refine pl_not (tg := 10) (by kernel_rfl) (congrArg Value.bool a5) ?_
   refine pl_not (tg := 10) (by kernel_rfl) (congrArg Value.bool a5) ?_
   refine pl_val (.bool ((decide (r_.1 < 1)) || (decide (3 < r_.1)))) (y_pick_t (congrArg Value.bool a5) (congrArg Value.bool (by rw [a5]; rfl))) ?_
   refine c_nil ?_
   exact ⟨_, fr_ovl 50 ⟨rfl, rfl, rfl, rfl, trivial⟩, hMid⟩
  refine pl_yes (.pointer (some ⟨a3, 0, none⟩)) (tg := 10) (by kernel_rfl) (congrArg Value.bool a5) (y_faddr rfl Fa54x0) ?_
  refine pl_yes (.int .i64 r_.1) (tg := 10) (by kernel_rfl) (congrArg Value.bool a5) (y_load rfl ((box_load Ag3 Sz3 a1 [] [(.int .i64 r_.1)] [(.slice pa0 pn0 pc0)] rfl rfl (fun _ => rfl)) _ (Chg.refl _ _))) ?_
  refine pl_yes (.bool (decide (3 < r_.1))) (tg := 10) (by kernel_rfl) (congrArg Value.bool a5) (y_gtr rfl rfl) ?_
  refine pl_val (.bool ((decide (r_.1 < 1)) || (decide (3 < r_.1)))) (y_pick_f (congrArg Value.bool a5) (congrArg Value.bool (by rw [a5]; rfl))) ?_
  refine c_nil ?_
  exact ⟨_, fr_ovl 50 ⟨rfl, rfl, rfl, rfl, trivial⟩, hMid⟩
 rintro c1 c0 ⟨σ, rfl, b3⟩
 have h0 := h0.ext b3
 have a1 := a1.cn b3
 have hC := hC.ext b3
 have hO := hO.ext b3
 rcases bif_some hs with ⟨b7, hs⟩ | ⟨b7, hs⟩
 ·refine c_condT (congrArg Value.bool b7) ?_
  refine c_sr ?_
  refine pl_val (.bool false) (y_assign rfl) ?_
  refine c_nil ?_
  refine wp_ret ?_
  cases hs
  exact ⟨_, fr_ovl 50 ⟨rfl, trivial⟩, hC⟩
 refine c_condF (congrArg Value.bool b7) ?_
 refine wp_skip ?_
 refine c_seq ?_
 refine c_sr ?_
 refine pl_val (.pointer (some ⟨a3, 1, none⟩)) (y_faddr rfl Fa54x1) ?_
 refine pl_val (.slice pa0 pn0 pc0) (y_load rfl ((box_load Ag47 Sz47 a1 [(.int .i64 r_.1)] [(.slice pa0 pn0 pc0)] [] rfl rfl (fun _ => rfl)) _ (Chg.refl _ _))) ?_
 refine pl_val (.int .i64 (r_.2.length : Int)) (y_len' Sl47 (rs_len h0) rfl) ?_
 refine pl_val (.int .i64 0) (y_move rfl) ?_
 refine c_nil ?_
 obtain ⟨o28, c4, hs⟩ := bind_some hs
 refine wp_block ?_
 refine wp_forC (id := 0) (r_.2.length : Int) (I := fun k26 s24 a a4 => ∃ (σ : Nat → Value), a = fr 50 (ovl σ [(0, (.int .i64 n)), (3, (.pointer (some ⟨a3, 0, none⟩))), (16, (.slice pa0 pn0 pc0)), (17, (.int .i64 (r_.2.length : Int))), (18, (.int .i64 k26))]) ∧ Chg [] w a4 ∧ Own (Nw w []) M a4 (([a3]) ++ []) ∧ (RT.rs (RT.rs (RT.int .i64))).val M a4 (.slice pa0 pn0 pc0) r_.2 ([]) ∧ BoxV a4 a3 54 [(.int .i64 r_.1), (.slice pa0 pn0 pc0)]) (J := fun s24 a a4 => ∃ (σ : Nat → Value), a = fr 50 (ovl σ []) ∧ Chg [] w a4 ∧ Own (Nw w []) M a4 (([a3]) ++ []) ∧ (RT.rs (RT.rs (RT.int .i64))).val M a4 (.slice pa0 pn0 pc0) r_.2 ([]) ∧ BoxV a4 a3 54 [(.int .i64 r_.1), (.slice pa0 pn0 pc0)]) (K := (k_impl_isRelation M w)) ?_ ?_ 0 () o28 _ _ ?_ c4 ?_
 ·rintro k26 s24 a a4 ⟨σ, rfl, hC, hO, h0, a1⟩ hlt
  refine c_sr ?_
  refine pl_val (.bool (decide (k26 < (r_.2.length : Int)))) (y_lss rfl rfl) ?_
  refine c_nil ?_
  refine c_seq ?_
  refine c_condF (congrArg Value.bool (decide_eq_false hlt)) ?_
  refine wp_exit ?_
  exact ⟨rfl, _, fr_ovl 50 trivial, hC, hO, h0, a1⟩
 ·rintro k26 s24 o28 a a4 ⟨σ, rfl, hC, hO, h0, a1⟩ hlt hw hs
  refine c_sr ?_
  refine pl_val (.bool (decide (k26 < (r_.2.length : Int)))) (y_lss rfl rfl) ?_
  refine c_nil ?_
  refine c_seq ?_
  refine c_condT (congrArg Value.bool (decide_eq_true hlt)) ?_
  refine wp_skip ?_
  refine c_seq ?_
  refine wp_block ?_
  refine c_sr ?_
  refine pl_val (.int .i64 k26) (y_move rfl) ?_
  obtain ⟨x30, c5, hs⟩ := bind_some hs
  obtain ⟨c6, c7, c8, c9⟩ := rs_idx Sl47 Sz41 h0 c5
  refine pl_val (.pointer (some ⟨c6, c7, none⟩)) (c8 _ _ _ _ _ _ _ _ _ rfl rfl) ?_
  obtain ⟨e2, d0, a7⟩ := at_load Ag41 Sz41 (fun _ => rfl) c9
  obtain ⟨a9, b0, b1, rfl⟩ := rs_sl a7
  refine pl_val (.slice a9 b0 b1) (y_load rfl (d0 _ (Chg.refl _ _))) ?_
  refine pl_val (.int .i64 k26) (y_assign rfl) ?_
  refine pl_val (.slice a9 b0 b1) (y_assign rfl) ?_
  refine c_nil ?_
  refine c_sr ?_
  refine pl_val (.slice a9 b0 b1) (y_move rfl) ?_
  refine pl_val (.int .i64 (x30.length : Int)) (y_len' Sl41 (rs_len a7) rfl) ?_
  refine pl_val (.pointer (some ⟨a3, 0, none⟩)) (y_faddr rfl Fa54x0) ?_
  refine pl_val (.int .i64 r_.1) (y_load rfl ((box_load Ag3 Sz3 a1 [] [(.int .i64 r_.1)] [(.slice pa0 pn0 pc0)] rfl rfl (fun _ => rfl)) _ (Chg.refl _ _))) ?_
  refine pl_val (.bool ((x30.length : Int) != r_.1)) (y_neq rfl rfl) ?_
  refine pl_val (.bool ((x30.length : Int) != r_.1)) (y_move rfl) ?_
  rcases bif_some hs with ⟨a6, hs⟩ | ⟨a6, hs⟩
  ·skip
   refine pl_not (tg := 28) (by kernel_rfl) (congrArg Value.bool a6) ?_
   refine pl_not (tg := 28) (by kernel_rfl) (congrArg Value.bool a6) ?_
   refine pl_not (tg := 28) (by kernel_rfl) (congrArg Value.bool a6) ?_
   refine pl_not (tg := 28) (by kernel_rfl) (congrArg Value.bool a6) ?_
   refine pl_val (.bool true) (y_pick_t (congrArg Value.bool a6) rfl) ?_
   refine pl_val (.bool true) (y_move rfl) ?_
   refine pl_not (tg := 34) (by kernel_rfl) (by rfl) ?_
   refine pl_not (tg := 34) (by kernel_rfl) (by rfl) ?_
   refine pl_not (tg := 34) (by kernel_rfl) (by rfl) ?_
   refine pl_nou (tg := 37) (by kernel_rfl) rfl ?_
   refine pl_nou (tg := 37) (by kernel_rfl) rfl ?_
   refine pl_nou (tg := 37) (by kernel_rfl) rfl ?_
   refine pl_nou (tg := 37) (by kernel_rfl) rfl ?_
   refine pl_nou (tg := 37) (by kernel_rfl) rfl ?_
   refine pl_nou (tg := 37) (by kernel_rfl) rfl ?_
   refine pl_nou (tg := 37) (by kernel_rfl) rfl ?_
   refine pl_nou (tg := 37) (by kernel_rfl) rfl ?_
   refine pl_nou (tg := 37) (by kernel_rfl) rfl ?_
   refine pl_not (tg := 34) (by kernel_rfl) (by rfl) ?_
   refine pl_val (.bool true) (y_pick_t (by rfl) rfl) ?_
   refine c_nil ?_
   refine c_condT (by rfl) ?_
   refine c_sr ?_
   refine pl_val (.bool false) (y_assign rfl) ?_
   refine c_nil ?_
   refine wp_ret ?_
   cases hs
   exact ⟨_, fr_ovl 50 ⟨rfl, trivial⟩, hC⟩
  refine pl_yes (.slice a9 b0 b1) (tg := 28) (by kernel_rfl) (congrArg Value.bool a6) (y_move rfl) ?_
  refine pl_yes (.int .i64 n) (tg := 28) (by kernel_rfl) (congrArg Value.bool a6) (y_move rfl) ?_
  obtain ⟨r36, d1, hs⟩ := bind_some hs
  refine pl_cally (tg := 28) (by kernel_rfl) (congrArg Value.bool a6) Bd71 rfl (c_impl_inSize (M := M) x30 n a7 hO.fut d1) ?_
  rintro _ e3 ⟨rfl, b2⟩
  have h0 := h0.ext b2
  have a1 := a1.cn b2
  have a7 := a7.ext b2
  have hC := hC.ext b2
  have hO := hO.ext b2
  refine pl_yes (.bool (!r36)) (tg := 28) (by kernel_rfl) (congrArg Value.bool a6) (y_not rfl) ?_
  refine pl_val (.bool (!r36)) (y_pick_f (congrArg Value.bool a6) rfl) ?_
  refine pl_val (.bool (!r36)) (y_move rfl) ?_
  rcases bif_some hs with ⟨a2, hs⟩ | ⟨a2, hs⟩
  ·skip
   refine pl_not (tg := 34) (by kernel_rfl) (congrArg Value.bool a2) ?_
   refine pl_not (tg := 34) (by kernel_rfl) (congrArg Value.bool a2) ?_
   refine pl_not (tg := 34) (by kernel_rfl) (congrArg Value.bool a2) ?_
   refine pl_nou (tg := 37) (by kernel_rfl) rfl ?_
   refine pl_nou (tg := 37) (by kernel_rfl) rfl ?_
   refine pl_nou (tg := 37) (by kernel_rfl) rfl ?_
   refine pl_nou (tg := 37) (by kernel_rfl) rfl ?_
   refine pl_nou (tg := 37) (by kernel_rfl) rfl ?_
   refine pl_nou (tg := 37) (by kernel_rfl) rfl ?_
   refine pl_nou (tg := 37) (by kernel_rfl) rfl ?_
   refine pl_nou (tg := 37) (by kernel_rfl) rfl ?_
   refine pl_nou (tg := 37) (by kernel_rfl) rfl ?_
   refine pl_not (tg := 34) (by kernel_rfl) (congrArg Value.bool a2) ?_
   refine pl_val (.bool true) (y_pick_t (congrArg Value.bool a2) rfl) ?_
   refine c_nil ?_
   refine c_condT (by rfl) ?_
   refine c_sr ?_
   refine pl_val (.bool false) (y_assign rfl) ?_
   refine c_nil ?_
   refine wp_ret ?_
   cases hs
   exact ⟨_, fr_ovl 50 ⟨rfl, trivial⟩, hC⟩
  refine pl_yes (.int .i64 k26) (tg := 34) (by kernel_rfl) (congrArg Value.bool a2) (y_move rfl) ?_
  refine pl_yes (.bool (decide (0 < k26))) (tg := 34) (by kernel_rfl) (congrArg Value.bool a2) (y_gtr rfl rfl) ?_
  refine pl_yes (.bool (decide (0 < k26))) (tg := 34) (by kernel_rfl) (congrArg Value.bool a2) (y_move rfl) ?_
  rcases bif_some hs with ⟨a0, hs⟩ | ⟨a0, hs⟩
  ·skip
   refine pl_yes (.pointer (some ⟨a3, 1, none⟩)) (tg := 37) (by kernel_rfl) (congrArg Value.bool a0) (y_faddr rfl Fa54x1) ?_
   refine pl_yes (.slice pa0 pn0 pc0) (tg := 37) (by kernel_rfl) (congrArg Value.bool a0) (y_load rfl ((box_load Ag47 Sz47 a1 [(.int .i64 r_.1)] [(.slice pa0 pn0 pc0)] [] rfl rfl (fun _ => rfl)) _ (Chg.refl _ _))) ?_
   refine pl_yes (.int .i64 k26) (tg := 37) (by kernel_rfl) (congrArg Value.bool a0) (y_move rfl) ?_
   refine pl_yes (.int .i64 (w64 (k26 - 1))) (tg := 37) (by kernel_rfl) (congrArg Value.bool a0) (y_sub rfl rfl) ?_
   obtain ⟨x39, d2, hs⟩ := bind_some hs
   obtain ⟨d3, d4, d5, d6⟩ := rs_idx Sl47 Sz41 h0 d2
   refine pl_yes (.pointer (some ⟨d3, d4, none⟩)) (tg := 37) (by kernel_rfl) (congrArg Value.bool a0) (d5 _ _ _ _ _ _ _ _ _ rfl rfl) ?_
   obtain ⟨e4, d7, b4⟩ := at_load Ag41 Sz41 (fun _ => rfl) d6
   obtain ⟨d8, d9, e0, rfl⟩ := rs_sl b4
   refine pl_yes (.slice d8 d9 e0) (tg := 37) (by kernel_rfl) (congrArg Value.bool a0) (y_load rfl (d7 _ (Chg.refl _ _))) ?_
   refine pl_yes (.slice a9 b0 b1) (tg := 37) (by kernel_rfl) (congrArg Value.bool a0) (y_move rfl) ?_
   obtain ⟨r44, e1, hs⟩ := bind_some hs
   refine pl_cally (tg := 37) (by kernel_rfl) (congrArg Value.bool a0) Bd136 rfl (c_impl_compareLists (M := M) x39 x30 b4 a7 hO.fut e1) ?_
   rintro _ e5 ⟨rfl, a8⟩
   have h0 := h0.ext a8
   have a1 := a1.cn a8
   have a7 := a7.ext a8
   have b4 := b4.ext a8
   have hC := hC.ext a8
   have hO := hO.ext a8
   refine pl_yes (.bool (decide (0 ≤ r44))) (tg := 37) (by kernel_rfl) (congrArg Value.bool a0) (y_geq rfl rfl) ?_
   refine pl_yes (.bool (decide (0 ≤ r44))) (tg := 34) (by kernel_rfl) (congrArg Value.bool a2) (y_pick_t (congrArg Value.bool a0) rfl) ?_
   refine pl_val (.bool (decide (0 ≤ r44))) (y_pick_f (congrArg Value.bool a2) rfl) ?_
   refine c_nil ?_
   rcases bif_some hs with ⟨b8, hs⟩ | ⟨b8, hs⟩
   ·refine c_condT (congrArg Value.bool b8) ?_
    refine c_sr ?_
    refine pl_val (.bool false) (y_assign rfl) ?_
    refine c_nil ?_
    refine wp_ret ?_
    cases hs
    exact ⟨_, fr_ovl 50 ⟨rfl, trivial⟩, hC⟩
   refine c_condF (congrArg Value.bool b8) ?_
   refine wp_skip ?_
   refine c_region ?_
   refine pl_val (.int .i64 (w64 (k26 + 1))) (y_add rfl rfl) ?_
   refine pl_val (.int .i64 (w64 (k26 + 1))) (y_move rfl) ?_
   refine c_nil ?_
   cases hs
   exact ⟨_, fr_ovl 50 ⟨rfl, rfl, rfl, rfl, congrArg (Value.int .i64) hw, trivial⟩, hC, hO, h0, a1⟩
  refine pl_not (tg := 37) (by kernel_rfl) (congrArg Value.bool a0) ?_
  refine pl_not (tg := 37) (by kernel_rfl) (congrArg Value.bool a0) ?_
  refine pl_not (tg := 37) (by kernel_rfl) (congrArg Value.bool a0) ?_
  refine pl_not (tg := 37) (by kernel_rfl) (congrArg Value.bool a0) ?_
  refine pl_not (tg := 37) (by kernel_rfl) (congrArg Value.bool a0) ?_
  refine pl_not (tg := 37) (by kernel_rfl) (congrArg Value.bool a0) ?_
  refine pl_not (tg := 37) (by kernel_rfl) (congrArg Value.bool a0) ?_
  refine pl_not (tg := 37) (by kernel_rfl) (congrArg Value.bool a0) ?_
  refine pl_not (tg := 37) (by kernel_rfl) (congrArg Value.bool a0) ?_
  refine pl_yes (.bool false) (tg := 34) (by kernel_rfl) (congrArg Value.bool a2) (y_pick_f (congrArg Value.bool a0) rfl) ?_
  refine pl_val (.bool false) (y_pick_f (congrArg Value.bool a2) rfl) ?_
  refine c_nil ?_
  refine c_condF (by rfl) ?_
  refine wp_skip ?_
  refine c_region ?_
  refine pl_val (.int .i64 (w64 (k26 + 1))) (y_add rfl rfl) ?_
  refine pl_val (.int .i64 (w64 (k26 + 1))) (y_move rfl) ?_
  refine c_nil ?_
  cases hs
  exact ⟨_, fr_ovl 50 ⟨rfl, rfl, rfl, rfl, congrArg (Value.int .i64) hw, trivial⟩, hC, hO, h0, a1⟩
 ·skip
  exact ⟨_, fr_ovl 50 ⟨rfl, rfl, rfl, rfl, rfl, trivial⟩, hC, hO, h0, a1⟩
 cases o28 with
 | nx _ => exact True.intro
 | rt r_ =>
  have hs := after_rt hs
  intro c1 c2 hK
  cases hs
  exact hK
 | br s24 =>
  have hs := after_br hs
  rintro c1 a4 ⟨σ, rfl, hC, hO, h0, a1⟩
  refine c_sr ?_
  refine pl_val (.bool true) (y_assign rfl) ?_
  refine c_nil ?_
  refine wp_ret ?_
  cases hs
  exact ⟨_, fr_ovl 50 ⟨rfl, trivial⟩, hC⟩

theorem Bd118 : Bodied Try.prog 118 := bodied Try.func118 (by kernel_rfl) rfl

def k_impl_isTemplate (M : Nat → Prop) (w0 : World) (r : Bool) (a : Act) (w : World) : Prop :=
  ∃ (σ : Nat → Value) , a = fr 21 (ovl σ [(4, (.bool r))]) ∧ Chg [] w0 w
def s_impl_isTemplate (n : Int) (rels : List (Int × (List (List Int)))) : Option (Bool) :=
  (bif (decide (4 < (rels.length : Int))) then some false else (forR (S := Unit) (R := Bool) (fun _ x14 s11 =>
  (s_impl_isRelation n (x14.1, x14.2)).bind fun r23 =>
  (bif (!r23) then some (.rt false) else some (.nx ()))) 0 rels ()).bind fun o15 => after o15 (fun r_ => some r_) (fun s11 =>
  some true))
set_option maxHeartbeats 4000000 in
theorem c_impl_isTemplate {M : Nat → Prop} {w : World} {pa0 : Option Addr} {pn0 pc0 : Nat} (n : Int) (rels : List (Int × (List (List Int)))) (h0 : (RT.rs (RT.pr (RT.int .i64) (RT.rs (RT.rs (RT.int .i64))))).val M w (.slice pa0 pn0 pc0) rels ([])) (hM : ∀ g, w.heap.size ≤ g → M g) {r : Bool} (hs : s_impl_isTemplate n rels = some r) :
    Gives Try.prog 110 [(.int .i64 n), (.slice pa0 pn0 pc0)] w (fun v w' => v = (.bool r) ∧ Chg [] w w') := by
 refine calls_fr Try.func110 rfl Try.ntmps110 (Nat.le_of_ble_eq_true rfl) ?_
 have hO := Own.start (N := Nw w []) hM Nw.fut
 have hC := Chg.refl [] w
 unfold s_impl_isTemplate at hs
 refine wp_mono (Q := KPost (k_impl_isTemplate M w r)) ?_ (fun e a b6 h => ?_)
 rotate_left
 ·cases e
  case ret =>
   obtain ⟨σ, rfl, hrest⟩ := h
   exact ret1x Try.results110 (res_tmp rfl) ⟨rfl, hrest⟩
  all_goals exact (h : False).elim
 refine c_sr ?_
 refine pl_val (.bool false) (y_assign rfl) ?_
 refine c_nil ?_
 refine c_seq ?_
 refine c_sr ?_
 refine pl_val (.slice pa0 pn0 pc0) (y_move rfl) ?_
 refine pl_val (.int .i64 (rels.length : Int)) (y_len' Sl37 (rs_len h0) rfl) ?_
 refine pl_val (.bool (decide (4 < (rels.length : Int)))) (y_gtr rfl rfl) ?_
 refine c_nil ?_
 rcases bif_some hs with ⟨b0, hs⟩ | ⟨b0, hs⟩
 ·refine c_condT (congrArg Value.bool b0) ?_
  refine c_sr ?_
  refine pl_val (.bool false) (y_assign rfl) ?_
  refine c_nil ?_
  refine wp_ret ?_
  cases hs
  exact ⟨_, fr_ovl 21 ⟨rfl, trivial⟩, hC⟩
 refine c_condF (congrArg Value.bool b0) ?_
 refine wp_skip ?_
 refine c_seq ?_
 refine c_sr ?_
 refine pl_val (.slice pa0 pn0 pc0) (y_move rfl) ?_
 refine pl_val (.int .i64 (rels.length : Int)) (y_len' Sl37 (rs_len h0) rfl) ?_
 refine pl_val (.int .i64 0) (y_move rfl) ?_
 refine c_nil ?_
 obtain ⟨o15, b7, hs⟩ := bind_some hs
 refine wp_block ?_
 refine wp_forR (id := 0) (I := fun i_ xs_ s11 a a0 => ∃ a1 : Nat, i_ = (a1 : Int) ∧ List.drop a1 rels = xs_ ∧ (∃ (σ : Nat → Value), a = fr 21 (ovl σ [(0, (.int .i64 n)), (10, (.slice pa0 pn0 pc0)), (11, (.int .i64 (rels.length : Int))), (12, (.int .i64 (a1 : Int)))]) ∧ Chg [] w a0 ∧ Own (Nw w []) M a0 ([]) ∧ (RT.rs (RT.pr (RT.int .i64) (RT.rs (RT.rs (RT.int .i64))))).val M a0 (.slice pa0 pn0 pc0) rels ([]))) (J := fun s11 a a0 => ∃ (σ : Nat → Value), a = fr 21 (ovl σ []) ∧ Chg [] w a0 ∧ Own (Nw w []) M a0 ([]) ∧ (RT.rs (RT.pr (RT.int .i64) (RT.rs (RT.rs (RT.int .i64))))).val M a0 (.slice pa0 pn0 pc0) rels ([])) (K := (k_impl_isTemplate M w)) ?_ ?_ rels 0 () o15 _ _ ?_ b7 ?_
 ·rintro _ s11 a a0 ⟨a1, rfl, hd, σ, rfl, hC, hO, h0⟩
  have hlt := drop_nil_ge hd
  refine c_sr ?_
  refine pl_val (.bool (decide ((a1 : Int) < (rels.length : Int)))) (y_lss rfl rfl) ?_
  refine c_nil ?_
  refine c_seq ?_
  refine c_condF (congrArg Value.bool (decide_eq_false hlt)) ?_
  refine wp_exit ?_
  exact ⟨rfl, _, fr_ovl 21 trivial, hC, hO, h0⟩
 ·rintro _ x14 xs_ s11 o15 a a0 ⟨a1, rfl, hd, σ, rfl, hC, hO, h0⟩ hs
  have hlt := drop_cons_lt hd
  have b8 := drop_cons_idx hd
  refine c_sr ?_
  refine pl_val (.bool (decide ((a1 : Int) < (rels.length : Int)))) (y_lss rfl rfl) ?_
  refine c_nil ?_
  refine c_seq ?_
  refine c_condT (congrArg Value.bool (decide_eq_true hlt)) ?_
  refine wp_skip ?_
  refine c_seq ?_
  refine wp_block ?_
  refine c_sr ?_
  obtain ⟨b9, c0, c1, c2⟩ := rs_idx Sl37 Sz54 h0 b8
  refine pl_val (.pointer (some ⟨b9, c0, none⟩)) (c1 _ _ _ _ _ _ _ _ _ rfl rfl) ?_
  obtain ⟨d3, c3, c4⟩ := at_load Ag54 Sz54 (by intro h; cases h) c2
  obtain ⟨d4, rfl, c5⟩ := c4
  obtain ⟨d5, d6, rfl, c6, c7⟩ := pr_open c5
  obtain rfl := int_rel c6
  obtain ⟨a3, a4, a5, rfl, a2⟩ := rs_rel c7
  refine pl_val (.agg #[(.int .i64 x14.1), (.slice a3 a4 a5)]) (y_load rfl (c3 _ (Chg.refl _ _))) ?_
  obtain ⟨c8, b2, c9, b3, a8, b4⟩ := new_block a0 [(.int .i64 0), (.slice none 0 0)] 54
  refine pl_val (w' := c8) (.pointer (some ⟨b2, 0, none⟩)) (y_alloc (by rw [c9, b3]; kernel_rfl)) ?_
  have h0 := h0.ext a8
  have a2 := a2.ext a8
  have hC := hC.ext a8
  have hO := hO.new1 a8 b3 b4.lt
  obtain ⟨b5, d0, a9, a6⟩ := box_store (P := Try.prog) b4 [] [(.int .i64 0), (.slice none 0 0)] [] [(.int .i64 x14.1), (.slice a3 a4 a5)] rfl rfl (by intro u hu; simp only [List.mem_cons, List.not_mem_nil, or_false] at hu; rcases hu with rfl | rfl <;> rfl)
  refine pl_skip (w' := b5) (ys_store rfl rfl (d0 _ _ rfl Sz54)) ?_
  have h0 := h0.mt a9 hO same_
  have a2 := a2.mt a9 hO same_
  have hC := hC.st a9 hO same_
  have hO := hO.ext a9
  have a6 : BoxV b5 b2 54 [(.int .i64 x14.1), (.slice a3 a4 a5)] := a6
  refine c_nil ?_
  refine c_sr ?_
  refine pl_val (.int .i64 n) (y_move rfl) ?_
  refine pl_val (.agg #[(.int .i64 x14.1), (.slice a3 a4 a5)]) (y_load rfl ((box_load Ag54 Sz54 a6 [] [(.int .i64 x14.1), (.slice a3 a4 a5)] [] rfl rfl (fun h => nomatch h)) _ (Chg.refl _ _))) ?_
  obtain ⟨r23, d1, hs⟩ := bind_some hs
  refine pl_call Bd118 rfl (c_impl_isRelation (M := M) n (x14.1, x14.2) a2 hO.fut d1) ?_
  rintro _ d7 ⟨rfl, a7⟩
  have h0 := h0.ext a7
  have a2 := a2.ext a7
  have a6 := a6.cn a7
  have hC := hC.ext a7
  have hO := hO.ext a7
  refine pl_val (.bool (!r23)) (y_not rfl) ?_
  refine c_nil ?_
  rcases bif_some hs with ⟨b1, hs⟩ | ⟨b1, hs⟩
  ·refine c_condT (congrArg Value.bool b1) ?_
   refine c_sr ?_
   refine pl_val (.bool false) (y_assign rfl) ?_
   refine c_nil ?_
   refine wp_ret ?_
   cases hs
   exact ⟨_, fr_ovl 21 ⟨rfl, trivial⟩, hC⟩
  refine c_condF (congrArg Value.bool b1) ?_
  refine wp_skip ?_
  refine c_region ?_
  refine pl_val (.int .i64 (w64 ((a1 : Int) + 1))) (y_add rfl rfl) ?_
  refine pl_val (.int .i64 (w64 ((a1 : Int) + 1))) (y_move rfl) ?_
  refine c_nil ?_
  cases hs
  have hO := hO.drop
  exact ⟨_, rfl, drop_cons_next hd, _, fr_ovl 21 ⟨rfl, rfl, rfl, congrArg (Value.int .i64) (w64_succ hlt (Int.natCast_nonneg _) (rs_max h0)), trivial⟩, hC, hO, h0⟩
 ·skip
  exact ⟨0, rfl, rfl, _, fr_ovl 21 ⟨rfl, rfl, rfl, rfl, trivial⟩, hC, hO, h0⟩
 cases o15 with
 | nx _ => exact True.intro
 | rt r_ =>
  have hs := after_rt hs
  intro d2 b6 hK
  cases hs
  exact hK
 | br s11 =>
  have hs := after_br hs
  rintro d2 a0 ⟨σ, rfl, hC, hO, h0⟩
  refine c_sr ?_
  refine pl_val (.bool true) (y_assign rfl) ?_
  refine c_nil ?_
  refine wp_ret ?_
  cases hs
  exact ⟨_, fr_ovl 21 ⟨rfl, trivial⟩, hC⟩

theorem Bd103 : Bodied Try.prog 103 := bodied Try.func103 (by kernel_rfl) rfl

theorem Bd110 : Bodied Try.prog 110 := bodied Try.func110 (by kernel_rfl) rfl

def k_impl_canAsk (M : Nat → Prop) (w0 : World) (r : Bool) (a : Act) (w : World) : Prop :=
  ∃ (σ : Nat → Value) , a = fr 33 (ovl σ [(6, (.bool r))]) ∧ Chg [] w0 w
def s_impl_canAsk (n : Int) (rels : List (Int × (List (List Int)))) (k : Int) : Option (Bool) :=
  ((s_impl_isTemplateSize n).bind fun r6 =>
  (bif (!r6) then some true else (s_impl_isTemplate n rels).bind fun r9 =>
  some (!r9))).bind fun s2 =>
  (bif s2 then some false else (forR (S := Unit) (R := Bool) (fun _ x21 s18 =>
  (bif (k == 3) then (bif (decide (12 < (x21.2.length : Int))) then some (.rt false) else some (.nx ())) else some (.nx ()))) 0 rels ()).bind fun o22 => after o22 (fun r_ => some r_) (fun s18 =>
  some true))
set_option maxHeartbeats 4000000 in
theorem c_impl_canAsk {M : Nat → Prop} {w : World} {pa0 : Option Addr} {pn0 pc0 : Nat} (n : Int) (rels : List (Int × (List (List Int)))) (k : Int) (h0 : (RT.rs (RT.pr (RT.int .i64) (RT.rs (RT.rs (RT.int .i64))))).val M w (.slice pa0 pn0 pc0) rels ([])) (hM : ∀ g, w.heap.size ≤ g → M g) {r : Bool} (hs : s_impl_canAsk n rels k = some r) :
    Gives Try.prog 60 [(.int .i64 n), (.slice pa0 pn0 pc0), (.int .i64 k)] w (fun v w' => v = (.bool r) ∧ Chg [] w w') := by
 refine calls_fr Try.func60 rfl Try.ntmps60 (Nat.le_of_ble_eq_true rfl) ?_
 have hO := Own.start (N := Nw w []) hM Nw.fut
 have hC := Chg.refl [] w
 unfold s_impl_canAsk at hs
 refine wp_mono (Q := KPost (k_impl_canAsk M w r)) ?_ (fun e a c2 h => ?_)
 rotate_left
 ·cases e
  case ret =>
   obtain ⟨σ, rfl, hrest⟩ := h
   exact ret1x Try.results60 (res_tmp rfl) ⟨rfl, hrest⟩
  all_goals exact (h : False).elim
 refine c_sr ?_
 refine pl_val (.bool false) (y_assign rfl) ?_
 refine c_nil ?_
 refine c_seq ?_
 refine c_seq ?_
 obtain ⟨s2, c3, hs⟩ := bind_some hs
 refine c_mid (I := fun a b7 => ∃ (σ : Nat → Value), a = fr 33 (ovl σ [(1, (.slice pa0 pn0 pc0)), (2, (.int .i64 k)), (6, (.bool false)), (17, (.bool s2))]) ∧ Chg [] w b7) ?_ ?_
 ·replace hs := c3
  have hMid := Chg.refl [] w
  refine c_region ?_
  refine pl_val (.int .i64 n) (y_move rfl) ?_
  obtain ⟨r6, c4, hs⟩ := bind_some hs
  refine pl_call Bd103 rfl (c_impl_isTemplateSize (M := M) n  hO.fut c4) ?_
  rintro _ e0 ⟨rfl, a8⟩
  have h0 := h0.ext a8
  have hMid := hMid.ext a8
  have hC := hC.ext a8
  have hO := hO.ext a8
  refine pl_val (.bool (!r6)) (y_not rfl) ?_
  refine pl_val (.bool (!r6)) (y_move rfl) ?_
  rcases bif_some hs with ⟨a0, hs⟩ | ⟨a0, hs⟩
  ·skip
   refine pl_not (tg := 12) (by kernel_rfl) (congrArg Value.bool a0) ?_
   refine pl_not (tg := 12) (by kernel_rfl) (congrArg Value.bool a0) ?_
   refine pl_not (tg := 12) (by kernel_rfl) (congrArg Value.bool a0) ?_
   refine pl_not (tg := 12) (by kernel_rfl) (congrArg Value.bool a0) ?_
   refine pl_val (.bool true) (y_pick_t (congrArg Value.bool a0) rfl) ?_
   refine c_nil ?_
   cases hs
   exact ⟨_, fr_ovl 33 ⟨rfl, rfl, rfl, rfl, trivial⟩, hMid⟩
  refine pl_yes (.int .i64 n) (tg := 12) (by kernel_rfl) (congrArg Value.bool a0) (y_move rfl) ?_
  refine pl_yes (.slice pa0 pn0 pc0) (tg := 12) (by kernel_rfl) (congrArg Value.bool a0) (y_move rfl) ?_
  obtain ⟨r9, c5, hs⟩ := bind_some hs
  refine pl_cally (tg := 12) (by kernel_rfl) (congrArg Value.bool a0) Bd110 rfl (c_impl_isTemplate (M := M) n rels h0 hO.fut c5) ?_
  rintro _ e1 ⟨rfl, a9⟩
  have h0 := h0.ext a9
  have hMid := hMid.ext a9
  have hC := hC.ext a9
  have hO := hO.ext a9
  refine pl_yes (.bool (!r9)) (tg := 12) (by kernel_rfl) (congrArg Value.bool a0) (y_not rfl) ?_
  refine pl_val (.bool (!r9)) (y_pick_f (congrArg Value.bool a0) rfl) ?_
  refine c_nil ?_
  cases hs
  exact ⟨_, fr_ovl 33 ⟨rfl, rfl, rfl, rfl, trivial⟩, hMid⟩
 rintro b8 b7 ⟨σ, rfl, b2⟩
 have h0 := h0.ext b2
 have hC := hC.ext b2
 have hO := hO.ext b2
 rcases bif_some hs with ⟨b3, hs⟩ | ⟨b3, hs⟩
 ·refine c_condT (congrArg Value.bool b3) ?_
  refine c_sr ?_
  refine pl_val (.bool false) (y_assign rfl) ?_
  refine c_nil ?_
  refine wp_ret ?_
  cases hs
  exact ⟨_, fr_ovl 33 ⟨rfl, trivial⟩, hC⟩
 refine c_condF (congrArg Value.bool b3) ?_
 refine wp_skip ?_
 refine c_seq ?_
 refine c_sr ?_
 refine pl_val (.slice pa0 pn0 pc0) (y_move rfl) ?_
 refine pl_val (.int .i64 (rels.length : Int)) (y_len' Sl37 (rs_len h0) rfl) ?_
 refine pl_val (.int .i64 0) (y_move rfl) ?_
 refine c_nil ?_
 obtain ⟨o22, c6, hs⟩ := bind_some hs
 refine wp_block ?_
 refine wp_forR (id := 0) (I := fun i_ xs_ s18 a a1 => ∃ a2 : Nat, i_ = (a2 : Int) ∧ List.drop a2 rels = xs_ ∧ (∃ (σ : Nat → Value), a = fr 33 (ovl σ [(2, (.int .i64 k)), (18, (.slice pa0 pn0 pc0)), (19, (.int .i64 (rels.length : Int))), (20, (.int .i64 (a2 : Int)))]) ∧ Chg [] w a1 ∧ Own (Nw w []) M a1 ([]) ∧ (RT.rs (RT.pr (RT.int .i64) (RT.rs (RT.rs (RT.int .i64))))).val M a1 (.slice pa0 pn0 pc0) rels ([]))) (J := fun s18 a a1 => ∃ (σ : Nat → Value), a = fr 33 (ovl σ []) ∧ Chg [] w a1 ∧ Own (Nw w []) M a1 ([]) ∧ (RT.rs (RT.pr (RT.int .i64) (RT.rs (RT.rs (RT.int .i64))))).val M a1 (.slice pa0 pn0 pc0) rels ([])) (K := (k_impl_canAsk M w)) ?_ ?_ rels 0 () o22 _ _ ?_ c6 ?_
 ·rintro _ s18 a a1 ⟨a2, rfl, hd, σ, rfl, hC, hO, h0⟩
  have hlt := drop_nil_ge hd
  refine c_sr ?_
  refine pl_val (.bool (decide ((a2 : Int) < (rels.length : Int)))) (y_lss rfl rfl) ?_
  refine c_nil ?_
  refine c_seq ?_
  refine c_condF (congrArg Value.bool (decide_eq_false hlt)) ?_
  refine wp_exit ?_
  exact ⟨rfl, _, fr_ovl 33 trivial, hC, hO, h0⟩
 ·rintro _ x21 xs_ s18 o22 a a1 ⟨a2, rfl, hd, σ, rfl, hC, hO, h0⟩ hs
  have hlt := drop_cons_lt hd
  have c7 := drop_cons_idx hd
  refine c_sr ?_
  refine pl_val (.bool (decide ((a2 : Int) < (rels.length : Int)))) (y_lss rfl rfl) ?_
  refine c_nil ?_
  refine c_seq ?_
  refine c_condT (congrArg Value.bool (decide_eq_true hlt)) ?_
  refine wp_skip ?_
  refine c_seq ?_
  refine wp_block ?_
  refine c_sr ?_
  obtain ⟨c8, c9, d0, d1⟩ := rs_idx Sl37 Sz54 h0 c7
  refine pl_val (.pointer (some ⟨c8, c9, none⟩)) (d0 _ _ _ _ _ _ _ _ _ rfl rfl) ?_
  obtain ⟨e2, d2, d3⟩ := at_load Ag54 Sz54 (by intro h; cases h) d1
  obtain ⟨e3, rfl, d4⟩ := d3
  obtain ⟨e4, e5, rfl, d5, d6⟩ := pr_open d4
  obtain rfl := int_rel d5
  obtain ⟨a4, a5, a6, rfl, a7⟩ := rs_rel d6
  refine pl_val (.agg #[(.int .i64 x21.1), (.slice a4 a5 a6)]) (y_load rfl (d2 _ (Chg.refl _ _))) ?_
  obtain ⟨d7, b4, d8, b9, b0, c0⟩ := new_block a1 [(.int .i64 0), (.slice none 0 0)] 54
  refine pl_val (w' := d7) (.pointer (some ⟨b4, 0, none⟩)) (y_alloc (by rw [d8, b9]; kernel_rfl)) ?_
  have h0 := h0.ext b0
  have a7 := a7.ext b0
  have hC := hC.ext b0
  have hO := hO.new1 b0 b9 c0.lt
  obtain ⟨c1, d9, b1, b5⟩ := box_store (P := Try.prog) c0 [] [(.int .i64 0), (.slice none 0 0)] [] [(.int .i64 x21.1), (.slice a4 a5 a6)] rfl rfl (by intro u hu; simp only [List.mem_cons, List.not_mem_nil, or_false] at hu; rcases hu with rfl | rfl <;> rfl)
  refine pl_skip (w' := c1) (ys_store rfl rfl (d9 _ _ rfl Sz54)) ?_
  have h0 := h0.mt b1 hO same_
  have a7 := a7.mt b1 hO same_
  have hC := hC.st b1 hO same_
  have hO := hO.ext b1
  have b5 : BoxV c1 b4 54 [(.int .i64 x21.1), (.slice a4 a5 a6)] := b5
  refine c_nil ?_
  refine c_sr ?_
  refine pl_val (.int .i64 k) (y_move rfl) ?_
  refine pl_val (.bool (k == 3)) (y_eql rfl rfl) ?_
  refine pl_val (.bool (k == 3)) (y_move rfl) ?_
  rcases bif_some hs with ⟨a3, hs⟩ | ⟨a3, hs⟩
  ·skip
   refine pl_yes (.pointer (some ⟨b4, 1, none⟩)) (tg := 26) (by kernel_rfl) (congrArg Value.bool a3) (y_faddr rfl Fa54x1) ?_
   refine pl_yes (.slice a4 a5 a6) (tg := 26) (by kernel_rfl) (congrArg Value.bool a3) (y_load rfl ((box_load Ag47 Sz47 b5 [(.int .i64 x21.1)] [(.slice a4 a5 a6)] [] rfl rfl (fun _ => rfl)) _ (Chg.refl _ _))) ?_
   refine pl_yes (.int .i64 (x21.2.length : Int)) (tg := 26) (by kernel_rfl) (congrArg Value.bool a3) (y_len' Sl47 (rs_len a7) rfl) ?_
   refine pl_yes (.bool (decide (12 < (x21.2.length : Int)))) (tg := 26) (by kernel_rfl) (congrArg Value.bool a3) (y_gtr rfl rfl) ?_
   refine pl_val (.bool (decide (12 < (x21.2.length : Int)))) (y_pick_t (congrArg Value.bool a3) rfl) ?_
   refine c_nil ?_
   rcases bif_some hs with ⟨b6, hs⟩ | ⟨b6, hs⟩
   ·refine c_condT (congrArg Value.bool b6) ?_
    refine c_sr ?_
    refine pl_val (.bool false) (y_assign rfl) ?_
    refine c_nil ?_
    refine wp_ret ?_
    cases hs
    exact ⟨_, fr_ovl 33 ⟨rfl, trivial⟩, hC⟩
   refine c_condF (congrArg Value.bool b6) ?_
   refine wp_skip ?_
   refine c_region ?_
   refine pl_val (.int .i64 (w64 ((a2 : Int) + 1))) (y_add rfl rfl) ?_
   refine pl_val (.int .i64 (w64 ((a2 : Int) + 1))) (y_move rfl) ?_
   refine c_nil ?_
   cases hs
   have hO := hO.drop
   exact ⟨_, rfl, drop_cons_next hd, _, fr_ovl 33 ⟨rfl, rfl, rfl, congrArg (Value.int .i64) (w64_succ hlt (Int.natCast_nonneg _) (rs_max h0)), trivial⟩, hC, hO, h0⟩
  refine pl_not (tg := 26) (by kernel_rfl) (congrArg Value.bool a3) ?_
  refine pl_not (tg := 26) (by kernel_rfl) (congrArg Value.bool a3) ?_
  refine pl_not (tg := 26) (by kernel_rfl) (congrArg Value.bool a3) ?_
  refine pl_not (tg := 26) (by kernel_rfl) (congrArg Value.bool a3) ?_
  refine pl_val (.bool false) (y_pick_f (congrArg Value.bool a3) rfl) ?_
  refine c_nil ?_
  refine c_condF (by rfl) ?_
  refine wp_skip ?_
  refine c_region ?_
  refine pl_val (.int .i64 (w64 ((a2 : Int) + 1))) (y_add rfl rfl) ?_
  refine pl_val (.int .i64 (w64 ((a2 : Int) + 1))) (y_move rfl) ?_
  refine c_nil ?_
  cases hs
  have hO := hO.drop
  exact ⟨_, rfl, drop_cons_next hd, _, fr_ovl 33 ⟨rfl, rfl, rfl, congrArg (Value.int .i64) (w64_succ hlt (Int.natCast_nonneg _) (rs_max h0)), trivial⟩, hC, hO, h0⟩
 ·skip
  exact ⟨0, rfl, rfl, _, fr_ovl 33 ⟨rfl, rfl, rfl, rfl, trivial⟩, hC, hO, h0⟩
 cases o22 with
 | nx _ => exact True.intro
 | rt r_ =>
  have hs := after_rt hs
  intro b8 c2 hK
  cases hs
  exact hK
 | br s18 =>
  have hs := after_br hs
  rintro b8 a1 ⟨σ, rfl, hC, hO, h0⟩
  refine c_sr ?_
  refine pl_val (.bool true) (y_assign rfl) ?_
  refine c_nil ?_
  refine wp_ret ?_
  cases hs
  exact ⟨_, fr_ovl 33 ⟨rfl, trivial⟩, hC⟩

def k_impl_freeTable (M : Nat → Prop) (w0 : World) (r : (List Int)) (a : Act) (w : World) : Prop :=
  ∃ (σ : Nat → Value) (ra0 : Option Addr) (rn0 rc0 : Nat) (rf0 : List Nat), a = fr 17 (ovl σ [(2, (.slice ra0 rn0 rc0))]) ∧ Chg [] w0 w ∧ (RT.os 3 (RT.int .i64)).val M w (.slice ra0 rn0 rc0) r rf0 ∧ Own (Nw w0 []) (fun _ => True) w (rf0 ++ ([]))
def s_impl_freeTable (many : Int) : Option ((List Int)) :=
  (mks many (0 : Int)).bind fun y2 =>
  (forC (S := (List Int)) (R := (List Int)) (fun k13 s11 =>
  (idx s11 k13).bind fun x19 =>
  some (.nx (List.set s11 (Int.toNat k13) (-1)))) 0 (y2.length : Int) y2).bind fun o15 => after o15 (fun r_ => some r_) (fun s11 =>
  some s11)
set_option maxHeartbeats 4000000 in
theorem c_impl_freeTable {M : Nat → Prop} {w : World}  (many : Int)  (hM : ∀ g, w.heap.size ≤ g → M g) {r : (List Int)} (hs : s_impl_freeTable many = some r) :
    Gives Try.prog 64 [(.int .i64 many)] w (fun v w' => ∃ (ra0 : Option Addr) (rn0 rc0 : Nat) (rf0 : List Nat), v = (.slice ra0 rn0 rc0) ∧ Chg [] w w' ∧ (RT.os 3 (RT.int .i64)).val M w' (.slice ra0 rn0 rc0) r rf0 ∧ Own (Nw w []) (fun _ => True) w' (rf0 ++ ([]))) := by
 refine calls_fr Try.func64 rfl Try.ntmps64 (Nat.le_of_ble_eq_true rfl) ?_
 have hO := Own.start (N := Nw w []) hM Nw.fut
 have hC := Chg.refl [] w
 unfold s_impl_freeTable at hs
 refine wp_mono (Q := KPost (k_impl_freeTable M w r)) ?_ (fun e a a8 h => ?_)
 rotate_left
 ·cases e
  case ret =>
   obtain ⟨σ, ra0, rn0, rc0, rf0, rfl, hrest⟩ := h
   exact ret1x Try.results64 (res_tmp rfl) ⟨ra0, rn0, rc0, rf0, rfl, hrest⟩
  all_goals exact (h : False).elim
 refine c_sr ?_
 refine pl_val (.slice none 0 0) (y_assign rfl) ?_
 refine c_nil ?_
 refine c_sr ?_
 refine pl_val (.int .i64 many) (y_move rfl) ?_
 obtain ⟨y2, b4, hs⟩ := bind_some hs
 obtain ⟨a0, a1, a2, a8, b5, b6, b0, b7, a6⟩ := mk_os (M := M) (w := w) (r := (RT.int .i64)) Rw41 b4 (fun _ _ => ⟨rfl, rfl⟩)
 refine pl_val (w' := a8) (.slice a0 a1 a2) (y_make rfl rfl b6) ?_
 have hC := hC.ext b0
 have hO := hO.new b0 b7 (os_nodup a6) a6.fpl
 refine pl_val (.slice a0 a1 a2) (y_assign rfl) ?_
 refine c_nil ?_
 refine c_seq ?_
 refine c_sr ?_
 refine pl_val (.slice a0 a1 a2) (y_move rfl) ?_
 refine pl_val (.int .i64 (y2.length : Int)) (y_len' Sl41 (os_len a6) rfl) ?_
 refine pl_val (.int .i64 0) (y_move rfl) ?_
 refine c_nil ?_
 obtain ⟨o15, b8, hs⟩ := bind_some hs
 refine wp_block ?_
 refine wp_forC (id := 0) (y2.length : Int) (I := fun k13 s11 a a3 => ∃ (σ : Nat → Value) (a4 : List Nat), a = fr 17 (ovl σ [(3, (.slice a0 a1 a2)), (8, (.int .i64 (y2.length : Int))), (9, (.int .i64 k13))]) ∧ Chg [] w a3 ∧ Own (Nw w []) M a3 (a4 ++ []) ∧ (RT.os 3 (RT.int .i64)).val M a3 (.slice a0 a1 a2) s11 a4) (J := fun s11 a a3 => ∃ (σ : Nat → Value) (a7 : List Nat), a = fr 17 (ovl σ [(3, (.slice a0 a1 a2))]) ∧ Chg [] w a3 ∧ Own (Nw w []) M a3 (a7 ++ []) ∧ (RT.os 3 (RT.int .i64)).val M a3 (.slice a0 a1 a2) s11 a7) (K := (k_impl_freeTable M w)) ?_ ?_ 0 y2 o15 _ _ ?_ b8 ?_
 ·rintro k13 s11 a a3 ⟨σ, a4, rfl, hC, hO, a5⟩ hlt
  refine c_sr ?_
  refine pl_val (.bool (decide (k13 < (y2.length : Int)))) (y_lss rfl rfl) ?_
  refine c_nil ?_
  refine c_seq ?_
  refine c_condF (congrArg Value.bool (decide_eq_false hlt)) ?_
  refine wp_exit ?_
  exact ⟨rfl, _, a4, fr_ovl 17 ⟨rfl, trivial⟩, hC, hO, a5⟩
 ·rintro k13 s11 o15 a a3 ⟨σ, a4, rfl, hC, hO, a5⟩ hlt hw hs
  refine c_sr ?_
  refine pl_val (.bool (decide (k13 < (y2.length : Int)))) (y_lss rfl rfl) ?_
  refine c_nil ?_
  refine c_seq ?_
  refine c_condT (congrArg Value.bool (decide_eq_true hlt)) ?_
  refine wp_skip ?_
  refine c_seq ?_
  refine wp_block ?_
  refine c_sr ?_
  refine pl_val (.int .i64 k13) (y_move rfl) ?_
  refine pl_val (.int .i64 k13) (y_assign rfl) ?_
  refine c_nil ?_
  refine c_region ?_
  refine pl_val (.slice a0 a1 a2) (y_move rfl) ?_
  refine pl_val (.int .i64 k13) (y_move rfl) ?_
  obtain ⟨x19, b9, hs⟩ := bind_some hs
  obtain ⟨b1, c8, b2, c0, c1, c9, d0⟩ := os_idx Sl41 Sz3 a5 b9
  refine pl_val (.pointer (some ⟨b1, 0 + Int.toNat k13 * 1, none⟩)) (c1 _ _ _ _ _ _ _ _ _ rfl rfl) ?_
  obtain ⟨c2, c3, c4, b3, c5, a9⟩ := os_store (P := Try.prog) (c' := [(.int .i64 (-1))]) b2 a5 c0 (fun g hg => hO.inM g (os_block a5 g (by simpa using hg))) ⟨rfl, rfl⟩ List.nodup_nil (fun _ h => nomatch h) (fun _ h => .inl h)
  have c6 : ∀ q ∈ [b1], q ∈ a4 := fun q hq => os_block a5 q (by rw [b2]; exact hq)
  refine pl_skip (w' := c2) (ys_store rfl rfl (c4 _ _ rfl Sz3)) ?_
  have hC := hC.st b3 hO c6
  have hO := hO.grow b3 (fun q hq => .inl ((c5 q hq).resolve_right (fun h => nomatch h))) (os_nodup a9) a9.fpl
  refine c_nil ?_
  refine c_region ?_
  refine pl_val (.int .i64 (w64 (k13 + 1))) (y_add rfl rfl) ?_
  refine pl_val (.int .i64 (w64 (k13 + 1))) (y_move rfl) ?_
  refine c_nil ?_
  cases hs
  exact ⟨_, c3, fr_ovl 17 ⟨rfl, rfl, congrArg (Value.int .i64) hw, trivial⟩, hC, hO, a9⟩
 ·skip
  exact ⟨_, b5, fr_ovl 17 ⟨rfl, rfl, rfl, trivial⟩, hC, hO, a6⟩
 cases o15 with
 | nx _ => exact True.intro
 | rt r_ =>
  have hs := after_rt hs
  intro a0 a8 hK
  cases hs
  exact hK
 | br s11 =>
  have hs := after_br hs
  rintro a0 a3 ⟨σ, a7, rfl, hC, hO, c7⟩
  refine c_sr ?_
  refine pl_val (.slice a0 a1 a2) (y_move rfl) ?_
  refine pl_val (.slice a0 a1 a2) (y_assign rfl) ?_
  refine c_nil ?_
  refine wp_ret ?_
  cases hs
  exact ⟨_, a0, a1, a2, a7, fr_ovl 17 ⟨rfl, trivial⟩, hC, c7, hO.top⟩

theorem Rw140 : RowT Try.prog 140 4 1 [(.bool false)] := ⟨Try.underlying140, ⟨_, _, rfl, rfl, rfl, rfl, by decide⟩, rfl, by decide⟩

theorem Sl140 : SlT Try.prog 140 4 := Try.underlying140

theorem Sz4 : SzT Try.prog 4 1 := ⟨_, rfl, rfl⟩

def k_impl_marks (M : Nat → Prop) (w0 : World) (r : (List Bool)) (a : Act) (w : World) : Prop :=
  ∃ (σ : Nat → Value) (ra0 : Option Addr) (rn0 rc0 : Nat) (rf0 : List Nat), a = fr 21 (ovl σ [(4, (.slice ra0 rn0 rc0))]) ∧ Chg [] w0 w ∧ (RT.os 4 RT.bool).val M w (.slice ra0 rn0 rc0) r rf0 ∧ Own (Nw w0 []) (fun _ => True) w (rf0 ++ ([]))
def s_impl_marks (list : List Int) (n : Int) : Option ((List Bool)) :=
  (mks n (false : Bool)).bind fun y3 =>
  (forR (S := (List Bool)) (R := (List Bool)) (fun _ x17 s14 =>
  (idx s14 x17).bind fun x23 =>
  some (.nx (List.set s14 (Int.toNat x17) true))) 0 list y3).bind fun o18 => after o18 (fun r_ => some r_) (fun s14 =>
  some s14)
set_option maxHeartbeats 4000000 in
theorem c_impl_marks {M : Nat → Prop} {w : World} {pa0 : Option Addr} {pn0 pc0 : Nat} (list : List Int) (n : Int) (h0 : (RT.rs (RT.int .i64)).val M w (.slice pa0 pn0 pc0) list ([])) (hM : ∀ g, w.heap.size ≤ g → M g) {r : (List Bool)} (hs : s_impl_marks list n = some r) :
    Gives Try.prog 129 [(.slice pa0 pn0 pc0), (.int .i64 n)] w (fun v w' => ∃ (ra0 : Option Addr) (rn0 rc0 : Nat) (rf0 : List Nat), v = (.slice ra0 rn0 rc0) ∧ Chg [] w w' ∧ (RT.os 4 RT.bool).val M w' (.slice ra0 rn0 rc0) r rf0 ∧ Own (Nw w []) (fun _ => True) w' (rf0 ++ ([]))) := by
 refine calls_fr Try.func129 rfl Try.ntmps129 (Nat.le_of_ble_eq_true rfl) ?_
 have hO := Own.start (N := Nw w []) hM Nw.fut
 have hC := Chg.refl [] w
 unfold s_impl_marks at hs
 refine wp_mono (Q := KPost (k_impl_marks M w r)) ?_ (fun e a b5 h => ?_)
 rotate_left
 ·cases e
  case ret =>
   obtain ⟨σ, ra0, rn0, rc0, rf0, rfl, hrest⟩ := h
   exact ret1x Try.results129 (res_tmp rfl) ⟨ra0, rn0, rc0, rf0, rfl, hrest⟩
  all_goals exact (h : False).elim
 refine c_sr ?_
 refine pl_val (.slice none 0 0) (y_assign rfl) ?_
 refine c_nil ?_
 refine c_sr ?_
 refine pl_val (.int .i64 n) (y_move rfl) ?_
 obtain ⟨y3, b6, hs⟩ := bind_some hs
 obtain ⟨a1, a2, a3, b7, b8, b9, a8, c0, a9⟩ := mk_os (M := M) (w := w) (r := RT.bool) Rw140 b6 (fun _ _ => ⟨rfl, rfl⟩)
 refine pl_val (w' := b7) (.slice a1 a2 a3) (y_make rfl rfl b9) ?_
 have h0 := h0.ext a8
 have hC := hC.ext a8
 have hO := hO.new a8 c0 (os_nodup a9) a9.fpl
 refine pl_val (.slice a1 a2 a3) (y_assign rfl) ?_
 refine c_nil ?_
 refine c_seq ?_
 refine c_sr ?_
 refine pl_val (.slice pa0 pn0 pc0) (y_move rfl) ?_
 refine pl_val (.int .i64 (list.length : Int)) (y_len' Sl41 (rs_len h0) rfl) ?_
 refine pl_val (.int .i64 0) (y_move rfl) ?_
 refine c_nil ?_
 obtain ⟨o18, c1, hs⟩ := bind_some hs
 refine wp_block ?_
 refine wp_forR (id := 0) (I := fun i_ xs_ s14 a a0 => ∃ a4 : Nat, i_ = (a4 : Int) ∧ List.drop a4 list = xs_ ∧ (∃ (σ : Nat → Value) (a5 : List Nat), a = fr 21 (ovl σ [(5, (.slice a1 a2 a3)), (10, (.slice pa0 pn0 pc0)), (11, (.int .i64 (list.length : Int))), (12, (.int .i64 (a4 : Int)))]) ∧ Chg [] w a0 ∧ Own (Nw w []) M a0 (a5 ++ []) ∧ (RT.rs (RT.int .i64)).val M a0 (.slice pa0 pn0 pc0) list ([]) ∧ (RT.os 4 RT.bool).val M a0 (.slice a1 a2 a3) s14 a5)) (J := fun s14 a a0 => ∃ (σ : Nat → Value) (a7 : List Nat), a = fr 21 (ovl σ [(5, (.slice a1 a2 a3))]) ∧ Chg [] w a0 ∧ Own (Nw w []) M a0 (a7 ++ []) ∧ (RT.rs (RT.int .i64)).val M a0 (.slice pa0 pn0 pc0) list ([]) ∧ (RT.os 4 RT.bool).val M a0 (.slice a1 a2 a3) s14 a7) (K := (k_impl_marks M w)) ?_ ?_ list 0 y3 o18 _ _ ?_ c1 ?_
 ·rintro _ s14 a a0 ⟨a4, rfl, hd, σ, a5, rfl, hC, hO, h0, a6⟩
  have hlt := drop_nil_ge hd
  refine c_sr ?_
  refine pl_val (.bool (decide ((a4 : Int) < (list.length : Int)))) (y_lss rfl rfl) ?_
  refine c_nil ?_
  refine c_seq ?_
  refine c_condF (congrArg Value.bool (decide_eq_false hlt)) ?_
  refine wp_exit ?_
  exact ⟨rfl, _, a5, fr_ovl 21 ⟨rfl, trivial⟩, hC, hO, h0, a6⟩
 ·rintro _ x17 xs_ s14 o18 a a0 ⟨a4, rfl, hd, σ, a5, rfl, hC, hO, h0, a6⟩ hs
  have hlt := drop_cons_lt hd
  have c2 := drop_cons_idx hd
  refine c_sr ?_
  refine pl_val (.bool (decide ((a4 : Int) < (list.length : Int)))) (y_lss rfl rfl) ?_
  refine c_nil ?_
  refine c_seq ?_
  refine c_condT (congrArg Value.bool (decide_eq_true hlt)) ?_
  refine wp_skip ?_
  refine c_seq ?_
  refine wp_block ?_
  refine c_sr ?_
  obtain ⟨c3, c4, c5, c6⟩ := rs_idx Sl41 Sz3 h0 c2
  refine pl_val (.pointer (some ⟨c3, c4, none⟩)) (c5 _ _ _ _ _ _ _ _ _ rfl rfl) ?_
  refine pl_val (.int .i64 x17) (y_load rfl ((at_load_int Ag3 Sz3 c6) _ (Chg.refl _ _))) ?_
  refine pl_val (.int .i64 x17) (y_assign rfl) ?_
  refine c_nil ?_
  refine c_region ?_
  refine pl_val (.slice a1 a2 a3) (y_move rfl) ?_
  refine pl_val (.int .i64 x17) (y_move rfl) ?_
  obtain ⟨x23, c7, hs⟩ := bind_some hs
  obtain ⟨b2, d6, b3, c8, c9, d7, d8⟩ := os_idx Sl140 Sz4 a6 c7
  refine pl_val (.pointer (some ⟨b2, 0 + Int.toNat x17 * 1, none⟩)) (c9 _ _ _ _ _ _ _ _ _ rfl rfl) ?_
  obtain ⟨d0, d1, d2, b0, d3, b1⟩ := os_store (P := Try.prog) (c' := [(.bool true)]) b3 a6 c8 (fun g hg => hO.inM g (os_block a6 g (by simpa using hg))) ⟨rfl, rfl⟩ List.nodup_nil (fun _ h => nomatch h) (fun _ h => .inl h)
  have b4 : ∀ q ∈ [b2], q ∈ a5 := fun q hq => os_block a6 q (by rw [b3]; exact hq)
  refine pl_skip (w' := d0) (ys_store rfl rfl (d2 _ _ rfl Sz4)) ?_
  have h0 := h0.mt b0 hO b4
  have hC := hC.st b0 hO b4
  have hO := hO.grow b0 (fun q hq => .inl ((d3 q hq).resolve_right (fun h => nomatch h))) (os_nodup b1) b1.fpl
  refine c_nil ?_
  refine c_region ?_
  refine pl_val (.int .i64 (w64 ((a4 : Int) + 1))) (y_add rfl rfl) ?_
  refine pl_val (.int .i64 (w64 ((a4 : Int) + 1))) (y_move rfl) ?_
  refine c_nil ?_
  cases hs
  exact ⟨_, rfl, drop_cons_next hd, _, d1, fr_ovl 21 ⟨rfl, rfl, rfl, congrArg (Value.int .i64) (w64_succ hlt (Int.natCast_nonneg _) (rs_max h0)), trivial⟩, hC, hO, h0, b1⟩
 ·skip
  exact ⟨0, rfl, rfl, _, b8, fr_ovl 21 ⟨rfl, rfl, rfl, rfl, trivial⟩, hC, hO, h0, a9⟩
 cases o18 with
 | nx _ => exact True.intro
 | rt r_ =>
  have hs := after_rt hs
  intro d4 b5 hK
  cases hs
  exact hK
 | br s14 =>
  have hs := after_br hs
  rintro d4 a0 ⟨σ, a7, rfl, hC, hO, h0, d5⟩
  refine c_sr ?_
  refine pl_val (.slice a1 a2 a3) (y_move rfl) ?_
  refine pl_val (.slice a1 a2 a3) (y_assign rfl) ?_
  refine c_nil ?_
  refine wp_ret ?_
  cases hs
  exact ⟨_, a1, a2, a3, a7, fr_ovl 21 ⟨rfl, trivial⟩, hC, d5, hO.top⟩

theorem Ag4 : AggT Try.prog 4 false := fun _ => by kernel_rfl

def k_impl_marked (M : Nat → Prop) (w0 : World) (r : (List Int)) (a : Act) (w : World) : Prop :=
  ∃ (σ : Nat → Value) (ra0 : Option Addr) (rn0 rc0 : Nat) (rf0 : List Nat), a = fr 21 (ovl σ [(2, (.slice ra0 rn0 rc0))]) ∧ Chg [] w0 w ∧ (RT.os 3 (RT.int .i64)).val M w (.slice ra0 rn0 rc0) r rf0 ∧ Own (Nw w0 []) (fun _ => True) w (rf0 ++ ([]))
def s_impl_marked (have_ : List Bool) : Option ((List Int)) :=
  (forC (S := (List Int)) (R := (List Int)) (fun k16 s14 =>
  (idx have_ k16).bind fun x24 =>
  (bif x24 then (app s14 ([k16])).bind fun y30 =>
  some (.nx y30) else some (.nx s14))) 0 (have_.length : Int) ([])).bind fun o18 => after o18 (fun r_ => some r_) (fun s14 =>
  some s14)
set_option maxHeartbeats 4000000 in
theorem c_impl_marked {M : Nat → Prop} {w : World} {pa0 : Option Addr} {pn0 pc0 : Nat} (have_ : List Bool) (h0 : (RT.rs RT.bool).val M w (.slice pa0 pn0 pc0) have_ ([])) (hM : ∀ g, w.heap.size ≤ g → M g) {r : (List Int)} (hs : s_impl_marked have_ = some r) :
    Gives Try.prog 128 [(.slice pa0 pn0 pc0)] w (fun v w' => ∃ (ra0 : Option Addr) (rn0 rc0 : Nat) (rf0 : List Nat), v = (.slice ra0 rn0 rc0) ∧ Chg [] w w' ∧ (RT.os 3 (RT.int .i64)).val M w' (.slice ra0 rn0 rc0) r rf0 ∧ Own (Nw w []) (fun _ => True) w' (rf0 ++ ([]))) := by
 refine calls_fr Try.func128 rfl Try.ntmps128 (Nat.le_of_ble_eq_true rfl) ?_
 have hO := Own.start (N := Nw w []) hM Nw.fut
 have hC := Chg.refl [] w
 unfold s_impl_marked at hs
 refine wp_mono (Q := KPost (k_impl_marked M w r)) ?_ (fun e a c9 h => ?_)
 rotate_left
 ·cases e
  case ret =>
   obtain ⟨σ, ra0, rn0, rc0, rf0, rfl, hrest⟩ := h
   exact ret1x Try.results128 (res_tmp rfl) ⟨ra0, rn0, rc0, rf0, rfl, hrest⟩
  all_goals exact (h : False).elim
 refine c_sr ?_
 refine pl_val (.slice none 0 0) (y_assign rfl) ?_
 refine c_nil ?_
 refine c_sr ?_
 obtain ⟨c2, a5, d0, c3, b2, c4⟩ := new_block w [] 3
 refine pl_val (w' := c2) (.slice (some ⟨a5, 0, none⟩) 0 0) (y_bslice rfl (by rw [d0, c3]; kernel_rfl)) ?_
 have h0 := h0.ext b2
 have hC := hC.ext b2
 have hO := hO.new1 b2 c3 c4.lt
 have b3 := os_of_box (r := (RT.int .i64)) (M := M) (css := []) (fps := []) (xs := ([] : List Int)) c4 trivial (Nat.zero_le _) (List.nodup_cons.2 ⟨(fun h => nomatch h), List.nodup_nil⟩)
 have b3 : (RT.os 3 (RT.int .i64)).val M c2 (.slice (some ⟨a5, 0, none⟩) 0 0) [] [a5] := b3
 refine pl_val (.slice (some ⟨a5, 0, none⟩) 0 0) (y_assign rfl) ?_
 refine c_nil ?_
 refine c_seq ?_
 refine c_sr ?_
 refine pl_val (.slice pa0 pn0 pc0) (y_move rfl) ?_
 refine pl_val (.int .i64 (have_.length : Int)) (y_len' Sl140 (rs_len h0) rfl) ?_
 refine pl_val (.int .i64 0) (y_move rfl) ?_
 refine c_nil ?_
 obtain ⟨o18, d1, hs⟩ := bind_some hs
 refine wp_block ?_
 refine wp_forC (id := 0) (have_.length : Int) (I := fun k16 s14 a a0 => ∃ (σ : Nat → Value) (a1 : Option Addr) (a2 : Nat) (a3 : Nat) (a6 : List Nat), a = fr 21 (ovl σ [(3, (.slice a1 a2 a3)), (7, (.slice pa0 pn0 pc0)), (8, (.int .i64 (have_.length : Int))), (9, (.int .i64 k16))]) ∧ Chg [] w a0 ∧ Own (Nw w []) M a0 (a6 ++ []) ∧ (RT.rs RT.bool).val M a0 (.slice pa0 pn0 pc0) have_ ([]) ∧ (RT.os 3 (RT.int .i64)).val M a0 (.slice a1 a2 a3) s14 a6) (J := fun s14 a a0 => ∃ (σ : Nat → Value) (a7 : Option Addr) (a8 : Nat) (a9 : Nat) (b0 : List Nat), a = fr 21 (ovl σ [(3, (.slice a7 a8 a9))]) ∧ Chg [] w a0 ∧ Own (Nw w []) M a0 (b0 ++ []) ∧ (RT.rs RT.bool).val M a0 (.slice pa0 pn0 pc0) have_ ([]) ∧ (RT.os 3 (RT.int .i64)).val M a0 (.slice a7 a8 a9) s14 b0) (K := (k_impl_marked M w)) ?_ ?_ 0 ([]) o18 _ _ ?_ d1 ?_
 ·rintro k16 s14 a a0 ⟨σ, a1, a2, a3, a6, rfl, hC, hO, h0, a4⟩ hlt
  refine c_sr ?_
  refine pl_val (.bool (decide (k16 < (have_.length : Int)))) (y_lss rfl rfl) ?_
  refine c_nil ?_
  refine c_seq ?_
  refine c_condF (congrArg Value.bool (decide_eq_false hlt)) ?_
  refine wp_exit ?_
  exact ⟨rfl, _, a1, a2, a3, a6, fr_ovl 21 ⟨rfl, trivial⟩, hC, hO, h0, a4⟩
 ·rintro k16 s14 o18 a a0 ⟨σ, a1, a2, a3, a6, rfl, hC, hO, h0, a4⟩ hlt hw hs
  refine c_sr ?_
  refine pl_val (.bool (decide (k16 < (have_.length : Int)))) (y_lss rfl rfl) ?_
  refine c_nil ?_
  refine c_seq ?_
  refine c_condT (congrArg Value.bool (decide_eq_true hlt)) ?_
  refine wp_skip ?_
  refine c_seq ?_
  refine wp_block ?_
  refine c_sr ?_
  refine pl_val (.int .i64 k16) (y_move rfl) ?_
  obtain ⟨x24, d2, hs⟩ := bind_some hs
  obtain ⟨d3, d4, d5, d6⟩ := rs_idx Sl140 Sz4 h0 d2
  refine pl_val (.pointer (some ⟨d3, d4, none⟩)) (d5 _ _ _ _ _ _ _ _ _ rfl rfl) ?_
  refine pl_val (.bool x24) (y_load rfl ((at_load_bool Ag4 Sz4 d6) _ (Chg.refl _ _))) ?_
  refine pl_val (.int .i64 k16) (y_assign rfl) ?_
  refine pl_val (.bool x24) (y_assign rfl) ?_
  refine c_nil ?_
  refine c_sr ?_
  refine pl_val (.bool x24) (y_move rfl) ?_
  refine c_nil ?_
  rcases bif_some hs with ⟨b4, hs⟩ | ⟨b4, hs⟩
  ·refine c_condT (congrArg Value.bool b4) ?_
   refine c_region ?_
   refine pl_val (.slice a1 a2 a3) (y_move rfl) ?_
   refine pl_val (.int .i64 k16) (y_move rfl) ?_
   obtain ⟨c5, b5, d7, c6, b1, c7⟩ := new_block a0 [(.int .i64 k16)] 3
   refine pl_val (w' := c5) (.slice (some ⟨b5, 0, none⟩) 1 1) (y_bslice rfl (by rw [d7, c6]; kernel_rfl)) ?_
   have h0 := h0.ext b1
   have a4 := a4.ext b1
   have hC := hC.ext b1
   have hO := hO.new1 b1 c6 c7.lt
   have b6 := os_of_box (r := (RT.int .i64)) (M := M) (css := [[(.int .i64 k16)]]) (fps := [([] : List Nat)]) (xs := ([k16] : List Int)) c7 ⟨⟨rfl, rfl⟩, trivial⟩ (Nat.le_of_ble_eq_true rfl) (List.nodup_cons.2 ⟨(fun h => nomatch h), List.nodup_nil⟩)
   have b6 : (RT.os 3 (RT.int .i64)).val M c5 (.slice (some ⟨b5, 0, none⟩) 1 1) [k16] [b5] := b6
   obtain ⟨y30, d8, hs⟩ := bind_some hs
   have hO := hO.fr1
   obtain ⟨b7, b8, b9, d9, e0, e1, c0, e2, c1⟩ := app_os Rw41 d8 a4 b6 hO.inM (fun g hg hq => hO.apart g hq (mem_l hg))
   have c8 := os_block a4
   refine pl_val (w' := d9) (.slice b7 b8 b9) (y_append rfl rfl (e1 _)) ?_
   have hO := hO.fr1
   have hO := hO.fr1
   have h0 := h0.mt c0 hO c8
   have hC := hC.st c0 hO c8
   have hO := hO.eat c0 e2 (os_nodup c1) c1.fpl
   refine pl_val (.slice b7 b8 b9) (y_assign rfl) ?_
   refine c_nil ?_
   refine c_region ?_
   refine pl_val (.int .i64 (w64 (k16 + 1))) (y_add rfl rfl) ?_
   refine pl_val (.int .i64 (w64 (k16 + 1))) (y_move rfl) ?_
   refine c_nil ?_
   cases hs
   exact ⟨_, b7, b8, b9, e0, fr_ovl 21 ⟨rfl, rfl, rfl, congrArg (Value.int .i64) hw, trivial⟩, hC, hO, h0, c1⟩
  refine c_condF (congrArg Value.bool b4) ?_
  refine wp_skip ?_
  refine c_region ?_
  refine pl_val (.int .i64 (w64 (k16 + 1))) (y_add rfl rfl) ?_
  refine pl_val (.int .i64 (w64 (k16 + 1))) (y_move rfl) ?_
  refine c_nil ?_
  cases hs
  exact ⟨_, a1, a2, a3, a6, fr_ovl 21 ⟨rfl, rfl, rfl, congrArg (Value.int .i64) hw, trivial⟩, hC, hO, h0, a4⟩
 ·skip
  exact ⟨_, (some ⟨a5, 0, none⟩), 0, 0, ([a5]), fr_ovl 21 ⟨rfl, rfl, rfl, rfl, trivial⟩, hC, hO, h0, b3⟩
 cases o18 with
 | nx _ => exact True.intro
 | rt r_ =>
  have hs := after_rt hs
  intro e3 c9 hK
  cases hs
  exact hK
 | br s14 =>
  have hs := after_br hs
  rintro e3 a0 ⟨σ, a7, a8, a9, b0, rfl, hC, hO, h0, e4⟩
  refine c_sr ?_
  refine pl_val (.slice a7 a8 a9) (y_move rfl) ?_
  refine pl_val (.slice a7 a8 a9) (y_assign rfl) ?_
  refine c_nil ?_
  refine wp_ret ?_
  cases hs
  exact ⟨_, a7, a8, a9, b0, fr_ovl 21 ⟨rfl, trivial⟩, hC, e4, hO.top⟩

theorem Bd129 : Bodied Try.prog 129 := bodied Try.func129 (by kernel_rfl) rfl

theorem Bd128 : Bodied Try.prog 128 := bodied Try.func128 (by kernel_rfl) rfl

def k_impl_imagesOf (M : Nat → Prop) (w0 : World) (r : (List Int)) (a : Act) (w : World) : Prop :=
  ∃ (σ : Nat → Value) (ra0 : Option Addr) (rn0 rc0 : Nat) (rf0 : List Nat), a = fr 9 (ovl σ [(4, (.slice ra0 rn0 rc0))]) ∧ Chg [] w0 w ∧ (RT.os 3 (RT.int .i64)).val M w (.slice ra0 rn0 rc0) r rf0 ∧ Own (Nw w0 []) (fun _ => True) w (rf0 ++ ([]))
def s_impl_imagesOf (f : List Int) (n : Int) : Option ((List Int)) :=
  (s_impl_marks f n).bind fun r3 =>
  (s_impl_marked r3).bind fun r6 =>
  some r6
set_option maxHeartbeats 4000000 in
theorem c_impl_imagesOf {M : Nat → Prop} {w : World} {pa0 : Option Addr} {pn0 pc0 : Nat} (f : List Int) (n : Int) (h0 : (RT.rs (RT.int .i64)).val M w (.slice pa0 pn0 pc0) f ([])) (hM : ∀ g, w.heap.size ≤ g → M g) {r : (List Int)} (hs : s_impl_imagesOf f n = some r) :
    Gives Try.prog 99 [(.slice pa0 pn0 pc0), (.int .i64 n)] w (fun v w' => ∃ (ra0 : Option Addr) (rn0 rc0 : Nat) (rf0 : List Nat), v = (.slice ra0 rn0 rc0) ∧ Chg [] w w' ∧ (RT.os 3 (RT.int .i64)).val M w' (.slice ra0 rn0 rc0) r rf0 ∧ Own (Nw w []) (fun _ => True) w' (rf0 ++ ([]))) := by
 refine calls_fr Try.func99 rfl Try.ntmps99 (Nat.le_of_ble_eq_true rfl) ?_
 have hO := Own.start (N := Nw w []) hM Nw.fut
 have hC := Chg.refl [] w
 unfold s_impl_imagesOf at hs
 refine wp_mono (Q := KPost (k_impl_imagesOf M w r)) ?_ (fun e a b3 h => ?_)
 rotate_left
 ·cases e
  case ret =>
   obtain ⟨σ, ra0, rn0, rc0, rf0, rfl, hrest⟩ := h
   exact ret1x Try.results99 (res_tmp rfl) ⟨ra0, rn0, rc0, rf0, rfl, hrest⟩
  all_goals exact (h : False).elim
 refine c_sr ?_
 refine pl_val (.slice none 0 0) (y_assign rfl) ?_
 refine c_nil ?_
 refine c_sr ?_
 refine pl_val (.slice pa0 pn0 pc0) (y_move rfl) ?_
 refine pl_val (.int .i64 n) (y_move rfl) ?_
 obtain ⟨r3, a9, hs⟩ := bind_some hs
 refine pl_call Bd129 rfl (c_impl_marks (M := M) f n h0 hO.fut a9) ?_
 rintro _ b4 ⟨b5, b6, b7, a1, rfl, a2, a3, b0⟩
 have h0 := h0.ext a2
 have hC := hC.ext a2
 have hO := Own.join0 hO a2 b0
 have hO := hO.perm (R := a1 ++ ([])) (by simp)
 obtain ⟨r6, b1, hs⟩ := bind_some hs
 refine pl_call Bd128 rfl (c_impl_marked (M := (Less M a1)) r3 (((Frz.os Frz.bool)).val a3 Less.sub Less.not) hO.less.fut b1) ?_
 rintro _ b8 ⟨a5, a6, a7, a8, rfl, a0, a4, b2⟩
 have h0 := h0.ext a0
 have a3 := a3.ext a0
 have hC := hC.ext a0
 have hO := Own.join0 hO a0 b2
 have hO := hO.perm (R := a8 ++ (a1 ++ ([]))) (by simp)
 have a4 := a4.free (M' := M) (Free.os Free.int)
 refine pl_val (.slice a5 a6 a7) (y_assign rfl) ?_
 refine c_nil ?_
 refine wp_ret ?_
 cases hs
 have hO := hO.fr1
 have hO := hO.drop
 exact ⟨_, a5, a6, a7, a8, fr_ovl 9 ⟨rfl, trivial⟩, hC, a4, hO.top⟩

def k_impl_power (M : Nat → Prop) (w0 : World) (r : Int) (a : Act) (w : World) : Prop :=
  ∃ (σ : Nat → Value) , a = fr 14 (ovl σ [(4, (.int .i64 r))]) ∧ Chg [] w0 w
def s_impl_power (n : Int) (k : Int) : Option (Int) :=
  (iter (S := Int × Int) (R := Int) (fun s2 =>
  (bif (decide (0 < s2.1)) then some (.nx (w64 (s2.1 - 1), w64 (s2.2 * n))) else some (.br (s2.1, s2.2)))) FU (k, 1)).bind fun o6 => after o6 (fun r_ => some r_) (fun s2 =>
  some s2.2)
set_option maxHeartbeats 4000000 in
theorem c_impl_power {M : Nat → Prop} {w : World}  (n : Int) (k : Int)  (hM : ∀ g, w.heap.size ≤ g → M g) {r : Int} (hs : s_impl_power n k = some r) :
    Gives Try.prog 65 [(.int .i64 n), (.int .i64 k)] w (fun v w' => v = (.int .i64 r) ∧ Chg [] w w') := by
 refine calls_fr Try.func65 rfl Try.ntmps65 (Nat.le_of_ble_eq_true rfl) ?_
 have hO := Own.start (N := Nw w []) hM Nw.fut
 have hC := Chg.refl [] w
 unfold s_impl_power at hs
 refine wp_mono (Q := KPost (k_impl_power M w r)) ?_ (fun e a a2 h => ?_)
 rotate_left
 ·cases e
  case ret =>
   obtain ⟨σ, rfl, hrest⟩ := h
   exact ret1x Try.results65 (res_tmp rfl) ⟨rfl, hrest⟩
  all_goals exact (h : False).elim
 refine c_sr ?_
 refine pl_val (.int .i64 0) (y_assign rfl) ?_
 refine c_nil ?_
 refine c_sr ?_
 refine pl_val (.int .i64 1) (y_assign rfl) ?_
 refine c_nil ?_
 refine c_seq ?_
 obtain ⟨o6, a3, hs⟩ := bind_some hs
 refine wp_block ?_
 refine wp_iter (id := 0) (I := fun s2 a a0 => ∃ (σ : Nat → Value), a = fr 14 (ovl σ [(0, (.int .i64 n)), (1, (.int .i64 s2.1)), (5, (.int .i64 s2.2))]) ∧ Chg [] w a0 ∧ Own (Nw w []) M a0 ([])) (J := fun s2 a a0 => ∃ (σ : Nat → Value), a = fr 14 (ovl σ [(5, (.int .i64 s2.2))]) ∧ Chg [] w a0 ∧ Own (Nw w []) M a0 ([])) (K := (k_impl_power M w)) ?_ FU (k, 1) o6 _ _ ?_ a3 ?_
 ·rintro s2 o6 a a0 ⟨σ, rfl, hC, hO⟩ hs
  refine c_seq ?_
  refine c_sr ?_
  refine pl_val (.int .i64 s2.1) (y_move rfl) ?_
  refine pl_val (.bool (decide (0 < s2.1))) (y_gtr rfl rfl) ?_
  refine c_nil ?_
  rcases bif_some hs with ⟨a1, hs⟩ | ⟨a1, hs⟩
  ·refine c_condT (congrArg Value.bool a1) ?_
   refine wp_skip ?_
   refine c_seq ?_
   refine wp_block ?_
   refine c_region ?_
   refine pl_val (.int .i64 s2.2) (y_move rfl) ?_
   refine pl_val (.int .i64 n) (y_move rfl) ?_
   refine pl_val (.int .i64 (w64 (s2.2 * n))) (y_mul rfl rfl) ?_
   refine pl_val (.int .i64 (w64 (s2.2 * n))) (y_assign rfl) ?_
   refine c_nil ?_
   refine c_region ?_
   refine pl_val (.int .i64 s2.1) (y_move rfl) ?_
   refine pl_val (.int .i64 (w64 (s2.1 - 1))) (y_sub rfl rfl) ?_
   refine pl_val (.int .i64 (w64 (s2.1 - 1))) (y_assign rfl) ?_
   refine c_nil ?_
   cases hs
   exact ⟨_, fr_ovl 14 ⟨rfl, rfl, rfl, trivial⟩, hC, hO⟩
  refine c_condF (congrArg Value.bool a1) ?_
  refine wp_exit ?_
  cases hs
  exact ⟨rfl, _, fr_ovl 14 ⟨rfl, trivial⟩, hC, hO⟩
 ·skip
  exact ⟨_, fr_ovl 14 ⟨rfl, rfl, rfl, trivial⟩, hC, hO⟩
 cases o6 with
 | nx _ => exact True.intro
 | rt r_ =>
  have hs := after_rt hs
  intro a4 a2 hK
  cases hs
  exact hK
 | br s2 =>
  have hs := after_br hs
  rintro a4 a0 ⟨σ, rfl, hC, hO⟩
  refine c_sr ?_
  refine pl_val (.int .i64 s2.2) (y_move rfl) ?_
  refine pl_val (.int .i64 s2.2) (y_assign rfl) ?_
  refine c_nil ?_
  refine wp_ret ?_
  cases hs
  exact ⟨_, fr_ovl 14 ⟨rfl, trivial⟩, hC⟩

theorem Rw152 : RowT Try.prog 152 5 1 [(.int .u8 0)] := ⟨Try.underlying152, ⟨_, _, rfl, rfl, rfl, rfl, by decide⟩, rfl, by decide⟩

def k_impl_keyOf (M : Nat → Prop) (w0 : World) (r : ByteArray) (a : Act) (w : World) : Prop :=
  ∃ (σ : Nat → Value) , a = fr 27 (ovl σ [(2, (.string r))]) ∧ Chg [] w0 w
def s_impl_keyOf (list : List Int) : Option (ByteArray) :=
  (mkc 0 (w64 (2 * (list.length : Int)))).bind fun u3 =>
  (forR (S := (List Int)) (R := ByteArray) (fun _ x16 s13 =>
  (app s13 ([IntKind.u8.wrap (ishr .i64 x16 8), IntKind.u8.wrap x16])).bind fun y27 =>
  some (.nx y27)) 0 list (List.replicate (Int.toNat 0) (0 : Int))).bind fun o17 => after o17 (fun r_ => some r_) (fun s13 =>
  some (bstr s13))
set_option maxHeartbeats 4000000 in
theorem c_impl_keyOf {M : Nat → Prop} {w : World} {pa0 : Option Addr} {pn0 pc0 : Nat} (list : List Int) (h0 : (RT.rs (RT.int .i64)).val M w (.slice pa0 pn0 pc0) list ([])) (hM : ∀ g, w.heap.size ≤ g → M g) {r : ByteArray} (hs : s_impl_keyOf list = some r) :
    Gives Try.prog 112 [(.slice pa0 pn0 pc0)] w (fun v w' => v = (.string r) ∧ Chg [] w w') := by
 refine calls_fr Try.func112 rfl Try.ntmps112 (Nat.le_of_ble_eq_true rfl) ?_
 have hO := Own.start (N := Nw w []) hM Nw.fut
 have hC := Chg.refl [] w
 unfold s_impl_keyOf at hs
 refine wp_mono (Q := KPost (k_impl_keyOf M w r)) ?_ (fun e a c8 h => ?_)
 rotate_left
 ·cases e
  case ret =>
   obtain ⟨σ, rfl, hrest⟩ := h
   exact ret1x Try.results112 (res_tmp rfl) ⟨rfl, hrest⟩
  all_goals exact (h : False).elim
 refine c_sr ?_
 refine pl_val (.string ByteArray.empty) (y_assign rfl) ?_
 refine c_nil ?_
 refine c_sr ?_
 refine pl_val (.slice pa0 pn0 pc0) (y_move rfl) ?_
 refine pl_val (.int .i64 (list.length : Int)) (y_len' Sl41 (rs_len h0) rfl) ?_
 refine pl_val (.int .i64 (w64 (2 * (list.length : Int)))) (y_mul rfl rfl) ?_
 obtain ⟨u3, c9, hs⟩ := bind_some hs
 obtain ⟨b1, b2, b3, d0, d1, d2, b4, d3, b5⟩ := mk_cap (M := M) (w := w) (r := (RT.int .u8)) (x := (0 : Int)) Rw152 c9 (fun _ _ => ⟨rfl, rfl⟩)
 refine pl_val (w' := d0) (.slice b1 b2 b3) (y_make rfl rfl d2) ?_
 have h0 := h0.ext b4
 have hC := hC.ext b4
 have hO := hO.new b4 d3 (os_nodup b5) b5.fpl
 refine pl_val (.slice b1 b2 b3) (y_assign rfl) ?_
 refine c_nil ?_
 refine c_seq ?_
 refine c_sr ?_
 refine pl_val (.slice pa0 pn0 pc0) (y_move rfl) ?_
 refine pl_val (.int .i64 (list.length : Int)) (y_len' Sl41 (rs_len h0) rfl) ?_
 refine pl_val (.int .i64 0) (y_move rfl) ?_
 refine c_nil ?_
 obtain ⟨o17, d4, hs⟩ := bind_some hs
 refine wp_block ?_
 refine wp_forR (id := 0) (I := fun i_ xs_ s13 a a0 => ∃ a1 : Nat, i_ = (a1 : Int) ∧ List.drop a1 list = xs_ ∧ (∃ (σ : Nat → Value) (a2 : Option Addr) (a3 : Nat) (a4 : Nat) (a6 : List Nat), a = fr 27 (ovl σ [(3, (.slice a2 a3 a4)), (10, (.slice pa0 pn0 pc0)), (11, (.int .i64 (list.length : Int))), (12, (.int .i64 (a1 : Int)))]) ∧ Chg [] w a0 ∧ Own (Nw w []) M a0 (a6 ++ []) ∧ (RT.rs (RT.int .i64)).val M a0 (.slice pa0 pn0 pc0) list ([]) ∧ (RT.os 5 (RT.int .u8)).val M a0 (.slice a2 a3 a4) s13 a6)) (J := fun s13 a a0 => ∃ (σ : Nat → Value) (a7 : Option Addr) (a8 : Nat) (a9 : Nat) (b6 : List Nat), a = fr 27 (ovl σ [(3, (.slice a7 a8 a9))]) ∧ Chg [] w a0 ∧ Own (Nw w []) M a0 (b6 ++ []) ∧ (RT.rs (RT.int .i64)).val M a0 (.slice pa0 pn0 pc0) list ([]) ∧ (RT.os 5 (RT.int .u8)).val M a0 (.slice a7 a8 a9) s13 b6) (K := (k_impl_keyOf M w)) ?_ ?_ list 0 (List.replicate (Int.toNat 0) (0 : Int)) o17 _ _ ?_ d4 ?_
 ·rintro _ s13 a a0 ⟨a1, rfl, hd, σ, a2, a3, a4, a6, rfl, hC, hO, h0, a5⟩
  have hlt := drop_nil_ge hd
  refine c_sr ?_
  refine pl_val (.bool (decide ((a1 : Int) < (list.length : Int)))) (y_lss rfl rfl) ?_
  refine c_nil ?_
  refine c_seq ?_
  refine c_condF (congrArg Value.bool (decide_eq_false hlt)) ?_
  refine wp_exit ?_
  exact ⟨rfl, _, a2, a3, a4, a6, fr_ovl 27 ⟨rfl, trivial⟩, hC, hO, h0, a5⟩
 ·rintro _ x16 xs_ s13 o17 a a0 ⟨a1, rfl, hd, σ, a2, a3, a4, a6, rfl, hC, hO, h0, a5⟩ hs
  have hlt := drop_cons_lt hd
  have d5 := drop_cons_idx hd
  refine c_sr ?_
  refine pl_val (.bool (decide ((a1 : Int) < (list.length : Int)))) (y_lss rfl rfl) ?_
  refine c_nil ?_
  refine c_seq ?_
  refine c_condT (congrArg Value.bool (decide_eq_true hlt)) ?_
  refine wp_skip ?_
  refine c_seq ?_
  refine wp_block ?_
  refine c_sr ?_
  obtain ⟨d6, d7, d8, d9⟩ := rs_idx Sl41 Sz3 h0 d5
  refine pl_val (.pointer (some ⟨d6, d7, none⟩)) (d8 _ _ _ _ _ _ _ _ _ rfl rfl) ?_
  refine pl_val (.int .i64 x16) (y_load rfl ((at_load_int Ag3 Sz3 d9) _ (Chg.refl _ _))) ?_
  refine pl_val (.int .i64 x16) (y_assign rfl) ?_
  refine c_nil ?_
  refine c_region ?_
  refine pl_val (.slice a2 a3 a4) (y_move rfl) ?_
  refine pl_val (.int .i64 x16) (y_move rfl) ?_
  refine pl_val (.int .i64 (ishr .i64 x16 8)) (y_shr rfl rfl (by decide)) ?_
  refine pl_val (.int .u8 (IntKind.u8.wrap (ishr .i64 x16 8))) (y_conv_int Try.underlying3 Try.underlying5 rfl) ?_
  refine pl_val (.int .i64 x16) (y_move rfl) ?_
  refine pl_val (.int .u8 (IntKind.u8.wrap x16)) (y_conv_int Try.underlying3 Try.underlying5 rfl) ?_
  obtain ⟨c4, b7, e0, c5, b0, c6⟩ := new_block a0 [(.int .u8 (IntKind.u8.wrap (ishr .i64 x16 8))), (.int .u8 (IntKind.u8.wrap x16))] 5
  refine pl_val (w' := c4) (.slice (some ⟨b7, 0, none⟩) 2 2) (y_bslice rfl (by rw [e0, c5]; kernel_rfl)) ?_
  have h0 := h0.ext b0
  have a5 := a5.ext b0
  have hC := hC.ext b0
  have hO := hO.new1 b0 c5 c6.lt
  have b8 := os_of_box (r := (RT.int .u8)) (M := M) (css := [[(.int .u8 (IntKind.u8.wrap (ishr .i64 x16 8)))], [(.int .u8 (IntKind.u8.wrap x16))]]) (fps := [([] : List Nat), ([] : List Nat)]) (xs := ([IntKind.u8.wrap (ishr .i64 x16 8), IntKind.u8.wrap x16] : List Int)) c6 ⟨⟨rfl, rfl⟩, ⟨⟨rfl, rfl⟩, trivial⟩⟩ (Nat.le_of_ble_eq_true rfl) (List.nodup_cons.2 ⟨(fun h => nomatch h), List.nodup_nil⟩)
  have b8 : (RT.os 5 (RT.int .u8)).val M c4 (.slice (some ⟨b7, 0, none⟩) 2 2) [IntKind.u8.wrap (ishr .i64 x16 8), IntKind.u8.wrap x16] [b7] := b8
  obtain ⟨y27, e1, hs⟩ := bind_some hs
  have hO := hO.fr1
  obtain ⟨b9, c0, c1, e2, e3, e4, c2, e5, c3⟩ := app_os Rw152 e1 a5 b8 hO.inM (fun g hg hq => hO.apart g hq (mem_l hg))
  have c7 := os_block a5
  refine pl_val (w' := e2) (.slice b9 c0 c1) (y_append rfl rfl (e4 _)) ?_
  have hO := hO.fr1
  have hO := hO.fr1
  have h0 := h0.mt c2 hO c7
  have hC := hC.st c2 hO c7
  have hO := hO.eat c2 e5 (os_nodup c3) c3.fpl
  refine pl_val (.slice b9 c0 c1) (y_assign rfl) ?_
  refine c_nil ?_
  refine c_region ?_
  refine pl_val (.int .i64 (w64 ((a1 : Int) + 1))) (y_add rfl rfl) ?_
  refine pl_val (.int .i64 (w64 ((a1 : Int) + 1))) (y_move rfl) ?_
  refine c_nil ?_
  cases hs
  exact ⟨_, rfl, drop_cons_next hd, _, b9, c0, c1, e3, fr_ovl 27 ⟨rfl, rfl, rfl, congrArg (Value.int .i64) (w64_succ hlt (Int.natCast_nonneg _) (rs_max h0)), trivial⟩, hC, hO, h0, c3⟩
 ·skip
  exact ⟨0, rfl, rfl, _, b1, b2, b3, d1, fr_ovl 27 ⟨rfl, rfl, rfl, rfl, trivial⟩, hC, hO, h0, b5⟩
 cases o17 with
 | nx _ => exact True.intro
 | rt r_ =>
  have hs := after_rt hs
  intro e6 c8 hK
  cases hs
  exact hK
 | br s13 =>
  have hs := after_br hs
  rintro e6 a0 ⟨σ, a7, a8, a9, b6, rfl, hC, hO, h0, e7⟩
  refine c_sr ?_
  refine pl_val (.slice a7 a8 a9) (y_move rfl) ?_
  refine pl_val (.string (bstr s13)) (y_str Try.underlying152 Try.underlying9 Try.underlying5 e7 rfl) ?_
  refine pl_val (.string (bstr s13)) (y_assign rfl) ?_
  refine c_nil ?_
  refine wp_ret ?_
  cases hs
  exact ⟨_, fr_ovl 27 ⟨rfl, trivial⟩, hC⟩

theorem Bd112 : Bodied Try.prog 112 := bodied Try.func112 (by kernel_rfl) rfl

end Go.Proofs
