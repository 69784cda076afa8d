/- What functions of the program compute, as plain functions, and that a call gives just that. Conditions: those named in each theorem. -/
import Derived.Test.YtbicnacclhhlkaaF2
set_option linter.unusedVariables false
namespace Go.Proofs
open Go.G Go.RowKit
set_option maxRecDepth 100000

def k_laws_markIntSS (M : Nat → Prop) (w0 : World) (qa0 : Option Addr) (qn0 qc0 : Nat) (qf0 : List Nat) (r : Int × (List (List Int))) (a : Act) (w : World) : Prop :=
  ∃ (σ : Nat → Value) (rfi0 : List Nat), a = fr 19 (ovl σ [(4, (.int .i64 r.1))]) ∧ Chg (qf0 ++ ([])) w0 w ∧ (RT.os 41 (RT.os 3 (RT.int .i64))).val M w (.slice qa0 qn0 qc0) r.2 rfi0 ∧ Own (Nw w0 (qf0 ++ ([]))) (fun _ => True) w (rfi0 ++ ([]))
def s_laws_markIntSS (a_ : List (List Int)) (k : Int) : Option (Int × (List (List Int))) :=
  (iter (S := Int × Int × (List (List Int))) (R := Int × (List (List Int))) (fun s37 =>
  (bif (decide (s37.2.1 < (s37.2.2.length : Int))) then (idx s37.2.2 s37.2.1).bind fun x46 =>
  (s_laws_markIntS x46 s37.1).bind fun r51 =>
  some (.nx (r51.1, w64 (s37.2.1 + 1), List.set s37.2.2 (Int.toNat s37.2.1) r51.2)) else some (.br (s37.1, s37.2.1, s37.2.2)))) FU (k, 0, a_)).bind fun o41 => after o41 (fun r_ => some r_) (fun s37 =>
  some (s37.1, s37.2.2))
set_option maxHeartbeats 4000000 in
theorem c_laws_markIntSS {M : Nat → Prop} {w : World} {pa0 : Option Addr} {pn0 pc0 : Nat} {pf0 : List Nat} (a_ : List (List Int)) (k : Int) (h0 : (RT.os 41 (RT.os 3 (RT.int .i64))).val M w (.slice pa0 pn0 pc0) a_ pf0) (hI : Own (Nw w (pf0 ++ ([]))) M w (pf0 ++ ([]))) (hM : ∀ g, w.heap.size ≤ g → M g) {r : Int × (List (List Int))} (hs : s_laws_markIntSS a_ k = some r) :
    Gives Try.prog 38 [(.slice pa0 pn0 pc0), (.int .i64 k)] w (fun v w' => ∃ (rfi0 : List Nat), v = (.int .i64 r.1) ∧ Chg (pf0 ++ ([])) w w' ∧ (RT.os 41 (RT.os 3 (RT.int .i64))).val M w' (.slice pa0 pn0 pc0) r.2 rfi0 ∧ Own (Nw w (pf0 ++ ([]))) (fun _ => True) w' (rfi0 ++ ([]))) := by
 refine calls_fr Try.func38 rfl Try.ntmps38 (Nat.le_of_ble_eq_true rfl) ?_
 have hO := hI
 have hC := Chg.refl (pf0 ++ ([])) w
 unfold s_laws_markIntSS at hs
 refine wp_mono (Q := KPost (k_laws_markIntSS M w pa0 pn0 pc0 pf0 r)) ?_ (fun e a b5 h => ?_)
 rotate_left
 ·cases e
  case ret =>
   obtain ⟨σ, rfi0, rfl, hrest⟩ := h
   exact ret1x Try.results38 (res_tmp rfl) ⟨rfi0, rfl, hrest⟩
  all_goals exact (h : False).elim
 refine c_sr ?_
 refine pl_val (.int .i64 0) (y_assign rfl) ?_
 refine c_nil ?_
 refine c_seq ?_
 refine c_sr ?_
 refine pl_val (.int .i64 0) (y_assign rfl) ?_
 refine c_nil ?_
 obtain ⟨o41, b6, hs⟩ := bind_some hs
 refine wp_block ?_
 refine wp_iter (id := 0) (I := fun s37 a a0 => ∃ (σ : Nat → Value) (a1 : List Nat), a = fr 19 (ovl σ [(0, (.slice pa0 pn0 pc0)), (1, (.int .i64 s37.1)), (5, (.int .i64 s37.2.1))]) ∧ Chg (pf0 ++ ([])) w a0 ∧ Own (Nw w (pf0 ++ ([]))) M a0 (a1 ++ []) ∧ (RT.os 41 (RT.os 3 (RT.int .i64))).val M a0 (.slice pa0 pn0 pc0) s37.2.2 a1) (J := fun s37 a a0 => ∃ (σ : Nat → Value) (a3 : List Nat), a = fr 19 (ovl σ [(1, (.int .i64 s37.1))]) ∧ Chg (pf0 ++ ([])) w a0 ∧ Own (Nw w (pf0 ++ ([]))) M a0 (a3 ++ []) ∧ (RT.os 41 (RT.os 3 (RT.int .i64))).val M a0 (.slice pa0 pn0 pc0) s37.2.2 a3) (K := (k_laws_markIntSS M w pa0 pn0 pc0 pf0)) ?_ FU (k, 0, a_) o41 _ _ ?_ b6 ?_
 ·rintro s37 o41 a a0 ⟨σ, a1, rfl, hC, hO, a4⟩ hs
  refine c_seq ?_
  refine c_sr ?_
  refine pl_val (.int .i64 s37.2.1) (y_move rfl) ?_
  refine pl_val (.slice pa0 pn0 pc0) (y_move rfl) ?_
  refine pl_val (.int .i64 (s37.2.2.length : Int)) (y_len' Sl47 (os_len a4) rfl) ?_
  refine pl_val (.bool (decide (s37.2.1 < (s37.2.2.length : Int)))) (y_lss rfl rfl) ?_
  refine c_nil ?_
  rcases bif_some hs with ⟨a5, hs⟩ | ⟨a5, hs⟩
  ·refine c_condT (congrArg Value.bool a5) ?_
   refine wp_skip ?_
   refine c_seq ?_
   refine wp_block ?_
   refine c_region ?_
   refine pl_val (.slice pa0 pn0 pc0) (y_move rfl) ?_
   refine pl_val (.int .i64 s37.2.1) (y_move rfl) ?_
   obtain ⟨x46, a8, hs⟩ := bind_some hs
   obtain ⟨b7, d9, b8, e0, b9, c0, c1⟩ := os_idx Sl47 Sz41 a4 a8
   have c2 := own_row (Frz.os Frz.int) c0 c1
   refine pl_val (.pointer (some ⟨b7, 0 + Int.toNat s37.2.1 * 1, none⟩)) (b9 _ _ _ _ _ _ _ _ _ rfl rfl) ?_
   obtain ⟨e1, c3, hrow48, c4⟩ := at_load1 Ag41 Sz41 rfl rfl c2
   obtain ⟨a9, b0, b1, rfl⟩ := rs_sl c4
   refine pl_val (.slice a9 b0 b1) (y_load rfl (c3 _ (Chg.refl _ _))) ?_
   refine pl_val (.int .i64 s37.1) (y_move rfl) ?_
   obtain ⟨a2, c5, c6, c7, hput50⟩ := os_put b8 a4 a8 hrow48 rfl hO.inM
   have c8 : (RT.os 3 (RT.int .i64)).val M a0 (.slice a9 b0 b1) x46 a2 := ⟨[_], rfl, c5⟩
   have b2 : ∀ q ∈ (a2 ++ ([])), q ∈ a1 := fun q hq => c6 q (by simpa using hq)
   have c9 : List.Nodup (a2 ++ ([])) := by simpa using c7
   have d0 := hO
   have b3 := Own.part (X := (a2 ++ ([]))) (d0) b2 c9
   obtain ⟨r51, d1, hs⟩ := bind_some hs
   refine pl_call Bd33 rfl (c_laws_markIntS (M := M) x46 s37.1 c8 b3 b3.fut d1) ?_
   rintro _ d2 ⟨d3, rfl, a6, d4, b4⟩
   obtain ⟨d5, a7, d6⟩ := hput50 d2 (a2 ++ ([])) r51.2 d3 a6 (fun q hq => by simpa using hq) (os_unval d4) (by simpa using b4.1) (fun q hq => (b4.2.1 q (by simpa using hq)).2.2.imp (fun h => by simpa using h) id)
   have hC := hC.st a6 hO b2
   have hO := hO.grow a6 d6 (os_nodup a7) a7.fpl
   refine pl_val (.int .i64 r51.1) (y_assign rfl) ?_
   refine c_nil ?_
   refine c_region ?_
   refine pl_val (.int .i64 s37.2.1) (y_move rfl) ?_
   refine pl_val (.int .i64 (w64 (s37.2.1 + 1))) (y_add rfl rfl) ?_
   refine pl_val (.int .i64 (w64 (s37.2.1 + 1))) (y_assign rfl) ?_
   refine c_nil ?_
   cases hs
   exact ⟨_, d5, fr_ovl 19 ⟨rfl, rfl, rfl, trivial⟩, hC, hO, a7⟩
  refine c_condF (congrArg Value.bool a5) ?_
  refine wp_exit ?_
  cases hs
  exact ⟨rfl, _, a1, fr_ovl 19 ⟨rfl, trivial⟩, hC, hO, a4⟩
 ·skip
  exact ⟨_, pf0, fr_ovl 19 ⟨rfl, rfl, rfl, trivial⟩, hC, hO, h0⟩
 cases o41 with
 | nx _ => exact True.intro
 | rt r_ =>
  have hs := after_rt hs
  intro d7 b5 hK
  cases hs
  exact hK
 | br s37 =>
  have hs := after_br hs
  rintro d7 a0 ⟨σ, a3, rfl, hC, hO, d8⟩
  refine c_sr ?_
  refine pl_val (.int .i64 s37.1) (y_move rfl) ?_
  refine pl_val (.int .i64 s37.1) (y_assign rfl) ?_
  refine c_nil ?_
  refine wp_ret ?_
  cases hs
  exact ⟨_, a3, fr_ovl 19 ⟨rfl, trivial⟩, hC, d8, hO.top⟩

theorem Bd38 : Bodied Try.prog 38 := bodied Try.func38 (by kernel_rfl) rfl

def k_laws_markConstraintS (M : Nat → Prop) (w0 : World) (qa0 : Option Addr) (qn0 qc0 : Nat) (qf0 : List Nat) (r : Int × (List ((List Int) × (Int × (List (List Int)))))) (a : Act) (w : World) : Prop :=
  ∃ (σ : Nat → Value) (rfi0 : List Nat), a = fr 36 (ovl σ [(4, (.int .i64 r.1))]) ∧ Chg (qf0 ++ ([])) w0 w ∧ (RT.os 56 (RT.pr (RT.os 3 (RT.int .i64)) (RT.pr (RT.int .i64) (RT.os 41 (RT.os 3 (RT.int .i64)))))).val M w (.slice qa0 qn0 qc0) r.2 rfi0 ∧ Own (Nw w0 (qf0 ++ ([]))) (fun _ => True) w (rfi0 ++ ([]))
def s_laws_markConstraintS (a_ : List ((List Int) × (Int × (List (List Int))))) (k : Int) : Option (Int × (List ((List Int) × (Int × (List (List Int)))))) :=
  (iter (S := Int × Int × (List ((List Int) × (Int × (List (List Int)))))) (R := Int × (List ((List Int) × (Int × (List (List Int)))))) (fun s102 =>
  (bif (decide (s102.2.1 < (s102.2.2.length : Int))) then (idx s102.2.2 s102.2.1).bind fun x111 =>
  (s_laws_markIntS x111.1 s102.1).bind fun r118 =>
  (idx (List.set s102.2.2 (Int.toNat s102.2.1) (r118.2, (x111.2.1, x111.2.2))) s102.2.1).bind fun x119 =>
  (idx (List.set (List.set s102.2.2 (Int.toNat s102.2.1) (r118.2, (x111.2.1, x111.2.2))) (Int.toNat s102.2.1) (x119.1, (r118.1, x119.2.2))) s102.2.1).bind fun x124 =>
  (s_laws_markIntSS x124.2.2 (w64 (r118.1 + 1))).bind fun r132 =>
  some (.nx (r132.1, w64 (s102.2.1 + 1), List.set (List.set (List.set s102.2.2 (Int.toNat s102.2.1) (r118.2, (x111.2.1, x111.2.2))) (Int.toNat s102.2.1) (x119.1, (r118.1, x119.2.2))) (Int.toNat s102.2.1) (x124.1, (x124.2.1, r132.2)))) else some (.br (s102.1, s102.2.1, s102.2.2)))) FU (k, 0, a_)).bind fun o106 => after o106 (fun r_ => some r_) (fun s102 =>
  some (s102.1, s102.2.2))
set_option maxHeartbeats 4000000 in
theorem c_laws_markConstraintS {M : Nat → Prop} {w : World} {pa0 : Option Addr} {pn0 pc0 : Nat} {pf0 : List Nat} (a_ : List ((List Int) × (Int × (List (List Int))))) (k : Int) (h0 : (RT.os 56 (RT.pr (RT.os 3 (RT.int .i64)) (RT.pr (RT.int .i64) (RT.os 41 (RT.os 3 (RT.int .i64)))))).val M w (.slice pa0 pn0 pc0) a_ pf0) (hI : Own (Nw w (pf0 ++ ([]))) M w (pf0 ++ ([]))) (hM : ∀ g, w.heap.size ≤ g → M g) {r : Int × (List ((List Int) × (Int × (List (List Int)))))} (hs : s_laws_markConstraintS a_ k = some r) :
    Gives Try.prog 84 [(.slice pa0 pn0 pc0), (.int .i64 k)] w (fun v w' => ∃ (rfi0 : List Nat), v = (.int .i64 r.1) ∧ Chg (pf0 ++ ([])) w w' ∧ (RT.os 56 (RT.pr (RT.os 3 (RT.int .i64)) (RT.pr (RT.int .i64) (RT.os 41 (RT.os 3 (RT.int .i64)))))).val M w' (.slice pa0 pn0 pc0) r.2 rfi0 ∧ Own (Nw w (pf0 ++ ([]))) (fun _ => True) w' (rfi0 ++ ([]))) := by
 refine calls_fr Try.func84 rfl Try.ntmps84 (Nat.le_of_ble_eq_true rfl) ?_
 have hO := hI
 have hC := Chg.refl (pf0 ++ ([])) w
 unfold s_laws_markConstraintS at hs
 refine wp_mono (Q := KPost (k_laws_markConstraintS M w pa0 pn0 pc0 pf0 r)) ?_ (fun e a f8 h => ?_)
 rotate_left
 ·cases e
  case ret =>
   obtain ⟨σ, rfi0, rfl, hrest⟩ := h
   exact ret1x Try.results84 (res_tmp rfl) ⟨rfi0, rfl, hrest⟩
  all_goals exact (h : False).elim
 refine c_sr ?_
 refine pl_val (.int .i64 0) (y_assign rfl) ?_
 refine c_nil ?_
 refine c_seq ?_
 refine c_sr ?_
 refine pl_val (.int .i64 0) (y_assign rfl) ?_
 refine c_nil ?_
 obtain ⟨o106, f9, hs⟩ := bind_some hs
 refine wp_block ?_
 refine wp_iter (id := 0) (I := fun s102 a a0 => ∃ (σ : Nat → Value) (a4 : List Nat), a = fr 36 (ovl σ [(0, (.slice pa0 pn0 pc0)), (1, (.int .i64 s102.1)), (5, (.int .i64 s102.2.1))]) ∧ Chg (pf0 ++ ([])) w a0 ∧ Own (Nw w (pf0 ++ ([]))) M a0 (a4 ++ []) ∧ (RT.os 56 (RT.pr (RT.os 3 (RT.int .i64)) (RT.pr (RT.int .i64) (RT.os 41 (RT.os 3 (RT.int .i64)))))).val M a0 (.slice pa0 pn0 pc0) s102.2.2 a4) (J := fun s102 a a0 => ∃ (σ : Nat → Value) (a9 : List Nat), a = fr 36 (ovl σ [(1, (.int .i64 s102.1))]) ∧ Chg (pf0 ++ ([])) w a0 ∧ Own (Nw w (pf0 ++ ([]))) M a0 (a9 ++ []) ∧ (RT.os 56 (RT.pr (RT.os 3 (RT.int .i64)) (RT.pr (RT.int .i64) (RT.os 41 (RT.os 3 (RT.int .i64)))))).val M a0 (.slice pa0 pn0 pc0) s102.2.2 a9) (K := (k_laws_markConstraintS M w pa0 pn0 pc0 pf0)) ?_ FU (k, 0, a_) o106 _ _ ?_ f9 ?_
 ·rintro s102 o106 a a0 ⟨σ, a4, rfl, hC, hO, b0⟩ hs
  refine c_seq ?_
  refine c_sr ?_
  refine pl_val (.int .i64 s102.2.1) (y_move rfl) ?_
  refine pl_val (.slice pa0 pn0 pc0) (y_move rfl) ?_
  refine pl_val (.int .i64 (s102.2.2.length : Int)) (y_len' Sl28 (os_len b0) rfl) ?_
  refine pl_val (.bool (decide (s102.2.1 < (s102.2.2.length : Int)))) (y_lss rfl rfl) ?_
  refine c_nil ?_
  rcases bif_some hs with ⟨c1, hs⟩ | ⟨c1, hs⟩
  ·refine c_condT (congrArg Value.bool c1) ?_
   refine wp_skip ?_
   refine c_seq ?_
   refine wp_block ?_
   refine c_sr ?_
   refine pl_val (.slice pa0 pn0 pc0) (y_move rfl) ?_
   refine pl_val (.int .i64 s102.2.1) (y_move rfl) ?_
   obtain ⟨x111, d4, hs⟩ := bind_some hs
   obtain ⟨d5, m9, g0, n0, g1, g2, g3⟩ := os_idx Sl28 Sz56 b0 d4
   have d6 := own_row (Frz.pr (Frz.os Frz.int) (Frz.pr Frz.int (Frz.os (Frz.os Frz.int)))) g2 g3
   refine pl_val (.pointer (some ⟨d5, 0 + Int.toNat s102.2.1 * 3, none⟩)) (g1 _ _ _ _ _ _ _ _ _ rfl rfl) ?_
   obtain ⟨n1, _⟩ := pr_at d6
   refine pl_val (.pointer (some ⟨d5, (0 + Int.toNat s102.2.1 * 3) + 0, none⟩)) (y_faddr rfl Fa56x0) ?_
   obtain ⟨n2, hrow114, g4⟩ := at_open d6
   obtain ⟨n3, n4, rfl, g5, g6⟩ := pr_open g4
   obtain ⟨b1, b2, b3, rfl, n5⟩ := rs_rel g5
   obtain ⟨n6, n7, rfl, g7, g8⟩ := pr_open g6
   obtain rfl := int_rel g7
   obtain ⟨c2, c3, c4, rfl, n8⟩ := rs_rel g8
   refine pl_val (.slice b1 b2 b3) (y_load rfl ((part_load (l1 := []) (c := [(.slice b1 b2 b3)]) (l2 := [(.int .i64 x111.2.1), (.slice c2 c3 c4)]) Ag41 Sz41 hrow114 rfl rfl (fun _ => rfl)) _ (Chg.refl _ _))) ?_
   refine pl_val (.int .i64 s102.1) (y_move rfl) ?_
   obtain ⟨n9, g9, h1, c5, hput117⟩ := os_put g0 b0 d4 hrow114 rfl hO.inM
   obtain ⟨a1, o0, rfl, h2, h3⟩ := pr_split (c := [(.slice b1 b2 b3)]) (d := [(.int .i64 x111.2.1), (.slice c2 c3 c4)]) g9 rfl
   obtain ⟨o1, b4, rfl, h4, d7⟩ := pr_split (c := [(.int .i64 x111.2.1)]) (d := [(.slice c2 c3 c4)]) h3 rfl
   obtain rfl := int_fp h4
   have h5 : (RT.os 3 (RT.int .i64)).val M a0 (.slice b1 b2 b3) x111.1 a1 := ⟨[_], rfl, h2⟩
   have c6 : ∀ q ∈ (a1 ++ ([])), q ∈ a4 := fun q hq => h1 q (by simp only [List.mem_append, List.not_mem_nil, or_false] at hq; simp [hq])
   have h6 : List.Nodup (a1 ++ ([])) := by simpa using (List.nodup_append.1 (show List.Nodup (a1 ++ b4) by simpa using c5)).1
   have h7 := hO
   have d8 := Own.part (X := (a1 ++ ([]))) (h7) c6 h6
   obtain ⟨r118, h8, hs⟩ := bind_some hs
   refine pl_call Bd33 rfl (c_laws_markIntS (M := M) x111.1 s102.1 h5 d8 d8.fut h8) ?_
   rintro _ d9 ⟨e0, rfl, b5, h9, c7⟩
   obtain ⟨i0, b6, i1⟩ := hput117 d9 (a1 ++ ([])) (r118.2, (x111.2.1, x111.2.2)) (e0 ++ (([] : List Nat) ++ b4)) b5 (fun q hq => by simp only [List.mem_append, List.not_mem_nil, or_false] at hq; simp [hq]) ⟨_, _, _, _, rfl, rfl, (os_unval h9), ⟨_, _, _, _, rfl, rfl, ⟨rfl, rfl⟩, (RT.mono _ d7 b5 (fun q hq => .inl (hO.inM q (c6 q hq))) (fun q hq hq' => (fun A B (hd : (A ++ B).Nodup) (ha : q ∈ A) (hb : q ∈ B) => (List.nodup_append.1 hd).2.2 q ha q hb rfl) a1 b4 (by simpa using c5) (by simpa using hq) hq') (fun _ h => .inl h))⟩⟩ (by simpa using nd_first (X := a1) (X' := e0) (s := (a0).heap.size) (show List.Nodup (a1 ++ b4) by simpa using c5) (by simpa using c7.1) (fun q hq => (c7.2.1 q (by simpa using hq)).2.2.imp (fun h => by simpa using h) id) (fun q hq => RT.fpl _ d7 q hq)) (fun q hq => by simp only [List.mem_append, List.not_mem_nil, or_false, false_or] at hq ⊢; rcases hq with hq | hq <;> first | exact .inl (by simp [hq]) | exact ((fun q hq => (c7.2.1 q (by simpa using hq)).2.2.imp (fun h => by simpa using h) id) q hq).imp (fun h => by simp [h]) id)
   have hC := hC.st b5 hO c6
   have hO := hO.grow b5 i1 (os_nodup b6) b6.fpl
   refine pl_val (.int .i64 r118.1) (y_assign rfl) ?_
   refine c_nil ?_
   refine c_sr ?_
   refine pl_val (.slice pa0 pn0 pc0) (y_move rfl) ?_
   refine pl_val (.int .i64 s102.2.1) (y_move rfl) ?_
   refine pl_val (.int .i64 r118.1) (y_move rfl) ?_
   obtain ⟨x119, e1, hs⟩ := bind_some hs
   obtain ⟨a3, o2, i2, o3, i3, i4, i5⟩ := os_idx Sl28 Sz56 b6 e1
   have i6 := own_row (Frz.pr (Frz.os Frz.int) (Frz.pr Frz.int (Frz.os (Frz.os Frz.int)))) i4 i5
   refine pl_val (.pointer (some ⟨a3, 0 + Int.toNat s102.2.1 * 3, none⟩)) (i3 _ _ _ _ _ _ _ _ _ rfl rfl) ?_
   obtain ⟨_, i7⟩ := pr_at i6
   refine pl_val (.pointer (some ⟨a3, (0 + Int.toNat s102.2.1 * 3) + 1, none⟩)) (y_faddr rfl Fa56x1) ?_
   obtain ⟨o4, _⟩ := pr_at i7
   refine pl_val (.pointer (some ⟨a3, ((0 + Int.toNat s102.2.1 * 3) + 1) + 0, none⟩)) (y_faddr rfl Fa54x0) ?_
   obtain ⟨e2, o5, i9, o6, j0, o7, j1, j2, o8, j3, e3, e4, hput123⟩ := os_focus i2 b6 e1 hO.inM
   obtain ⟨c8, o9, j4, p0, rfl, rfl, e5, j5⟩ := j2
   obtain ⟨p1, e6, p2, j6, rfl, rfl, j7, e7⟩ := j5
   obtain ⟨rfl, rfl⟩ := j7
   have j8 := RT.len _ e5
   have p3 := RT.len _ e7
   obtain ⟨b7, e8, a5, j9⟩ := box_store (P := Try.prog) j1 (e2 ++ c8) [(Value.int .i64 x119.2.1)] (e6 ++ (i9)) [(Value.int .i64 r118.1)] (by simp) rfl (by intro u hu; rw [List.mem_singleton.1 hu]; rfl)
   have k0 : (e2 ++ c8).length = (((0 + Int.toNat s102.2.1 * 3) + 1) + 0) := by
    simp only [List.length_append, j0, j8]
    try rfl
   rw [k0] at e8
   have e9 : ∀ q ∈ [a3], M q ∨ (d9).heap.size ≤ q := fun q hq => .inl (by rw [List.mem_singleton.1 hq]; exact hO.inM _ e3)
   obtain ⟨k1, b8, k2⟩ := hput123 b7 [a3] (c8 ++ ([(Value.int .i64 r118.1)] ++ e6)) (x119.1, (r118.1, x119.2.2)) (j4 ++ (([] : List Nat) ++ j6)) a5 (fun q hq => .inl (List.mem_singleton.1 hq)) (by simpa using j9) ⟨_, _, _, _, rfl, rfl, (RT.mono _ e5 a5 e9 (fun q hq hq' => e4 (by rw [List.mem_singleton.1 hq] at hq'; simp [hq'])) (fun _ h => .inl h)), ⟨_, _, _, _, rfl, rfl, ⟨rfl, rfl⟩, (RT.mono _ e7 a5 e9 (fun q hq hq' => e4 (by rw [List.mem_singleton.1 hq] at hq'; simp [hq'])) (fun _ h => .inl h))⟩⟩ j3 (fun q hq => .inl hq)
   refine pl_skip (w' := b7) (ys_store rfl rfl (e8 _ _ rfl Sz3)) ?_
   have k3 : ∀ q ∈ [a3], q ∈ i0 := fun q hq => by rw [List.mem_singleton.1 hq]; exact e3
   have hC := hC.st a5 hO k3
   have hO := hO.grow a5 k2 (os_nodup b8) b8.fpl
   refine c_nil ?_
   refine c_sr ?_
   refine pl_val (.int .i64 r118.1) (y_move rfl) ?_
   refine pl_val (.int .i64 (w64 (r118.1 + 1))) (y_add rfl rfl) ?_
   refine pl_val (.int .i64 (w64 (r118.1 + 1))) (y_assign rfl) ?_
   refine c_nil ?_
   refine c_region ?_
   refine pl_val (.slice pa0 pn0 pc0) (y_move rfl) ?_
   refine pl_val (.int .i64 s102.2.1) (y_move rfl) ?_
   obtain ⟨x124, f0, hs⟩ := bind_some hs
   obtain ⟨c9, p4, k4, p5, k5, k6, k7⟩ := os_idx Sl28 Sz56 b8 f0
   have f1 := own_row (Frz.pr (Frz.os Frz.int) (Frz.pr Frz.int (Frz.os (Frz.os Frz.int)))) k6 k7
   refine pl_val (.pointer (some ⟨c9, 0 + Int.toNat s102.2.1 * 3, none⟩)) (k5 _ _ _ _ _ _ _ _ _ rfl rfl) ?_
   obtain ⟨_, k8⟩ := pr_at f1
   refine pl_val (.pointer (some ⟨c9, (0 + Int.toNat s102.2.1 * 3) + 1, none⟩)) (y_faddr rfl Fa56x1) ?_
   obtain ⟨_, p6⟩ := pr_at k8
   refine pl_val (.pointer (some ⟨c9, ((0 + Int.toNat s102.2.1 * 3) + 1) + 1, none⟩)) (y_faddr rfl Fa54x1) ?_
   obtain ⟨p7, hrow128, k9⟩ := at_open f1
   obtain ⟨p8, p9, rfl, l0, l1⟩ := pr_open k9
   obtain ⟨f2, f3, f4, rfl, q0⟩ := rs_rel l0
   obtain ⟨q1, q2, rfl, l2, l3⟩ := pr_open l1
   obtain rfl := int_rel l2
   obtain ⟨a6, a7, a8, rfl, q3⟩ := rs_rel l3
   refine pl_val (.slice a6 a7 a8) (y_load rfl ((part_load (l1 := [(.slice f2 f3 f4), (.int .i64 x124.2.1)]) (c := [(.slice a6 a7 a8)]) (l2 := []) Ag47 Sz47 hrow128 rfl rfl (fun _ => rfl)) _ (Chg.refl _ _))) ?_
   refine pl_val (.int .i64 (w64 (r118.1 + 1))) (y_move rfl) ?_
   obtain ⟨q4, l4, l5, d0, hput131⟩ := os_put k4 b8 f0 hrow128 rfl hO.inM
   obtain ⟨b9, q5, rfl, f5, l6⟩ := pr_split (c := [(.slice f2 f3 f4)]) (d := [(.int .i64 x124.2.1), (.slice a6 a7 a8)]) l4 rfl
   obtain ⟨q6, a2, rfl, l7, l8⟩ := pr_split (c := [(.int .i64 x124.2.1)]) (d := [(.slice a6 a7 a8)]) l6 rfl
   obtain rfl := int_fp l7
   have l9 : (RT.os 41 (RT.os 3 (RT.int .i64))).val M b7 (.slice a6 a7 a8) x124.2.2 a2 := ⟨[_], rfl, l8⟩
   have d1 : ∀ q ∈ (a2 ++ ([])), q ∈ k1 := fun q hq => l5 q (by simp only [List.mem_append, List.not_mem_nil, or_false] at hq; simp [hq])
   have m0 : List.Nodup (a2 ++ ([])) := by simpa using (List.nodup_append.1 (show List.Nodup (b9 ++ a2) by simpa using d0)).2.1
   have m1 := hO
   have f6 := Own.part (X := (a2 ++ ([]))) (m1) d1 m0
   obtain ⟨r132, m2, hs⟩ := bind_some hs
   refine pl_call Bd38 rfl (c_laws_markIntSS (M := M) x124.2.2 (w64 (r118.1 + 1)) l9 f6 f6.fut m2) ?_
   rintro _ m3 ⟨f7, rfl, c0, m4, d2⟩
   obtain ⟨m5, d3, m6⟩ := hput131 m3 (a2 ++ ([])) (x124.1, (x124.2.1, r132.2)) (b9 ++ (([] : List Nat) ++ f7)) c0 (fun q hq => by simp only [List.mem_append, List.not_mem_nil, or_false] at hq; simp [hq]) ⟨_, _, _, _, rfl, rfl, (RT.mono _ f5 c0 (fun q hq => .inl (hO.inM q (d1 q hq))) (fun q hq hq' => (fun A B (hd : (A ++ B).Nodup) (ha : q ∈ A) (hb : q ∈ B) => (List.nodup_append.1 hd).2.2 q ha q hb rfl) b9 a2 (by simpa using d0) hq' (by simpa using hq)) (fun _ h => .inl h)), ⟨_, _, _, _, rfl, rfl, ⟨rfl, rfl⟩, (os_unval m4)⟩⟩ (by simpa using nd_last (X := a2) (X' := f7) (s := (b7).heap.size) (show List.Nodup (b9 ++ a2) by simpa using d0) (by simpa using d2.1) (fun q hq => (d2.2.1 q (by simpa using hq)).2.2.imp (fun h => by simpa using h) id) (fun q hq => RT.fpl _ f5 q hq)) (fun q hq => by simp only [List.mem_append, List.not_mem_nil, or_false, false_or] at hq ⊢; rcases hq with hq | hq <;> first | exact .inl (by simp [hq]) | exact ((fun q hq => (d2.2.1 q (by simpa using hq)).2.2.imp (fun h => by simpa using h) id) q hq).imp (fun h => by simp [h]) id)
   have hC := hC.st c0 hO d1
   have hO := hO.grow c0 m6 (os_nodup d3) d3.fpl
   refine pl_val (.int .i64 r132.1) (y_assign rfl) ?_
   refine c_nil ?_
   refine c_region ?_
   refine pl_val (.int .i64 s102.2.1) (y_move rfl) ?_
   refine pl_val (.int .i64 (w64 (s102.2.1 + 1))) (y_add rfl rfl) ?_
   refine pl_val (.int .i64 (w64 (s102.2.1 + 1))) (y_assign rfl) ?_
   refine c_nil ?_
   cases hs
   exact ⟨_, m5, fr_ovl 36 ⟨rfl, rfl, rfl, trivial⟩, hC, hO, d3⟩
  refine c_condF (congrArg Value.bool c1) ?_
  refine wp_exit ?_
  cases hs
  exact ⟨rfl, _, a4, fr_ovl 36 ⟨rfl, trivial⟩, hC, hO, b0⟩
 ·skip
  exact ⟨_, pf0, fr_ovl 36 ⟨rfl, rfl, rfl, trivial⟩, hC, hO, h0⟩
 cases o106 with
 | nx _ => exact True.intro
 | rt r_ =>
  have hs := after_rt hs
  intro m7 f8 hK
  cases hs
  exact hK
 | br s102 =>
  have hs := after_br hs
  rintro m7 a0 ⟨σ, a9, rfl, hC, hO, m8⟩
  refine c_sr ?_
  refine pl_val (.int .i64 s102.1) (y_move rfl) ?_
  refine pl_val (.int .i64 s102.1) (y_assign rfl) ?_
  refine c_nil ?_
  refine wp_ret ?_
  cases hs
  exact ⟨_, a9, fr_ovl 36 ⟨rfl, trivial⟩, hC, m8, hO.top⟩

theorem Bd84 : Bodied Try.prog 84 := bodied Try.func84 (by kernel_rfl) rfl

def k_laws_markNetwork (M : Nat → Prop) (w0 : World) (qa0 : Option Addr) (qn0 qc0 : Nat) (qf0 : List Nat) (r : Int × (List ((List Int) × (Int × (List (List Int)))))) (a : Act) (w : World) : Prop :=
  ∃ (σ : Nat → Value) (rfi0 : List Nat), a = fr 10 (ovl σ [(4, (.int .i64 r.1))]) ∧ Chg (qf0 ++ ([])) w0 w ∧ (RT.os 56 (RT.pr (RT.os 3 (RT.int .i64)) (RT.pr (RT.int .i64) (RT.os 41 (RT.os 3 (RT.int .i64)))))).val M w (.slice qa0 qn0 qc0) r.2 rfi0 ∧ Own (Nw w0 (qf0 ++ ([]))) (fun _ => True) w (rfi0 ++ ([]))
def s_laws_markNetwork (a_ : Int × Int × (List ((List Int) × (Int × (List (List Int)))))) (k : Int) : Option (Int × (List ((List Int) × (Int × (List (List Int)))))) :=
  (s_laws_markConstraintS a_.2.2 k).bind fun r4 =>
  some (r4.1, r4.2)
set_option maxHeartbeats 4000000 in
theorem c_laws_markNetwork {M : Nat → Prop} {w : World} {pa0 : Option Addr} {pn0 pc0 : Nat} {pf0 : List Nat} (a_ : Int × Int × (List ((List Int) × (Int × (List (List Int)))))) (k : Int) (h0 : (RT.os 56 (RT.pr (RT.os 3 (RT.int .i64)) (RT.pr (RT.int .i64) (RT.os 41 (RT.os 3 (RT.int .i64)))))).val M w (.slice pa0 pn0 pc0) a_.2.2 pf0) (hI : Own (Nw w (pf0 ++ ([]))) M w (pf0 ++ ([]))) (hM : ∀ g, w.heap.size ≤ g → M g) {r : Int × (List ((List Int) × (Int × (List (List Int)))))} (hs : s_laws_markNetwork a_ k = some r) :
    Gives Try.prog 32 [(.agg #[(.int .i64 a_.1), (.int .i64 a_.2.1), (.slice pa0 pn0 pc0)]), (.int .i64 k)] w (fun v w' => ∃ (rfi0 : List Nat), v = (.int .i64 r.1) ∧ Chg (pf0 ++ ([])) w w' ∧ (RT.os 56 (RT.pr (RT.os 3 (RT.int .i64)) (RT.pr (RT.int .i64) (RT.os 41 (RT.os 3 (RT.int .i64)))))).val M w' (.slice pa0 pn0 pc0) r.2 rfi0 ∧ Own (Nw w (pf0 ++ ([]))) (fun _ => True) w' (rfi0 ++ ([]))) := by
 refine calls_fr Try.func32 rfl Try.ntmps32 (Nat.le_of_ble_eq_true rfl) ?_
 have hO := hI
 have hC := Chg.refl (pf0 ++ ([])) w
 unfold s_laws_markNetwork at hs
 refine wp_mono (Q := KPost (k_laws_markNetwork M w pa0 pn0 pc0 pf0 r)) ?_ (fun e a b3 h => ?_)
 rotate_left
 ·cases e
  case ret =>
   obtain ⟨σ, rfi0, rfl, hrest⟩ := h
   exact ret1x Try.results32 (res_tmp rfl) ⟨rfi0, rfl, hrest⟩
  all_goals exact (h : False).elim
 refine c_sr ?_
 obtain ⟨a7, a0, a8, a4, a2, a1⟩ := new_block w [(.int .i64 a_.1), (.int .i64 a_.2.1), (.slice pa0 pn0 pc0)] 30
 refine pl_val (w' := a7) (.pointer (some ⟨a0, 0, none⟩)) (y_box rfl (by rw [a8, a4]; kernel_rfl)) ?_
 have h0 := h0.ext a2
 have hC := hC.ext a2
 have hO := hO.new1 a2 a4 a1.lt
 refine pl_val (.int .i64 0) (y_assign rfl) ?_
 refine c_nil ?_
 refine c_sr ?_
 refine pl_val (.pointer (some ⟨a0, 2, none⟩)) (y_faddr rfl Fa30x2) ?_
 refine pl_val (.slice pa0 pn0 pc0) (y_load rfl ((box_load Ag28 Sz28 a1 [(.int .i64 a_.1), (.int .i64 a_.2.1)] [(.slice pa0 pn0 pc0)] [] rfl rfl (fun _ => rfl)) _ (Chg.refl _ _))) ?_
 refine pl_val (.int .i64 k) (y_move rfl) ?_
 have hO := hO.fr1
 have a9 := hO
 have a5 := Own.lend (F := (pf0 ++ ([]))) (R := ([a0]) ++ ([])) (Own.perm (a9) (by simp))
 obtain ⟨r4, b0, hs⟩ := bind_some hs
 refine pl_call Bd84 rfl (c_laws_markConstraintS (M := M) a_.2.2 k h0 a5 a5.fut b0) ?_
 rintro _ b4 ⟨a6, rfl, a3, b1, b2⟩
 have hO := hO.perm (R := (pf0 ++ ([])) ++ (([a0]) ++ ([]))) (by simp)
 have a1 := a1.ap a3 hO same_ (mem_l (List.mem_singleton.2 rfl))
 have hC := hC.st a3 hO same_
 have hO := Own.join hO a3 b2
 have hO := hO.perm (R := a6 ++ (([a0]) ++ ([]))) (by simp)
 refine pl_val (.int .i64 r4.1) (y_assign rfl) ?_
 refine c_nil ?_
 have hO := hO.fr1
 have hO := hO.drop
 refine c_sr ?_
 refine pl_val (.int .i64 r4.1) (y_move rfl) ?_
 refine pl_val (.int .i64 r4.1) (y_assign rfl) ?_
 refine c_nil ?_
 refine wp_ret ?_
 cases hs
 exact ⟨_, a6, fr_ovl 10 ⟨rfl, trivial⟩, hC, b1, hO.top⟩

def k_laws_heldIntS (M : Nat → Prop) (w0 : World) (r : Int) (a : Act) (w : World) : Prop :=
  ∃ (σ : Nat → Value) , a = fr 21 (ovl σ [(4, (.int .i64 r))]) ∧ Chg [] w0 w
def s_laws_heldIntS (a_ : List Int) (k : Int) : Option (Int) :=
  (forC (S := Int) (R := Int) (fun k7 s5 =>
  (idx a_ k7).bind fun x11 =>
  (bif (x11 != s5) then some (.rt (-1)) else some (.nx (w64 (s5 + 1))))) 0 (a_.length : Int) k).bind fun o9 => after o9 (fun r_ => some r_) (fun s5 =>
  some s5)
set_option maxHeartbeats 4000000 in
theorem c_laws_heldIntS {M : Nat → Prop} {w : World} {pa0 : Option Addr} {pn0 pc0 : Nat} (a_ : List Int) (k : Int) (h0 : (RT.rs (RT.int .i64)).val M w (.slice pa0 pn0 pc0) a_ ([])) (hM : ∀ g, w.heap.size ≤ g → M g) {r : Int} (hs : s_laws_heldIntS a_ k = some r) :
    Gives Try.prog 34 [(.slice pa0 pn0 pc0), (.int .i64 k)] w (fun v w' => v = (.int .i64 r) ∧ Chg [] w w') := by
 refine calls_fr Try.func34 rfl Try.ntmps34 (Nat.le_of_ble_eq_true rfl) ?_
 have hO := Own.start (N := Nw w []) hM Nw.fut
 have hC := Chg.refl [] w
 unfold s_laws_heldIntS at hs
 refine wp_mono (Q := KPost (k_laws_heldIntS M w r)) ?_ (fun e a a2 h => ?_)
 rotate_left
 ·cases e
  case ret =>
   obtain ⟨σ, rfl, hrest⟩ := h
   exact ret1x Try.results34 (res_tmp rfl) ⟨rfl, hrest⟩
  all_goals exact (h : False).elim
 refine c_sr ?_
 refine pl_val (.int .i64 0) (y_assign rfl) ?_
 refine c_nil ?_
 refine c_seq ?_
 refine c_sr ?_
 refine pl_val (.int .i64 0) (y_assign rfl) ?_
 refine c_nil ?_
 obtain ⟨o9, a3, hs⟩ := bind_some hs
 refine wp_block ?_
 refine wp_forC (id := 0) (a_.length : Int) (I := fun k7 s5 a a0 => ∃ (σ : Nat → Value), a = fr 21 (ovl σ [(0, (.slice pa0 pn0 pc0)), (1, (.int .i64 s5)), (5, (.int .i64 k7))]) ∧ Chg [] w a0 ∧ Own (Nw w []) M a0 ([]) ∧ (RT.rs (RT.int .i64)).val M a0 (.slice pa0 pn0 pc0) a_ ([])) (J := fun s5 a a0 => ∃ (σ : Nat → Value), a = fr 21 (ovl σ [(1, (.int .i64 s5))]) ∧ Chg [] w a0 ∧ Own (Nw w []) M a0 ([]) ∧ (RT.rs (RT.int .i64)).val M a0 (.slice pa0 pn0 pc0) a_ ([])) (K := (k_laws_heldIntS M w)) ?_ ?_ 0 k o9 _ _ ?_ a3 ?_
 ·rintro k7 s5 a a0 ⟨σ, rfl, hC, hO, h0⟩ hlt
  refine c_seq ?_
  refine c_sr ?_
  refine pl_val (.int .i64 k7) (y_move rfl) ?_
  refine pl_val (.slice pa0 pn0 pc0) (y_move rfl) ?_
  refine pl_val (.int .i64 (a_.length : Int)) (y_len' Sl41 (rs_len h0) rfl) ?_
  refine pl_val (.bool (decide (k7 < (a_.length : Int)))) (y_lss rfl rfl) ?_
  refine c_nil ?_
  refine c_condF (congrArg Value.bool (decide_eq_false hlt)) ?_
  refine wp_exit ?_
  exact ⟨rfl, _, fr_ovl 21 ⟨rfl, trivial⟩, hC, hO, h0⟩
 ·rintro k7 s5 o9 a a0 ⟨σ, rfl, hC, hO, h0⟩ hlt hw hs
  refine c_seq ?_
  refine c_sr ?_
  refine pl_val (.int .i64 k7) (y_move rfl) ?_
  refine pl_val (.slice pa0 pn0 pc0) (y_move rfl) ?_
  refine pl_val (.int .i64 (a_.length : Int)) (y_len' Sl41 (rs_len h0) rfl) ?_
  refine pl_val (.bool (decide (k7 < (a_.length : Int)))) (y_lss rfl rfl) ?_
  refine c_nil ?_
  refine c_condT (congrArg Value.bool (decide_eq_true hlt)) ?_
  refine wp_skip ?_
  refine c_seq ?_
  refine wp_block ?_
  refine c_seq ?_
  refine c_sr ?_
  refine pl_val (.slice pa0 pn0 pc0) (y_move rfl) ?_
  refine pl_val (.int .i64 k7) (y_move rfl) ?_
  obtain ⟨x11, a4, hs⟩ := bind_some hs
  obtain ⟨a5, a6, a7, a8⟩ := rs_idx Sl41 Sz3 h0 a4
  refine pl_val (.pointer (some ⟨a5, a6, none⟩)) (a7 _ _ _ _ _ _ _ _ _ rfl rfl) ?_
  refine pl_val (.int .i64 x11) (y_load rfl ((at_load_int Ag3 Sz3 a8) _ (Chg.refl _ _))) ?_
  refine pl_val (.int .i64 s5) (y_move rfl) ?_
  refine pl_val (.bool (x11 != s5)) (y_neq rfl rfl) ?_
  refine c_nil ?_
  rcases bif_some hs with ⟨a1, hs⟩ | ⟨a1, hs⟩
  ·refine c_condT (congrArg Value.bool a1) ?_
   refine c_sr ?_
   refine pl_val (.int .i64 (-1)) (y_assign rfl) ?_
   refine c_nil ?_
   refine wp_ret ?_
   cases hs
   exact ⟨_, fr_ovl 21 ⟨rfl, trivial⟩, hC⟩
  refine c_condF (congrArg Value.bool a1) ?_
  refine wp_skip ?_
  refine c_region ?_
  refine pl_val (.int .i64 s5) (y_move rfl) ?_
  refine pl_val (.int .i64 (w64 (s5 + 1))) (y_add rfl rfl) ?_
  refine pl_val (.int .i64 (w64 (s5 + 1))) (y_assign rfl) ?_
  refine c_nil ?_
  refine c_region ?_
  refine pl_val (.int .i64 k7) (y_move rfl) ?_
  refine pl_val (.int .i64 (w64 (k7 + 1))) (y_add rfl rfl) ?_
  refine pl_val (.int .i64 (w64 (k7 + 1))) (y_assign rfl) ?_
  refine c_nil ?_
  cases hs
  exact ⟨_, fr_ovl 21 ⟨rfl, rfl, congrArg (Value.int .i64) hw, trivial⟩, hC, hO, h0⟩
 ·skip
  exact ⟨_, fr_ovl 21 ⟨rfl, rfl, rfl, trivial⟩, hC, hO, h0⟩
 cases o9 with
 | nx _ => exact True.intro
 | rt r_ =>
  have hs := after_rt hs
  intro a9 a2 hK
  cases hs
  exact hK
 | br s5 =>
  have hs := after_br hs
  rintro a9 a0 ⟨σ, rfl, hC, hO, h0⟩
  refine c_sr ?_
  refine pl_val (.int .i64 s5) (y_move rfl) ?_
  refine pl_val (.int .i64 s5) (y_assign rfl) ?_
  refine c_nil ?_
  refine wp_ret ?_
  cases hs
  exact ⟨_, fr_ovl 21 ⟨rfl, trivial⟩, hC⟩

theorem Bd34 : Bodied Try.prog 34 := bodied Try.func34 (by kernel_rfl) rfl

def k_laws_heldIntSS (M : Nat → Prop) (w0 : World) (r : Int) (a : Act) (w : World) : Prop :=
  ∃ (σ : Nat → Value) , a = fr 21 (ovl σ [(4, (.int .i64 r))]) ∧ Chg [] w0 w
def s_laws_heldIntSS (a_ : List (List Int)) (k : Int) : Option (Int) :=
  (forC (S := Int) (R := Int) (fun k11 s9 =>
  (idx a_ k11).bind fun x15 =>
  (s_laws_heldIntS x15 s9).bind fun r20 =>
  (bif (decide (r20 < 0)) then some (.rt (-1)) else some (.nx r20))) 0 (a_.length : Int) k).bind fun o13 => after o13 (fun r_ => some r_) (fun s9 =>
  some s9)
set_option maxHeartbeats 4000000 in
theorem c_laws_heldIntSS {M : Nat → Prop} {w : World} {pa0 : Option Addr} {pn0 pc0 : Nat} (a_ : List (List Int)) (k : Int) (h0 : (RT.rs (RT.rs (RT.int .i64))).val M w (.slice pa0 pn0 pc0) a_ ([])) (hM : ∀ g, w.heap.size ≤ g → M g) {r : Int} (hs : s_laws_heldIntSS a_ k = some r) :
    Gives Try.prog 39 [(.slice pa0 pn0 pc0), (.int .i64 k)] w (fun v w' => v = (.int .i64 r) ∧ Chg [] w w') := by
 refine calls_fr Try.func39 rfl Try.ntmps39 (Nat.le_of_ble_eq_true rfl) ?_
 have hO := Own.start (N := Nw w []) hM Nw.fut
 have hC := Chg.refl [] w
 unfold s_laws_heldIntSS at hs
 refine wp_mono (Q := KPost (k_laws_heldIntSS M w r)) ?_ (fun e a a4 h => ?_)
 rotate_left
 ·cases e
  case ret =>
   obtain ⟨σ, rfl, hrest⟩ := h
   exact ret1x Try.results39 (res_tmp rfl) ⟨rfl, hrest⟩
  all_goals exact (h : False).elim
 refine c_sr ?_
 refine pl_val (.int .i64 0) (y_assign rfl) ?_
 refine c_nil ?_
 refine c_seq ?_
 refine c_sr ?_
 refine pl_val (.int .i64 0) (y_assign rfl) ?_
 refine c_nil ?_
 obtain ⟨o13, a5, hs⟩ := bind_some hs
 refine wp_block ?_
 refine wp_forC (id := 0) (a_.length : Int) (I := fun k11 s9 a a0 => ∃ (σ : Nat → Value), a = fr 21 (ovl σ [(0, (.slice pa0 pn0 pc0)), (1, (.int .i64 s9)), (5, (.int .i64 k11))]) ∧ Chg [] w a0 ∧ Own (Nw w []) M a0 ([]) ∧ (RT.rs (RT.rs (RT.int .i64))).val M a0 (.slice pa0 pn0 pc0) a_ ([])) (J := fun s9 a a0 => ∃ (σ : Nat → Value), a = fr 21 (ovl σ [(1, (.int .i64 s9))]) ∧ Chg [] w a0 ∧ Own (Nw w []) M a0 ([]) ∧ (RT.rs (RT.rs (RT.int .i64))).val M a0 (.slice pa0 pn0 pc0) a_ ([])) (K := (k_laws_heldIntSS M w)) ?_ ?_ 0 k o13 _ _ ?_ a5 ?_
 ·rintro k11 s9 a a0 ⟨σ, rfl, hC, hO, h0⟩ hlt
  refine c_seq ?_
  refine c_sr ?_
  refine pl_val (.int .i64 k11) (y_move rfl) ?_
  refine pl_val (.slice pa0 pn0 pc0) (y_move rfl) ?_
  refine pl_val (.int .i64 (a_.length : Int)) (y_len' Sl47 (rs_len h0) rfl) ?_
  refine pl_val (.bool (decide (k11 < (a_.length : Int)))) (y_lss rfl rfl) ?_
  refine c_nil ?_
  refine c_condF (congrArg Value.bool (decide_eq_false hlt)) ?_
  refine wp_exit ?_
  exact ⟨rfl, _, fr_ovl 21 ⟨rfl, trivial⟩, hC, hO, h0⟩
 ·rintro k11 s9 o13 a a0 ⟨σ, rfl, hC, hO, h0⟩ hlt hw hs
  refine c_seq ?_
  refine c_sr ?_
  refine pl_val (.int .i64 k11) (y_move rfl) ?_
  refine pl_val (.slice pa0 pn0 pc0) (y_move rfl) ?_
  refine pl_val (.int .i64 (a_.length : Int)) (y_len' Sl47 (rs_len h0) rfl) ?_
  refine pl_val (.bool (decide (k11 < (a_.length : Int)))) (y_lss rfl rfl) ?_
  refine c_nil ?_
  refine c_condT (congrArg Value.bool (decide_eq_true hlt)) ?_
  refine wp_skip ?_
  refine c_seq ?_
  refine wp_block ?_
  refine c_sr ?_
  refine pl_val (.slice pa0 pn0 pc0) (y_move rfl) ?_
  refine pl_val (.int .i64 k11) (y_move rfl) ?_
  obtain ⟨x15, a6, hs⟩ := bind_some hs
  obtain ⟨a7, a8, a9, b0⟩ := rs_idx Sl47 Sz41 h0 a6
  refine pl_val (.pointer (some ⟨a7, a8, none⟩)) (a9 _ _ _ _ _ _ _ _ _ rfl rfl) ?_
  obtain ⟨b7, b1, a1⟩ := at_load Ag41 Sz41 (fun _ => rfl) b0
  obtain ⟨b2, b3, b4, rfl⟩ := rs_sl a1
  refine pl_val (.slice b2 b3 b4) (y_load rfl (b1 _ (Chg.refl _ _))) ?_
  refine pl_val (.int .i64 s9) (y_move rfl) ?_
  obtain ⟨r20, b5, hs⟩ := bind_some hs
  refine pl_call Bd34 rfl (c_laws_heldIntS (M := M) x15 s9 a1 hO.fut b5) ?_
  rintro _ b8 ⟨rfl, a2⟩
  have h0 := h0.ext a2
  have a1 := a1.ext a2
  have hC := hC.ext a2
  have hO := hO.ext a2
  refine pl_val (.int .i64 r20) (y_assign rfl) ?_
  refine c_nil ?_
  refine c_sr ?_
  refine pl_val (.int .i64 r20) (y_move rfl) ?_
  refine pl_val (.bool (decide (r20 < 0))) (y_lss rfl rfl) ?_
  refine c_nil ?_
  rcases bif_some hs with ⟨a3, hs⟩ | ⟨a3, hs⟩
  ·refine c_condT (congrArg Value.bool a3) ?_
   refine c_sr ?_
   refine pl_val (.int .i64 (-1)) (y_assign rfl) ?_
   refine c_nil ?_
   refine wp_ret ?_
   cases hs
   exact ⟨_, fr_ovl 21 ⟨rfl, trivial⟩, hC⟩
  refine c_condF (congrArg Value.bool a3) ?_
  refine wp_skip ?_
  refine c_region ?_
  refine pl_val (.int .i64 k11) (y_move rfl) ?_
  refine pl_val (.int .i64 (w64 (k11 + 1))) (y_add rfl rfl) ?_
  refine pl_val (.int .i64 (w64 (k11 + 1))) (y_assign rfl) ?_
  refine c_nil ?_
  cases hs
  exact ⟨_, fr_ovl 21 ⟨rfl, rfl, congrArg (Value.int .i64) hw, trivial⟩, hC, hO, h0⟩
 ·skip
  exact ⟨_, fr_ovl 21 ⟨rfl, rfl, rfl, trivial⟩, hC, hO, h0⟩
 cases o13 with
 | nx _ => exact True.intro
 | rt r_ =>
  have hs := after_rt hs
  intro b6 a4 hK
  cases hs
  exact hK
 | br s9 =>
  have hs := after_br hs
  rintro b6 a0 ⟨σ, rfl, hC, hO, h0⟩
  refine c_sr ?_
  refine pl_val (.int .i64 s9) (y_move rfl) ?_
  refine pl_val (.int .i64 s9) (y_assign rfl) ?_
  refine c_nil ?_
  refine wp_ret ?_
  cases hs
  exact ⟨_, fr_ovl 21 ⟨rfl, trivial⟩, hC⟩

theorem Ag24 : AggT Try.prog 24 true := fun _ => by kernel_rfl

theorem Sz24 : SzT Try.prog 24 3 := ⟨_, rfl, rfl⟩

theorem Bd11 : Bodied Try.prog 11 := bodied Try.func11 (by kernel_rfl) rfl

theorem Bd13 : Bodied Try.prog 13 := bodied Try.func13 (by kernel_rfl) rfl

theorem Bd35 : Bodied Try.prog 35 := bodied Try.func35 (by kernel_rfl) rfl

theorem Bd36 : Bodied Try.prog 36 := bodied Try.func36 (by kernel_rfl) rfl

theorem Bd15 : Bodied Try.prog 15 := bodied Try.func15 (by kernel_rfl) rfl

theorem Bd32 : Bodied Try.prog 32 := bodied Try.func32 (by kernel_rfl) rfl

theorem Bd39 : Bodied Try.prog 39 := bodied Try.func39 (by kernel_rfl) rfl

def k_laws_FnExactAllSolutions (M : Nat → Prop) (w0 : World) (r : Bool) (a : Act) (w : World) : Prop :=
  ∃ (σ : Nat → Value) , a = fr 96 (ovl σ [(2, (.bool r))]) ∧ Chg [] w0 w
def s_laws_FnExactAllSolutions (aNet : Int × Int × (List ((List Int) × (Int × (List (List Int)))))) : Option (Bool) :=
  (s_laws_szNetwork (aNet.1, aNet.2.1, aNet.2.2) 1048576).bind fun r4 =>
  (bif (decide (r4 < 0)) then some true else (s_laws_toNetwork (aNet.1, aNet.2.1, aNet.2.2)).bind fun r7 =>
  (s_spec_AllSolutions (r7.1, r7.2.1, r7.2.2)).bind fun r10 =>
  (s_laws_toNetwork (aNet.1, aNet.2.1, aNet.2.2)).bind fun r13 =>
  (s_impl_AllSolutions (r13.1, r13.2.1, r13.2.2)).bind fun r18 =>
  ((s_laws_eqIntSS r18.1 r10.1).bind fun r24 =>
  (bif (!r24) then some true else some (!(r18.2 == r10.2)))).bind fun s20 =>
  (bif s20 then some false else (s_laws_toNetwork (aNet.1, aNet.2.1, aNet.2.2)).bind fun r35 =>
  (s_laws_eqNetwork (r13.1, r13.2.1, r13.2.2) (r35.1, r35.2.1, r35.2.2)).bind fun r38 =>
  (bif (!r38) then some false else (s_laws_markNetwork (r13.1, r13.2.1, r13.2.2) 1).bind fun r41 =>
  ((bif (decide (r41.1 < 0)) then some true else (s_laws_eqIntSS r18.1 r10.1).bind fun r47 =>
  (bif (!r47) then some true else some (!(r18.2 == r10.2))))).bind fun s42 =>
  (bif s42 then some false else (s_laws_markIntSS r18.1 1).bind fun r51 =>
  (s_laws_heldIntSS r51.2 1).bind fun r53 =>
  (bif (decide (r53 < 0)) then some false else (bif (r53 != r51.1) then some false else (s_laws_toNetwork (aNet.1, aNet.2.1, aNet.2.2)).bind fun r57 =>
  (s_impl_AllSolutions (r57.1, r57.2.1, r57.2.2)).bind fun r60 =>
  ((s_laws_eqIntSS r60.1 r10.1).bind fun r66 =>
  (bif (!r66) then some true else some (!(r60.2 == r10.2)))).bind fun s62 =>
  (bif s62 then some false else (s_laws_heldIntSS r51.2 1).bind fun r70 =>
  (bif (decide (r70 < 0)) then some false else (bif (r70 != r51.1) then some false else some true)))))))))
set_option maxHeartbeats 4000000 in
theorem c_laws_FnExactAllSolutions {M : Nat → Prop} {w : World} {pa0 : Option Addr} {pn0 pc0 : Nat} (aNet : Int × Int × (List ((List Int) × (Int × (List (List Int)))))) (h0 : (RT.rs (RT.pr (RT.rs (RT.int .i64)) (RT.pr (RT.int .i64) (RT.rs (RT.rs (RT.int .i64)))))).val M w (.slice pa0 pn0 pc0) aNet.2.2 ([])) (hM : ∀ g, w.heap.size ≤ g → M g) {r : Bool} (hs : s_laws_FnExactAllSolutions aNet = some r) :
    Gives Try.prog 8 [(.agg #[(.int .i64 aNet.1), (.int .i64 aNet.2.1), (.slice pa0 pn0 pc0)])] w (fun v w' => v = (.bool r) ∧ Chg [] w w') := by
 refine calls_fr Try.func8 rfl Try.ntmps8 (Nat.le_of_ble_eq_true rfl) ?_
 have hO := Own.start (N := Nw w []) hM Nw.fut
 have hC := Chg.refl [] w
 unfold s_laws_FnExactAllSolutions at hs
 refine wp_mono (Q := KPost (k_laws_FnExactAllSolutions M w r)) ?_ (fun e a m4 h => ?_)
 rotate_left
 ·cases e
  case ret =>
   obtain ⟨σ, rfl, hrest⟩ := h
   exact ret1x Try.results8 (res_tmp rfl) ⟨rfl, hrest⟩
  all_goals exact (h : False).elim
 refine c_sr ?_
 obtain ⟨i3, a5, i4, g8, f2, a0⟩ := new_block w [(.int .i64 aNet.1), (.int .i64 aNet.2.1), (.slice pa0 pn0 pc0)] 24
 refine pl_val (w' := i3) (.pointer (some ⟨a5, 0, none⟩)) (y_box rfl (by rw [i4, g8]; kernel_rfl)) ?_
 have h0 := h0.ext f2
 have hC := hC.ext f2
 have hO := hO.new1 f2 g8 a0.lt
 refine pl_val (.bool false) (y_assign rfl) ?_
 refine c_nil ?_
 refine c_sr ?_
 refine pl_val (.int .i64 1048576) (y_assign rfl) ?_
 refine c_nil ?_
 refine c_sr ?_
 refine pl_val (.agg #[(.int .i64 aNet.1), (.int .i64 aNet.2.1), (.slice pa0 pn0 pc0)]) (y_load rfl ((box_load Ag24 Sz24 a0 [] [(.int .i64 aNet.1), (.int .i64 aNet.2.1), (.slice pa0 pn0 pc0)] [] rfl rfl (fun h => nomatch h)) _ (Chg.refl _ _))) ?_
 refine pl_val (.int .i64 1048576) (y_move rfl) ?_
 obtain ⟨r4, i5, hs⟩ := bind_some hs
 refine pl_call Bd11 rfl (c_laws_szNetwork (M := M) (aNet.1, aNet.2.1, aNet.2.2) 1048576 h0 hO.fut i5) ?_
 rintro _ m5 ⟨rfl, e5⟩
 have h0 := h0.ext e5
 have a0 := a0.cn e5
 have hC := hC.ext e5
 have hO := hO.ext e5
 refine pl_val (.int .i64 r4) (y_assign rfl) ?_
 refine c_nil ?_
 refine c_seq ?_
 refine c_sr ?_
 refine pl_val (.int .i64 r4) (y_move rfl) ?_
 refine pl_val (.bool (decide (r4 < 0))) (y_lss rfl rfl) ?_
 refine c_nil ?_
 rcases bif_some hs with ⟨f3, hs⟩ | ⟨f3, hs⟩
 ·refine c_condT (congrArg Value.bool f3) ?_
  refine c_sr ?_
  refine pl_val (.bool true) (y_assign rfl) ?_
  refine c_nil ?_
  refine wp_ret ?_
  cases hs
  exact ⟨_, fr_ovl 96 ⟨rfl, trivial⟩, hC⟩
 refine c_condF (congrArg Value.bool f3) ?_
 refine wp_skip ?_
 refine c_sr ?_
 refine pl_val (.agg #[(.int .i64 aNet.1), (.int .i64 aNet.2.1), (.slice pa0 pn0 pc0)]) (y_load rfl ((box_load Ag24 Sz24 a0 [] [(.int .i64 aNet.1), (.int .i64 aNet.2.1), (.slice pa0 pn0 pc0)] [] rfl rfl (fun h => nomatch h)) _ (Chg.refl _ _))) ?_
 obtain ⟨r7, i6, hs⟩ := bind_some hs
 refine pl_call Bd13 rfl (c_laws_toNetwork (M := M) (aNet.1, aNet.2.1, aNet.2.2) h0 hO.fut i6) ?_
 rintro _ m6 ⟨m7, m8, m9, f4, rfl, e6, f5, i7⟩
 have h0 := h0.ext e6
 have a0 := a0.cn e6
 have hC := hC.ext e6
 have hO := Own.join0 hO e6 i7
 have hO := hO.perm (R := f4 ++ (([a5]) ++ ([]))) (by simp)
 obtain ⟨r10, i9, hs⟩ := bind_some hs
 refine pl_call Bd35 rfl (c_spec_AllSolutions (M := (Less M f4)) (r7.1, r7.2.1, r7.2.2) (((Frz.os (Frz.pr (Frz.os Frz.int) (Frz.pr Frz.int (Frz.os (Frz.os Frz.int)))))).val f5 Less.sub Less.not) hO.less.fut i9) ?_
 rintro _ n0 ⟨c0, c1, c2, a6, rfl, e0, a1, j0⟩
 have h0 := h0.ext e0
 have a0 := a0.cn e0
 have f5 := f5.ext e0
 have hC := hC.ext e0
 have hO := Own.join0 hO e0 j0
 have hO := hO.perm (R := a6 ++ (f4 ++ (([a5]) ++ ([])))) (by simp)
 have a1 := a1.free (M' := M) (Free.os (Free.os Free.int))
 refine pl_val (.tuple #[(.slice c0 c1 c2), (.bool r10.2)]) (y_move rfl) ?_
 refine pl_val (.slice c0 c1 c2) (y_extract rfl (by kernel_rfl)) ?_
 refine pl_val (.bool r10.2) (y_extract rfl (by kernel_rfl)) ?_
 refine pl_val (.slice c0 c1 c2) (y_assign rfl) ?_
 refine pl_val (.bool r10.2) (y_assign rfl) ?_
 refine c_nil ?_
 have hO := hO.fr1
 have hO := hO.drop
 refine c_sr ?_
 refine pl_val (.agg #[(.int .i64 aNet.1), (.int .i64 aNet.2.1), (.slice pa0 pn0 pc0)]) (y_load rfl ((box_load Ag24 Sz24 a0 [] [(.int .i64 aNet.1), (.int .i64 aNet.2.1), (.slice pa0 pn0 pc0)] [] rfl rfl (fun h => nomatch h)) _ (Chg.refl _ _))) ?_
 obtain ⟨r13, j1, hs⟩ := bind_some hs
 refine pl_call Bd13 rfl (c_laws_toNetwork (M := M) (aNet.1, aNet.2.1, aNet.2.2) h0 hO.fut j1) ?_
 rintro _ j2 ⟨c3, c4, c5, c8, rfl, e1, a3, j3⟩
 have h0 := h0.ext e1
 have a0 := a0.cn e1
 have a1 := a1.ext e1
 have hC := hC.ext e1
 have hO := Own.join0 hO e1 j3
 have hO := hO.perm (R := c8 ++ (a6 ++ (([a5]) ++ ([])))) (by simp)
 obtain ⟨j4, c6, j5, g9, d4, h1⟩ := new_block j2 [(.int .i64 0), (.int .i64 0), (.slice none 0 0)] 30
 refine pl_val (w' := j4) (.pointer (some ⟨c6, 0, none⟩)) (y_alloc (by rw [j5, g9]; kernel_rfl)) ?_
 have h0 := h0.ext d4
 have a0 := a0.cn d4
 have a1 := a1.ext d4
 have a3 := a3.ext d4
 have hC := hC.ext d4
 have hO := hO.new1 d4 g9 h1.lt
 obtain ⟨h2, j6, d5, a4⟩ := box_store (P := Try.prog) h1 [] [(.int .i64 0), (.int .i64 0), (.slice none 0 0)] [] [(.int .i64 r13.1), (.int .i64 r13.2.1), (.slice c3 c4 c5)] rfl rfl (by intro u hu; simp only [List.mem_cons, List.not_mem_nil, or_false] at hu; rcases hu with rfl | rfl | rfl <;> rfl)
 refine pl_skip (w' := h2) (ys_store rfl rfl (j6 _ _ rfl Sz30)) ?_
 have h0 := h0.mt d5 hO same_
 have a0 := a0.ap d5 hO same_ (mem_r (mem_r (mem_l (List.mem_singleton.2 rfl))))
 have a1 := a1.ma d5 hO same_ (fun _ e => (mem_r (mem_l (e))))
 have a3 := a3.ma d5 hO same_ (fun _ e => (mem_l (e)))
 have hC := hC.st d5 hO same_
 have hO := hO.ext d5
 have a4 : BoxV h2 c6 30 [(.int .i64 r13.1), (.int .i64 r13.2.1), (.slice c3 c4 c5)] := a4
 refine c_nil ?_
 refine c_sr ?_
 refine pl_val (.agg #[(.int .i64 r13.1), (.int .i64 r13.2.1), (.slice c3 c4 c5)]) (y_load rfl ((box_load Ag30 Sz30 a4 [] [(.int .i64 r13.1), (.int .i64 r13.2.1), (.slice c3 c4 c5)] [] rfl rfl (fun h => nomatch h)) _ (Chg.refl _ _))) ?_
 have hO := hO.fr1
 obtain ⟨r18, j7, hs⟩ := bind_some hs
 refine pl_call Bd36 rfl (c_impl_AllSolutions (M := (Less M c8)) (r13.1, r13.2.1, r13.2.2) (((Frz.os (Frz.pr (Frz.os Frz.int) (Frz.pr Frz.int (Frz.os (Frz.os Frz.int)))))).val a3 Less.sub Less.not) hO.less.fut j7) ?_
 rintro _ h3 ⟨a9, b0, b1, b4, rfl, c9, a2, j8⟩
 have h0 := h0.ext c9
 have a0 := a0.cn c9
 have a1 := a1.ext c9
 have a3 := a3.ext c9
 have a4 := a4.cn c9
 have hC := hC.ext c9
 have hO := Own.join0 hO c9 j8
 have hO := hO.perm (R := b4 ++ (c8 ++ (([c6]) ++ (a6 ++ (([a5]) ++ ([])))))) (by simp)
 have a2 := a2.free (M' := M) (Free.os (Free.os Free.int))
 refine pl_val (.tuple #[(.slice a9 b0 b1), (.bool r18.2)]) (y_move rfl) ?_
 refine pl_val (.slice a9 b0 b1) (y_extract rfl (by kernel_rfl)) ?_
 refine pl_val (.bool r18.2) (y_extract rfl (by kernel_rfl)) ?_
 refine pl_val (.slice a9 b0 b1) (y_assign rfl) ?_
 refine pl_val (.bool r18.2) (y_assign rfl) ?_
 refine c_nil ?_
 refine c_seq ?_
 refine c_seq ?_
 obtain ⟨s20, j9, hs⟩ := bind_some hs
 refine c_mid (I := fun a e7 => ∃ (σ : Nat → Value), a = fr 96 (ovl σ [(1, (.pointer (some ⟨a5, 0, none⟩))), (2, (.bool false)), (4, (.slice c0 c1 c2)), (5, (.bool r10.2)), (6, (.pointer (some ⟨c6, 0, none⟩))), (7, (.slice a9 b0 b1)), (8, (.bool r18.2)), (40, (.bool s20))]) ∧ Chg [] h3 e7) ?_ ?_
 ·replace hs := j9
  have hMid := Chg.refl [] h3
  refine c_region ?_
  refine pl_val (.slice a9 b0 b1) (y_move rfl) ?_
  refine pl_val (.slice c0 c1 c2) (y_move rfl) ?_
  have hO := hO.fr3
  have hO := hO.fr1
  obtain ⟨r24, k0, hs⟩ := bind_some hs
  refine pl_call Bd37 rfl (c_laws_eqIntSS (M := (Less (Less M b4) a6)) r18.1 r10.1 ((((Frz.os (Frz.os Frz.int))).val a2 Less.sub Less.not).sub Less.sub) (((Frz.os (Frz.os Frz.int))).val (a1.sub Less.sub) Less.sub Less.not) (hO.less).less.fut k0) ?_
  rintro _ n1 ⟨rfl, b5⟩
  have h0 := h0.ext b5
  have a0 := a0.cn b5
  have a1 := a1.ext b5
  have a3 := a3.ext b5
  have a4 := a4.cn b5
  have a2 := a2.ext b5
  have hMid := hMid.ext b5
  have hC := hC.ext b5
  have hO := hO.ext b5
  refine pl_val (.bool (!r24)) (y_not rfl) ?_
  refine pl_val (.bool (!r24)) (y_move rfl) ?_
  rcases bif_some hs with ⟨b6, hs⟩ | ⟨b6, hs⟩
  ·skip
   refine pl_not (tg := 36) (by kernel_rfl) (congrArg Value.bool b6) ?_
   refine pl_not (tg := 36) (by kernel_rfl) (congrArg Value.bool b6) ?_
   refine pl_not (tg := 36) (by kernel_rfl) (congrArg Value.bool b6) ?_
   refine pl_val (.bool true) (y_pick_t (congrArg Value.bool b6) rfl) ?_
   refine c_nil ?_
   cases hs
   exact ⟨_, fr_ovl 96 ⟨rfl, rfl, rfl, rfl, rfl, rfl, rfl, rfl, trivial⟩, hMid⟩
  refine pl_yes (.bool r18.2) (tg := 36) (by kernel_rfl) (congrArg Value.bool b6) (y_move rfl) ?_
  refine pl_yes (.bool r10.2) (tg := 36) (by kernel_rfl) (congrArg Value.bool b6) (y_move rfl) ?_
  refine pl_yes (.bool (!(r18.2 == r10.2))) (tg := 36) (by kernel_rfl) (congrArg Value.bool b6) (y_bneq Try.underlying4 rfl rfl) ?_
  refine pl_val (.bool (!(r18.2 == r10.2))) (y_pick_f (congrArg Value.bool b6) rfl) ?_
  refine c_nil ?_
  cases hs
  exact ⟨_, fr_ovl 96 ⟨rfl, rfl, rfl, rfl, rfl, rfl, rfl, rfl, trivial⟩, hMid⟩
 rintro h4 e7 ⟨σ, rfl, c7⟩
 have h0 := h0.ext c7
 have a0 := a0.cn c7
 have a1 := a1.ext c7
 have a3 := a3.ext c7
 have a4 := a4.cn c7
 have a2 := a2.ext c7
 have hC := hC.ext c7
 have hO := hO.ext c7
 rcases bif_some hs with ⟨f6, hs⟩ | ⟨f6, hs⟩
 ·refine c_condT (congrArg Value.bool f6) ?_
  refine c_sr ?_
  refine pl_val (.bool false) (y_assign rfl) ?_
  refine c_nil ?_
  refine wp_ret ?_
  cases hs
  exact ⟨_, fr_ovl 96 ⟨rfl, trivial⟩, hC⟩
 refine c_condF (congrArg Value.bool f6) ?_
 refine wp_skip ?_
 refine c_seq ?_
 refine c_seq ?_
 refine x_start [] Mx rfl ?_
 have b7 := Chg.drew e7
 generalize World.drew e7 = k1 at b7 ⊢
 have h0 := h0.ext b7
 have a0 := a0.cn b7
 have a1 := a1.ext b7
 have a3 := a3.ext b7
 have a4 := a4.cn b7
 have a2 := a2.ext b7
 have hC := hC.ext b7
 have hO := hO.ext b7
 have hS := Chg.refl [] k1
 refine x_l 0 (.agg #[(.int .i64 r13.1), (.int .i64 r13.2.1), (.slice c3 c4 c5)]) rfl (by kernel_rfl)  (fun w' hw' => y_load rfl ((box_load Ag30 Sz30 a4 [] [(.int .i64 r13.1), (.int .i64 r13.2.1), (.slice c3 c4 c5)] [] rfl rfl (fun h => nomatch h)) w' hw')) hS ?_
 refine x_l 1 (.agg #[(.int .i64 aNet.1), (.int .i64 aNet.2.1), (.slice pa0 pn0 pc0)]) rfl (by kernel_rfl)  (fun w' hw' => y_load rfl ((box_load Ag24 Sz24 a0 [] [(.int .i64 aNet.1), (.int .i64 aNet.2.1), (.slice pa0 pn0 pc0)] [] rfl rfl (fun h => nomatch h)) w' hw')) hS ?_
 refine x_one (i := 2) (by kernel_rfl) ?_
 obtain ⟨r35, k2, hs⟩ := bind_some hs
 refine xk_call (b := false) rfl  Bd13 rfl (c_laws_toNetwork (M := M) (aNet.1, aNet.2.1, aNet.2.2) h0 hO.fut k2) rfl (by rintro _ _ _ ⟨k3, k4, k5, f7, rfl, b2, e8, h5⟩; exact hS.ext b2) ?_
 rintro _ n2 ⟨k3, k4, k5, f7, rfl, b2, e8, h5⟩
 have h0 := h0.ext b2
 have a0 := a0.cn b2
 have a1 := a1.ext b2
 have a3 := a3.ext b2
 have a4 := a4.cn b2
 have a2 := a2.ext b2
 have hC := hC.ext b2
 have hO := Own.join0 hO b2 h5
 have hO := hO.perm (R := f7 ++ (b4 ++ (c8 ++ (([c6]) ++ (a6 ++ (([a5]) ++ ([]))))))) (by simp)
 have hS := hS.ext b2
 refine x_one (i := 3) (by kernel_rfl) ?_
 have hO := hO.fr2
 obtain ⟨r38, k6, hs⟩ := bind_some hs
 refine xk_call (b := false) rfl  Bd15 rfl (c_laws_eqNetwork (M := (Less (Less M c8) f7)) (r13.1, r13.2.1, r13.2.2) (r35.1, r35.2.1, r35.2.2) ((((Frz.os (Frz.pr (Frz.os Frz.int) (Frz.pr Frz.int (Frz.os (Frz.os Frz.int)))))).val a3 Less.sub Less.not).sub Less.sub) (((Frz.os (Frz.pr (Frz.os Frz.int) (Frz.pr Frz.int (Frz.os (Frz.os Frz.int)))))).val (e8.sub Less.sub) Less.sub Less.not) (hO.less).less.fut k6) rfl (by rintro _ _ _ ⟨rfl, a8⟩; exact hS.ext a8) ?_
 rintro _ n3 ⟨rfl, a8⟩
 have h0 := h0.ext a8
 have a0 := a0.cn a8
 have a1 := a1.ext a8
 have a3 := a3.ext a8
 have a4 := a4.cn a8
 have a2 := a2.ext a8
 have e8 := e8.ext a8
 have hC := hC.ext a8
 have hO := hO.ext a8
 have hS := hS.ext a8
 refine x_p 4 (.bool (!r38)) rfl (by kernel_rfl)  (fun _ => y_not rfl) (fun _ => hS) ?_
 refine x_end (by kernel_rfl) ?_
 clear hS
 rcases bif_some hs with ⟨f8, hs⟩ | ⟨f8, hs⟩
 ·refine c_condT (congrArg Value.bool f8) ?_
  refine c_sr ?_
  refine pl_val (.bool false) (y_assign rfl) ?_
  refine c_nil ?_
  have hO := hO.fr1
  have hO := hO.drop
  refine wp_ret ?_
  cases hs
  exact ⟨_, fr_ovl 96 ⟨rfl, trivial⟩, hC⟩
 refine c_condF (congrArg Value.bool f8) ?_
 refine wp_skip ?_
 refine c_sr ?_
 refine pl_val (.int .i64 1) (y_assign rfl) ?_
 refine c_nil ?_
 have hO := hO.fr1
 have hO := hO.drop
 refine c_sr ?_
 refine pl_val (.agg #[(.int .i64 r13.1), (.int .i64 r13.2.1), (.slice c3 c4 c5)]) (y_load rfl ((box_load Ag30 Sz30 a4 [] [(.int .i64 r13.1), (.int .i64 r13.2.1), (.slice c3 c4 c5)] [] rfl rfl (fun h => nomatch h)) _ (Chg.refl _ _))) ?_
 refine pl_val (.int .i64 1) (y_move rfl) ?_
 have k7 := hO
 have h6 := Own.lend (F := (c8 ++ ([]))) (R := b4 ++ (([c6]) ++ (a6 ++ (([a5]) ++ ([]))))) (Own.perm (k7) (by simp))
 obtain ⟨r41, k8, hs⟩ := bind_some hs
 refine pl_call Bd32 rfl (c_laws_markNetwork (M := M) (r13.1, r13.2.1, r13.2.2) 1 a3 h6 h6.fut k8) ?_
 rintro _ h7 ⟨k9, rfl, d0, n4, l0⟩
 have hO := hO.perm (R := (c8 ++ ([])) ++ (b4 ++ (([c6]) ++ (a6 ++ (([a5]) ++ ([])))))) (by simp)
 have h0 := h0.mt d0 hO same_
 have a0 := a0.ap d0 hO same_ (mem_r (mem_r (mem_r (mem_l (List.mem_singleton.2 rfl)))))
 have a1 := a1.ma d0 hO same_ (fun _ e => (mem_r (mem_r (mem_l (e)))))
 have a4 := a4.ap d0 hO same_ (mem_r (mem_l (List.mem_singleton.2 rfl)))
 have a2 := a2.ma d0 hO same_ (fun _ e => (mem_l (e)))
 have hC := hC.st d0 hO same_
 have hO := Own.join hO d0 l0
 have hO := hO.perm (R := k9 ++ (b4 ++ (([c6]) ++ (a6 ++ (([a5]) ++ ([])))))) (by simp)
 refine pl_val (.int .i64 r41.1) (y_assign rfl) ?_
 refine c_nil ?_
 have hO := hO.drop
 have hO := hO.fr1
 have hO := hO.drop
 refine c_seq ?_
 refine c_seq ?_
 obtain ⟨s42, l1, hs⟩ := bind_some hs
 refine c_mid (I := fun a h8 => ∃ (σ : Nat → Value), a = fr 96 (ovl σ [(1, (.pointer (some ⟨a5, 0, none⟩))), (2, (.bool false)), (4, (.slice c0 c1 c2)), (5, (.bool r10.2)), (7, (.slice a9 b0 b1)), (61, (.bool s42))]) ∧ Chg [] h7 h8) ?_ ?_
 ·replace hs := l1
  have hMid := Chg.refl [] h7
  refine c_region ?_
  refine pl_val (.int .i64 r41.1) (y_move rfl) ?_
  refine pl_val (.bool (decide (r41.1 < 0))) (y_lss rfl rfl) ?_
  refine pl_val (.bool (decide (r41.1 < 0))) (y_move rfl) ?_
  rcases bif_some hs with ⟨b3, hs⟩ | ⟨b3, hs⟩
  ·skip
   refine pl_not (tg := 51) (by kernel_rfl) (congrArg Value.bool b3) ?_
   refine pl_not (tg := 51) (by kernel_rfl) (congrArg Value.bool b3) ?_
   refine pl_not (tg := 51) (by kernel_rfl) (congrArg Value.bool b3) ?_
   refine pl_not (tg := 51) (by kernel_rfl) (congrArg Value.bool b3) ?_
   refine pl_val (.bool true) (y_pick_t (congrArg Value.bool b3) rfl) ?_
   refine pl_val (.bool true) (y_move rfl) ?_
   refine pl_not (tg := 57) (by kernel_rfl) (by rfl) ?_
   refine pl_not (tg := 57) (by kernel_rfl) (by rfl) ?_
   refine pl_not (tg := 57) (by kernel_rfl) (by rfl) ?_
   refine pl_val (.bool true) (y_pick_t (by rfl) rfl) ?_
   refine c_nil ?_
   cases hs
   exact ⟨_, fr_ovl 96 ⟨rfl, rfl, rfl, rfl, rfl, rfl, trivial⟩, hMid⟩
  refine pl_yes (.slice a9 b0 b1) (tg := 51) (by kernel_rfl) (congrArg Value.bool b3) (y_move rfl) ?_
  refine pl_yes (.slice c0 c1 c2) (tg := 51) (by kernel_rfl) (congrArg Value.bool b3) (y_move rfl) ?_
  have hO := hO.fr1
  have hO := hO.fr1
  obtain ⟨r47, l2, hs⟩ := bind_some hs
  refine pl_cally (tg := 51) (by kernel_rfl) (congrArg Value.bool b3) Bd37 rfl (c_laws_eqIntSS (M := (Less (Less M b4) a6)) r18.1 r10.1 ((((Frz.os (Frz.os Frz.int))).val a2 Less.sub Less.not).sub Less.sub) (((Frz.os (Frz.os Frz.int))).val (a1.sub Less.sub) Less.sub Less.not) (hO.less).less.fut l2) ?_
  rintro _ n5 ⟨rfl, d1⟩
  have h0 := h0.ext d1
  have a0 := a0.cn d1
  have a1 := a1.ext d1
  have a2 := a2.ext d1
  have hMid := hMid.ext d1
  have hC := hC.ext d1
  have hO := hO.ext d1
  refine pl_yes (.bool (!r47)) (tg := 51) (by kernel_rfl) (congrArg Value.bool b3) (y_not rfl) ?_
  refine pl_val (.bool (!r47)) (y_pick_f (congrArg Value.bool b3) rfl) ?_
  refine pl_val (.bool (!r47)) (y_move rfl) ?_
  rcases bif_some hs with ⟨b8, hs⟩ | ⟨b8, hs⟩
  ·skip
   refine pl_not (tg := 57) (by kernel_rfl) (congrArg Value.bool b8) ?_
   refine pl_not (tg := 57) (by kernel_rfl) (congrArg Value.bool b8) ?_
   refine pl_not (tg := 57) (by kernel_rfl) (congrArg Value.bool b8) ?_
   refine pl_val (.bool true) (y_pick_t (congrArg Value.bool b8) rfl) ?_
   refine c_nil ?_
   cases hs
   exact ⟨_, fr_ovl 96 ⟨rfl, rfl, rfl, rfl, rfl, rfl, trivial⟩, hMid⟩
  refine pl_yes (.bool r18.2) (tg := 57) (by kernel_rfl) (congrArg Value.bool b8) (y_move rfl) ?_
  refine pl_yes (.bool r10.2) (tg := 57) (by kernel_rfl) (congrArg Value.bool b8) (y_move rfl) ?_
  refine pl_yes (.bool (!(r18.2 == r10.2))) (tg := 57) (by kernel_rfl) (congrArg Value.bool b8) (y_bneq Try.underlying4 rfl rfl) ?_
  refine pl_val (.bool (!(r18.2 == r10.2))) (y_pick_f (congrArg Value.bool b8) rfl) ?_
  refine c_nil ?_
  cases hs
  exact ⟨_, fr_ovl 96 ⟨rfl, rfl, rfl, rfl, rfl, rfl, trivial⟩, hMid⟩
 rintro h4 h8 ⟨σ, rfl, d6⟩
 have h0 := h0.ext d6
 have a0 := a0.cn d6
 have a1 := a1.ext d6
 have a2 := a2.ext d6
 have hC := hC.ext d6
 have hO := hO.ext d6
 rcases bif_some hs with ⟨f9, hs⟩ | ⟨f9, hs⟩
 ·refine c_condT (congrArg Value.bool f9) ?_
  refine c_sr ?_
  refine pl_val (.bool false) (y_assign rfl) ?_
  refine c_nil ?_
  refine wp_ret ?_
  cases hs
  exact ⟨_, fr_ovl 96 ⟨rfl, trivial⟩, hC⟩
 refine c_condF (congrArg Value.bool f9) ?_
 refine wp_skip ?_
 refine c_sr ?_
 refine pl_val (.int .i64 1) (y_assign rfl) ?_
 refine c_nil ?_
 refine c_sr ?_
 refine pl_val (.slice a9 b0 b1) (y_move rfl) ?_
 refine pl_val (.int .i64 1) (y_move rfl) ?_
 have l3 := hO
 have h9 := Own.lend (F := (b4 ++ ([]))) (R := a6 ++ (([a5]) ++ ([]))) (Own.perm (l3) (by simp))
 obtain ⟨r51, l4, hs⟩ := bind_some hs
 refine pl_call Bd38 rfl (c_laws_markIntSS (M := M) r18.1 1 a2 h9 h9.fut l4) ?_
 rintro _ n6 ⟨e2, rfl, e3, a7, l5⟩
 have hO := hO.perm (R := (b4 ++ ([])) ++ (a6 ++ (([a5]) ++ ([])))) (by simp)
 have h0 := h0.mt e3 hO same_
 have a0 := a0.ap e3 hO same_ (mem_r (mem_l (List.mem_singleton.2 rfl)))
 have a1 := a1.ma e3 hO same_ (fun _ e => (mem_l (e)))
 have hC := hC.st e3 hO same_
 have hO := Own.join hO e3 l5
 have hO := hO.perm (R := e2 ++ (a6 ++ (([a5]) ++ ([])))) (by simp)
 refine pl_val (.int .i64 r51.1) (y_assign rfl) ?_
 refine c_nil ?_
 refine c_sr ?_
 refine pl_val (.int .i64 1) (y_assign rfl) ?_
 refine c_nil ?_
 refine c_sr ?_
 refine pl_val (.slice a9 b0 b1) (y_move rfl) ?_
 refine pl_val (.int .i64 1) (y_move rfl) ?_
 obtain ⟨r53, l6, hs⟩ := bind_some hs
 refine pl_call Bd39 rfl (c_laws_heldIntSS (M := (Less M e2)) r51.2 1 (((Frz.os (Frz.os Frz.int))).val a7 Less.sub Less.not) hO.less.fut l6) ?_
 rintro _ n7 ⟨rfl, d7⟩
 have h0 := h0.ext d7
 have a0 := a0.cn d7
 have a1 := a1.ext d7
 have a7 := a7.ext d7
 have hC := hC.ext d7
 have hO := hO.ext d7
 refine pl_val (.int .i64 r53) (y_assign rfl) ?_
 refine c_nil ?_
 refine c_seq ?_
 refine c_sr ?_
 refine pl_val (.int .i64 r53) (y_move rfl) ?_
 refine pl_val (.bool (decide (r53 < 0))) (y_lss rfl rfl) ?_
 refine c_nil ?_
 rcases bif_some hs with ⟨g0, hs⟩ | ⟨g0, hs⟩
 ·refine c_condT (congrArg Value.bool g0) ?_
  refine c_sr ?_
  refine pl_val (.bool false) (y_assign rfl) ?_
  refine c_nil ?_
  refine wp_ret ?_
  cases hs
  exact ⟨_, fr_ovl 96 ⟨rfl, trivial⟩, hC⟩
 refine c_condF (congrArg Value.bool g0) ?_
 refine wp_skip ?_
 refine c_seq ?_
 refine c_sr ?_
 refine pl_val (.int .i64 r53) (y_move rfl) ?_
 refine pl_val (.int .i64 r51.1) (y_move rfl) ?_
 refine pl_val (.bool (r53 != r51.1)) (y_neq rfl rfl) ?_
 refine c_nil ?_
 rcases bif_some hs with ⟨g1, hs⟩ | ⟨g1, hs⟩
 ·refine c_condT (congrArg Value.bool g1) ?_
  refine c_sr ?_
  refine pl_val (.bool false) (y_assign rfl) ?_
  refine c_nil ?_
  refine wp_ret ?_
  cases hs
  exact ⟨_, fr_ovl 96 ⟨rfl, trivial⟩, hC⟩
 refine c_condF (congrArg Value.bool g1) ?_
 refine wp_skip ?_
 refine c_sr ?_
 refine pl_val (.agg #[(.int .i64 aNet.1), (.int .i64 aNet.2.1), (.slice pa0 pn0 pc0)]) (y_load rfl ((box_load Ag24 Sz24 a0 [] [(.int .i64 aNet.1), (.int .i64 aNet.2.1), (.slice pa0 pn0 pc0)] [] rfl rfl (fun h => nomatch h)) _ (Chg.refl _ _))) ?_
 obtain ⟨r57, l7, hs⟩ := bind_some hs
 refine pl_call Bd13 rfl (c_laws_toNetwork (M := M) (aNet.1, aNet.2.1, aNet.2.2) h0 hO.fut l7) ?_
 rintro _ n8 ⟨n9, o0, o1, g2, rfl, d8, g3, l8⟩
 have h0 := h0.ext d8
 have a0 := a0.cn d8
 have a1 := a1.ext d8
 have a7 := a7.ext d8
 have hC := hC.ext d8
 have hO := Own.join0 hO d8 l8
 have hO := hO.perm (R := g2 ++ (e2 ++ (a6 ++ (([a5]) ++ ([]))))) (by simp)
 obtain ⟨r60, l9, hs⟩ := bind_some hs
 refine pl_call Bd36 rfl (c_impl_AllSolutions (M := (Less M g2)) (r57.1, r57.2.1, r57.2.2) (((Frz.os (Frz.pr (Frz.os Frz.int) (Frz.pr Frz.int (Frz.os (Frz.os Frz.int)))))).val g3 Less.sub Less.not) hO.less.fut l9) ?_
 rintro _ i0 ⟨e9, f0, f1, i1, rfl, d2, d3, m0⟩
 have h0 := h0.ext d2
 have a0 := a0.cn d2
 have a1 := a1.ext d2
 have a7 := a7.ext d2
 have g3 := g3.ext d2
 have hC := hC.ext d2
 have hO := Own.join0 hO d2 m0
 have hO := hO.perm (R := i1 ++ (g2 ++ (e2 ++ (a6 ++ (([a5]) ++ ([])))))) (by simp)
 have d3 := d3.free (M' := M) (Free.os (Free.os Free.int))
 refine pl_val (.tuple #[(.slice e9 f0 f1), (.bool r60.2)]) (y_move rfl) ?_
 refine pl_val (.slice e9 f0 f1) (y_extract rfl (by kernel_rfl)) ?_
 refine pl_val (.bool r60.2) (y_extract rfl (by kernel_rfl)) ?_
 refine pl_val (.slice e9 f0 f1) (y_assign rfl) ?_
 refine pl_val (.bool r60.2) (y_assign rfl) ?_
 refine c_nil ?_
 have hO := hO.fr1
 have hO := hO.drop
 have hO := hO.fr3
 have hO := hO.drop
 refine c_seq ?_
 refine c_seq ?_
 obtain ⟨s62, m1, hs⟩ := bind_some hs
 refine c_mid (I := fun a i2 => ∃ (σ : Nat → Value), a = fr 96 (ovl σ [(2, (.bool false)), (7, (.slice a9 b0 b1)), (10, (.int .i64 r51.1)), (11, (.int .i64 r53)), (87, (.bool s62))]) ∧ Chg [] i0 i2) ?_ ?_
 ·replace hs := m1
  have hMid := Chg.refl [] i0
  refine c_region ?_
  refine pl_val (.slice e9 f0 f1) (y_move rfl) ?_
  refine pl_val (.slice c0 c1 c2) (y_move rfl) ?_
  have hO := hO.fr2
  have hO := hO.fr1
  obtain ⟨r66, m2, hs⟩ := bind_some hs
  refine pl_call Bd37 rfl (c_laws_eqIntSS (M := (Less (Less M i1) a6)) r60.1 r10.1 ((((Frz.os (Frz.os Frz.int))).val d3 Less.sub Less.not).sub Less.sub) (((Frz.os (Frz.os Frz.int))).val (a1.sub Less.sub) Less.sub Less.not) (hO.less).less.fut m2) ?_
  rintro _ o2 ⟨rfl, d9⟩
  have a1 := a1.ext d9
  have a7 := a7.ext d9
  have d3 := d3.ext d9
  have hMid := hMid.ext d9
  have hC := hC.ext d9
  have hO := hO.ext d9
  refine pl_val (.bool (!r66)) (y_not rfl) ?_
  refine pl_val (.bool (!r66)) (y_move rfl) ?_
  rcases bif_some hs with ⟨b9, hs⟩ | ⟨b9, hs⟩
  ·skip
   refine pl_not (tg := 83) (by kernel_rfl) (congrArg Value.bool b9) ?_
   refine pl_not (tg := 83) (by kernel_rfl) (congrArg Value.bool b9) ?_
   refine pl_not (tg := 83) (by kernel_rfl) (congrArg Value.bool b9) ?_
   refine pl_val (.bool true) (y_pick_t (congrArg Value.bool b9) rfl) ?_
   refine c_nil ?_
   have hO := hO.drop
   have hO := hO.drop
   cases hs
   exact ⟨_, fr_ovl 96 ⟨rfl, rfl, rfl, rfl, rfl, trivial⟩, hMid⟩
  refine pl_yes (.bool r60.2) (tg := 83) (by kernel_rfl) (congrArg Value.bool b9) (y_move rfl) ?_
  refine pl_yes (.bool r10.2) (tg := 83) (by kernel_rfl) (congrArg Value.bool b9) (y_move rfl) ?_
  refine pl_yes (.bool (!(r60.2 == r10.2))) (tg := 83) (by kernel_rfl) (congrArg Value.bool b9) (y_bneq Try.underlying4 rfl rfl) ?_
  refine pl_val (.bool (!(r60.2 == r10.2))) (y_pick_f (congrArg Value.bool b9) rfl) ?_
  refine c_nil ?_
  have hO := hO.drop
  have hO := hO.drop
  cases hs
  exact ⟨_, fr_ovl 96 ⟨rfl, rfl, rfl, rfl, rfl, trivial⟩, hMid⟩
 rintro h4 i2 ⟨σ, rfl, e4⟩
 have a1 := a1.ext e4
 have a7 := a7.ext e4
 have d3 := d3.ext e4
 have hC := hC.ext e4
 have hO := hO.ext e4
 rcases bif_some hs with ⟨g4, hs⟩ | ⟨g4, hs⟩
 ·refine c_condT (congrArg Value.bool g4) ?_
  refine c_sr ?_
  refine pl_val (.bool false) (y_assign rfl) ?_
  refine c_nil ?_
  have hO := hO.drop
  have hO := hO.fr1
  have hO := hO.drop
  refine wp_ret ?_
  cases hs
  exact ⟨_, fr_ovl 96 ⟨rfl, trivial⟩, hC⟩
 refine c_condF (congrArg Value.bool g4) ?_
 refine wp_skip ?_
 refine c_sr ?_
 refine pl_val (.int .i64 1) (y_assign rfl) ?_
 refine c_nil ?_
 have hO := hO.drop
 have hO := hO.fr1
 have hO := hO.drop
 refine c_sr ?_
 refine pl_val (.slice a9 b0 b1) (y_move rfl) ?_
 refine pl_val (.int .i64 1) (y_move rfl) ?_
 obtain ⟨r70, m3, hs⟩ := bind_some hs
 refine pl_call Bd39 rfl (c_laws_heldIntSS (M := (Less M e2)) r51.2 1 (((Frz.os (Frz.os Frz.int))).val a7 Less.sub Less.not) hO.less.fut m3) ?_
 rintro _ o3 ⟨rfl, g5⟩
 have a7 := a7.ext g5
 have hC := hC.ext g5
 have hO := hO.ext g5
 refine pl_val (.int .i64 r70) (y_assign rfl) ?_
 refine c_nil ?_
 have hO := hO.drop
 refine c_seq ?_
 refine c_sr ?_
 refine pl_val (.int .i64 r70) (y_move rfl) ?_
 refine pl_val (.bool (decide (r70 < 0))) (y_lss rfl rfl) ?_
 refine c_nil ?_
 rcases bif_some hs with ⟨g6, hs⟩ | ⟨g6, hs⟩
 ·refine c_condT (congrArg Value.bool g6) ?_
  refine c_sr ?_
  refine pl_val (.bool false) (y_assign rfl) ?_
  refine c_nil ?_
  refine wp_ret ?_
  cases hs
  exact ⟨_, fr_ovl 96 ⟨rfl, trivial⟩, hC⟩
 refine c_condF (congrArg Value.bool g6) ?_
 refine wp_skip ?_
 refine c_seq ?_
 refine c_sr ?_
 refine pl_val (.int .i64 r70) (y_move rfl) ?_
 refine pl_val (.int .i64 r51.1) (y_move rfl) ?_
 refine pl_val (.bool (r70 != r51.1)) (y_neq rfl rfl) ?_
 refine c_nil ?_
 rcases bif_some hs with ⟨g7, hs⟩ | ⟨g7, hs⟩
 ·refine c_condT (congrArg Value.bool g7) ?_
  refine c_sr ?_
  refine pl_val (.bool false) (y_assign rfl) ?_
  refine c_nil ?_
  refine wp_ret ?_
  cases hs
  exact ⟨_, fr_ovl 96 ⟨rfl, trivial⟩, hC⟩
 refine c_condF (congrArg Value.bool g7) ?_
 refine wp_skip ?_
 refine c_sr ?_
 refine pl_val (.bool true) (y_assign rfl) ?_
 refine c_nil ?_
 refine wp_ret ?_
 cases hs
 exact ⟨_, fr_ovl 96 ⟨rfl, trivial⟩, hC⟩

end Go.Proofs
