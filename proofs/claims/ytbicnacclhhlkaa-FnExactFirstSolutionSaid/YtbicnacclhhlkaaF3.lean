/- What functions of the program compute, as plain functions, and that a call gives just that. Conditions: those named in each theorem. -/
import Derived.Test.YtbicnacclhhlkaaF2
set_option linter.unusedVariables false
namespace Go.Proofs
open Go.G Go.RowKit
set_option maxRecDepth 100000

def k_laws_markIntSS (M : Nat → Prop) (w0 : World) (qa0 : Option Addr) (qn0 qc0 : Nat) (qf0 : List Nat) (r : Int × (List (List Int))) (a : Act) (w : World) : Prop :=
  ∃ (σ : Nat → Value) (rfi0 : List Nat), a = fr 19 (ovl σ [(4, (.int .i64 r.1))]) ∧ Chg (qf0 ++ ([])) w0 w ∧ (RT.os 41 (RT.os 3 (RT.int .i64))).val M w (.slice qa0 qn0 qc0) r.2 rfi0 ∧ Own (Nw w0 (qf0 ++ ([]))) (fun _ => True) w (rfi0 ++ ([]))
def s_laws_markIntSS (a_ : List (List Int)) (k : Int) : Option (Int × (List (List Int))) :=
  (iter (S := Int × Int × (List (List Int))) (R := Int × (List (List Int))) (fun s37 =>
  (bif (decide (s37.2.1 < (s37.2.2.length : Int))) then (idx s37.2.2 s37.2.1).bind fun x46 =>
  (s_laws_markIntS x46 s37.1).bind fun r51 =>
  some (.nx (r51.1, w64 (s37.2.1 + 1), List.set s37.2.2 (Int.toNat s37.2.1) r51.2)) else some (.br (s37.1, s37.2.1, s37.2.2)))) FU (k, 0, a_)).bind fun o41 => after o41 (fun r_ => some r_) (fun s37 =>
  some (s37.1, s37.2.2))
set_option maxHeartbeats 4000000 in
theorem c_laws_markIntSS {M : Nat → Prop} {w : World} {pa0 : Option Addr} {pn0 pc0 : Nat} {pf0 : List Nat} (a_ : List (List Int)) (k : Int) (h0 : (RT.os 41 (RT.os 3 (RT.int .i64))).val M w (.slice pa0 pn0 pc0) a_ pf0) (hI : Own (Nw w (pf0 ++ ([]))) M w (pf0 ++ ([]))) (hM : ∀ g, w.heap.size ≤ g → M g) {r : Int × (List (List Int))} (hs : s_laws_markIntSS a_ k = some r) :
    Gives Try.prog 38 [(.slice pa0 pn0 pc0), (.int .i64 k)] w (fun v w' => ∃ (rfi0 : List Nat), v = (.int .i64 r.1) ∧ Chg (pf0 ++ ([])) w w' ∧ (RT.os 41 (RT.os 3 (RT.int .i64))).val M w' (.slice pa0 pn0 pc0) r.2 rfi0 ∧ Own (Nw w (pf0 ++ ([]))) (fun _ => True) w' (rfi0 ++ ([]))) := by
 refine calls_fr Try.func38 rfl Try.ntmps38 (Nat.le_of_ble_eq_true rfl) ?_
 have hO := hI
 have hC := Chg.refl (pf0 ++ ([])) w
 unfold s_laws_markIntSS at hs
 refine wp_mono (Q := KPost (k_laws_markIntSS M w pa0 pn0 pc0 pf0 r)) ?_ (fun e a b5 h => ?_)
 rotate_left
 ·cases e
  case ret =>
   obtain ⟨σ, rfi0, rfl, hrest⟩ := h
   exact ret1x Try.results38 (res_tmp rfl) ⟨rfi0, rfl, hrest⟩
  all_goals exact (h : False).elim
 refine c_sr ?_
 refine pl_val (.int .i64 0) (y_assign rfl) ?_
 refine c_nil ?_
 refine c_seq ?_
 refine c_sr ?_
 refine pl_val (.int .i64 0) (y_assign rfl) ?_
 refine c_nil ?_
 obtain ⟨o41, b6, hs⟩ := bind_some hs
 refine wp_block ?_
 refine wp_iter (id := 0) (I := fun s37 a a0 => ∃ (σ : Nat → Value) (a1 : List Nat), a = fr 19 (ovl σ [(0, (.slice pa0 pn0 pc0)), (1, (.int .i64 s37.1)), (5, (.int .i64 s37.2.1))]) ∧ Chg (pf0 ++ ([])) w a0 ∧ Own (Nw w (pf0 ++ ([]))) M a0 (a1 ++ []) ∧ (RT.os 41 (RT.os 3 (RT.int .i64))).val M a0 (.slice pa0 pn0 pc0) s37.2.2 a1) (J := fun s37 a a0 => ∃ (σ : Nat → Value) (a3 : List Nat), a = fr 19 (ovl σ [(1, (.int .i64 s37.1))]) ∧ Chg (pf0 ++ ([])) w a0 ∧ Own (Nw w (pf0 ++ ([]))) M a0 (a3 ++ []) ∧ (RT.os 41 (RT.os 3 (RT.int .i64))).val M a0 (.slice pa0 pn0 pc0) s37.2.2 a3) (K := (k_laws_markIntSS M w pa0 pn0 pc0 pf0)) ?_ FU (k, 0, a_) o41 _ _ ?_ b6 ?_
 ·rintro s37 o41 a a0 ⟨σ, a1, rfl, hC, hO, a4⟩ hs
  refine c_seq ?_
  refine c_sr ?_
  refine pl_val (.int .i64 s37.2.1) (y_move rfl) ?_
  refine pl_val (.slice pa0 pn0 pc0) (y_move rfl) ?_
  refine pl_val (.int .i64 (s37.2.2.length : Int)) (y_len' Sl47 (os_len a4) rfl) ?_
  refine pl_val (.bool (decide (s37.2.1 < (s37.2.2.length : Int)))) (y_lss rfl rfl) ?_
  refine c_nil ?_
  rcases bif_some hs with ⟨a5, hs⟩ | ⟨a5, hs⟩
  ·refine c_condT (congrArg Value.bool a5) ?_
   refine wp_skip ?_
   refine c_seq ?_
   refine wp_block ?_
   refine c_region ?_
   refine pl_val (.slice pa0 pn0 pc0) (y_move rfl) ?_
   refine pl_val (.int .i64 s37.2.1) (y_move rfl) ?_
   obtain ⟨x46, a8, hs⟩ := bind_some hs
   obtain ⟨b7, d9, b8, e0, b9, c0, c1⟩ := os_idx Sl47 Sz41 a4 a8
   have c2 := own_row (Frz.os Frz.int) c0 c1
   refine pl_val (.pointer (some ⟨b7, 0 + Int.toNat s37.2.1 * 1, none⟩)) (b9 _ _ _ _ _ _ _ _ _ rfl rfl) ?_
   obtain ⟨e1, c3, hrow48, c4⟩ := at_load1 Ag41 Sz41 rfl rfl c2
   obtain ⟨a9, b0, b1, rfl⟩ := rs_sl c4
   refine pl_val (.slice a9 b0 b1) (y_load rfl (c3 _ (Chg.refl _ _))) ?_
   refine pl_val (.int .i64 s37.1) (y_move rfl) ?_
   obtain ⟨a2, c5, c6, c7, hput50⟩ := os_put b8 a4 a8 hrow48 rfl hO.inM
   have c8 : (RT.os 3 (RT.int .i64)).val M a0 (.slice a9 b0 b1) x46 a2 := ⟨[_], rfl, c5⟩
   have b2 : ∀ q ∈ (a2 ++ ([])), q ∈ a1 := fun q hq => c6 q (by simpa using hq)
   have c9 : List.Nodup (a2 ++ ([])) := by simpa using c7
   have d0 := hO
   have b3 := Own.part (X := (a2 ++ ([]))) (d0) b2 c9
   obtain ⟨r51, d1, hs⟩ := bind_some hs
   refine pl_call Bd33 rfl (c_laws_markIntS (M := M) x46 s37.1 c8 b3 b3.fut d1) ?_
   rintro _ d2 ⟨d3, rfl, a6, d4, b4⟩
   obtain ⟨d5, a7, d6⟩ := hput50 d2 (a2 ++ ([])) r51.2 d3 a6 (fun q hq => by simpa using hq) (os_unval d4) (by simpa using b4.1) (fun q hq => (b4.2.1 q (by simpa using hq)).2.2.imp (fun h => by simpa using h) id)
   have hC := hC.st a6 hO b2
   have hO := hO.grow a6 d6 (os_nodup a7) a7.fpl
   refine pl_val (.int .i64 r51.1) (y_assign rfl) ?_
   refine c_nil ?_
   refine c_region ?_
   refine pl_val (.int .i64 s37.2.1) (y_move rfl) ?_
   refine pl_val (.int .i64 (w64 (s37.2.1 + 1))) (y_add rfl rfl) ?_
   refine pl_val (.int .i64 (w64 (s37.2.1 + 1))) (y_assign rfl) ?_
   refine c_nil ?_
   cases hs
   exact ⟨_, d5, fr_ovl 19 ⟨rfl, rfl, rfl, trivial⟩, hC, hO, a7⟩
  refine c_condF (congrArg Value.bool a5) ?_
  refine wp_exit ?_
  cases hs
  exact ⟨rfl, _, a1, fr_ovl 19 ⟨rfl, trivial⟩, hC, hO, a4⟩
 ·skip
  exact ⟨_, pf0, fr_ovl 19 ⟨rfl, rfl, rfl, trivial⟩, hC, hO, h0⟩
 cases o41 with
 | nx _ => exact True.intro
 | rt r_ =>
  have hs := after_rt hs
  intro d7 b5 hK
  cases hs
  exact hK
 | br s37 =>
  have hs := after_br hs
  rintro d7 a0 ⟨σ, a3, rfl, hC, hO, d8⟩
  refine c_sr ?_
  refine pl_val (.int .i64 s37.1) (y_move rfl) ?_
  refine pl_val (.int .i64 s37.1) (y_assign rfl) ?_
  refine c_nil ?_
  refine wp_ret ?_
  cases hs
  exact ⟨_, a3, fr_ovl 19 ⟨rfl, trivial⟩, hC, d8, hO.top⟩

theorem Bd38 : Bodied Try.prog 38 := bodied Try.func38 (by kernel_rfl) rfl

def k_laws_markConstraintS (M : Nat → Prop) (w0 : World) (qa0 : Option Addr) (qn0 qc0 : Nat) (qf0 : List Nat) (r : Int × (List ((List Int) × (Int × (List (List Int)))))) (a : Act) (w : World) : Prop :=
  ∃ (σ : Nat → Value) (rfi0 : List Nat), a = fr 36 (ovl σ [(4, (.int .i64 r.1))]) ∧ Chg (qf0 ++ ([])) w0 w ∧ (RT.os 56 (RT.pr (RT.os 3 (RT.int .i64)) (RT.pr (RT.int .i64) (RT.os 41 (RT.os 3 (RT.int .i64)))))).val M w (.slice qa0 qn0 qc0) r.2 rfi0 ∧ Own (Nw w0 (qf0 ++ ([]))) (fun _ => True) w (rfi0 ++ ([]))
def s_laws_markConstraintS (a_ : List ((List Int) × (Int × (List (List Int))))) (k : Int) : Option (Int × (List ((List Int) × (Int × (List (List Int)))))) :=
  (iter (S := Int × Int × (List ((List Int) × (Int × (List (List Int)))))) (R := Int × (List ((List Int) × (Int × (List (List Int)))))) (fun s102 =>
  (bif (decide (s102.2.1 < (s102.2.2.length : Int))) then (idx s102.2.2 s102.2.1).bind fun x111 =>
  (s_laws_markIntS x111.1 s102.1).bind fun r118 =>
  (idx (List.set s102.2.2 (Int.toNat s102.2.1) (r118.2, (x111.2.1, x111.2.2))) s102.2.1).bind fun x119 =>
  (idx (List.set (List.set s102.2.2 (Int.toNat s102.2.1) (r118.2, (x111.2.1, x111.2.2))) (Int.toNat s102.2.1) (x119.1, (r118.1, x119.2.2))) s102.2.1).bind fun x124 =>
  (s_laws_markIntSS x124.2.2 (w64 (r118.1 + 1))).bind fun r132 =>
  some (.nx (r132.1, w64 (s102.2.1 + 1), List.set (List.set (List.set s102.2.2 (Int.toNat s102.2.1) (r118.2, (x111.2.1, x111.2.2))) (Int.toNat s102.2.1) (x119.1, (r118.1, x119.2.2))) (Int.toNat s102.2.1) (x124.1, (x124.2.1, r132.2)))) else some (.br (s102.1, s102.2.1, s102.2.2)))) FU (k, 0, a_)).bind fun o106 => after o106 (fun r_ => some r_) (fun s102 =>
  some (s102.1, s102.2.2))
set_option maxHeartbeats 4000000 in
theorem c_laws_markConstraintS {M : Nat → Prop} {w : World} {pa0 : Option Addr} {pn0 pc0 : Nat} {pf0 : List Nat} (a_ : List ((List Int) × (Int × (List (List Int))))) (k : Int) (h0 : (RT.os 56 (RT.pr (RT.os 3 (RT.int .i64)) (RT.pr (RT.int .i64) (RT.os 41 (RT.os 3 (RT.int .i64)))))).val M w (.slice pa0 pn0 pc0) a_ pf0) (hI : Own (Nw w (pf0 ++ ([]))) M w (pf0 ++ ([]))) (hM : ∀ g, w.heap.size ≤ g → M g) {r : Int × (List ((List Int) × (Int × (List (List Int)))))} (hs : s_laws_markConstraintS a_ k = some r) :
    Gives Try.prog 84 [(.slice pa0 pn0 pc0), (.int .i64 k)] w (fun v w' => ∃ (rfi0 : List Nat), v = (.int .i64 r.1) ∧ Chg (pf0 ++ ([])) w w' ∧ (RT.os 56 (RT.pr (RT.os 3 (RT.int .i64)) (RT.pr (RT.int .i64) (RT.os 41 (RT.os 3 (RT.int .i64)))))).val M w' (.slice pa0 pn0 pc0) r.2 rfi0 ∧ Own (Nw w (pf0 ++ ([]))) (fun _ => True) w' (rfi0 ++ ([]))) := by
 refine calls_fr Try.func84 rfl Try.ntmps84 (Nat.le_of_ble_eq_true rfl) ?_
 have hO := hI
 have hC := Chg.refl (pf0 ++ ([])) w
 unfold s_laws_markConstraintS at hs
 refine wp_mono (Q := KPost (k_laws_markConstraintS M w pa0 pn0 pc0 pf0 r)) ?_ (fun e a f8 h => ?_)
 rotate_left
 ·cases e
  case ret =>
   obtain ⟨σ, rfi0, rfl, hrest⟩ := h
   exact ret1x Try.results84 (res_tmp rfl) ⟨rfi0, rfl, hrest⟩
  all_goals exact (h : False).elim
 refine c_sr ?_
 refine pl_val (.int .i64 0) (y_assign rfl) ?_
 refine c_nil ?_
 refine c_seq ?_
 refine c_sr ?_
 refine pl_val (.int .i64 0) (y_assign rfl) ?_
 refine c_nil ?_
 obtain ⟨o106, f9, hs⟩ := bind_some hs
 refine wp_block ?_
 refine wp_iter (id := 0) (I := fun s102 a a0 => ∃ (σ : Nat → Value) (a4 : List Nat), a = fr 36 (ovl σ [(0, (.slice pa0 pn0 pc0)), (1, (.int .i64 s102.1)), (5, (.int .i64 s102.2.1))]) ∧ Chg (pf0 ++ ([])) w a0 ∧ Own (Nw w (pf0 ++ ([]))) M a0 (a4 ++ []) ∧ (RT.os 56 (RT.pr (RT.os 3 (RT.int .i64)) (RT.pr (RT.int .i64) (RT.os 41 (RT.os 3 (RT.int .i64)))))).val M a0 (.slice pa0 pn0 pc0) s102.2.2 a4) (J := fun s102 a a0 => ∃ (σ : Nat → Value) (a9 : List Nat), a = fr 36 (ovl σ [(1, (.int .i64 s102.1))]) ∧ Chg (pf0 ++ ([])) w a0 ∧ Own (Nw w (pf0 ++ ([]))) M a0 (a9 ++ []) ∧ (RT.os 56 (RT.pr (RT.os 3 (RT.int .i64)) (RT.pr (RT.int .i64) (RT.os 41 (RT.os 3 (RT.int .i64)))))).val M a0 (.slice pa0 pn0 pc0) s102.2.2 a9) (K := (k_laws_markConstraintS M w pa0 pn0 pc0 pf0)) ?_ FU (k, 0, a_) o106 _ _ ?_ f9 ?_
 ·rintro s102 o106 a a0 ⟨σ, a4, rfl, hC, hO, b0⟩ hs
  refine c_seq ?_
  refine c_sr ?_
  refine pl_val (.int .i64 s102.2.1) (y_move rfl) ?_
  refine pl_val (.slice pa0 pn0 pc0) (y_move rfl) ?_
  refine pl_val (.int .i64 (s102.2.2.length : Int)) (y_len' Sl28 (os_len b0) rfl) ?_
  refine pl_val (.bool (decide (s102.2.1 < (s102.2.2.length : Int)))) (y_lss rfl rfl) ?_
  refine c_nil ?_
  rcases bif_some hs with ⟨c1, hs⟩ | ⟨c1, hs⟩
  ·refine c_condT (congrArg Value.bool c1) ?_
   refine wp_skip ?_
   refine c_seq ?_
   refine wp_block ?_
   refine c_sr ?_
   refine pl_val (.slice pa0 pn0 pc0) (y_move rfl) ?_
   refine pl_val (.int .i64 s102.2.1) (y_move rfl) ?_
   obtain ⟨x111, d4, hs⟩ := bind_some hs
   obtain ⟨d5, m9, g0, n0, g1, g2, g3⟩ := os_idx Sl28 Sz56 b0 d4
   have d6 := own_row (Frz.pr (Frz.os Frz.int) (Frz.pr Frz.int (Frz.os (Frz.os Frz.int)))) g2 g3
   refine pl_val (.pointer (some ⟨d5, 0 + Int.toNat s102.2.1 * 3, none⟩)) (g1 _ _ _ _ _ _ _ _ _ rfl rfl) ?_
   obtain ⟨n1, _⟩ := pr_at d6
   refine pl_val (.pointer (some ⟨d5, (0 + Int.toNat s102.2.1 * 3) + 0, none⟩)) (y_faddr rfl Fa56x0) ?_
   obtain ⟨n2, hrow114, g4⟩ := at_open d6
   obtain ⟨n3, n4, rfl, g5, g6⟩ := pr_open g4
   obtain ⟨b1, b2, b3, rfl, n5⟩ := rs_rel g5
   obtain ⟨n6, n7, rfl, g7, g8⟩ := pr_open g6
   obtain rfl := int_rel g7
   obtain ⟨c2, c3, c4, rfl, n8⟩ := rs_rel g8
   refine pl_val (.slice b1 b2 b3) (y_load rfl ((part_load (l1 := []) (c := [(.slice b1 b2 b3)]) (l2 := [(.int .i64 x111.2.1), (.slice c2 c3 c4)]) Ag41 Sz41 hrow114 rfl rfl (fun _ => rfl)) _ (Chg.refl _ _))) ?_
   refine pl_val (.int .i64 s102.1) (y_move rfl) ?_
   obtain ⟨n9, g9, h1, c5, hput117⟩ := os_put g0 b0 d4 hrow114 rfl hO.inM
   obtain ⟨a1, o0, rfl, h2, h3⟩ := pr_split (c := [(.slice b1 b2 b3)]) (d := [(.int .i64 x111.2.1), (.slice c2 c3 c4)]) g9 rfl
   obtain ⟨o1, b4, rfl, h4, d7⟩ := pr_split (c := [(.int .i64 x111.2.1)]) (d := [(.slice c2 c3 c4)]) h3 rfl
   obtain rfl := int_fp h4
   have h5 : (RT.os 3 (RT.int .i64)).val M a0 (.slice b1 b2 b3) x111.1 a1 := ⟨[_], rfl, h2⟩
   have c6 : ∀ q ∈ (a1 ++ ([])), q ∈ a4 := fun q hq => h1 q (by simp only [List.mem_append, List.not_mem_nil, or_false] at hq; simp [hq])
   have h6 : List.Nodup (a1 ++ ([])) := by simpa using (List.nodup_append.1 (show List.Nodup (a1 ++ b4) by simpa using c5)).1
   have h7 := hO
   have d8 := Own.part (X := (a1 ++ ([]))) (h7) c6 h6
   obtain ⟨r118, h8, hs⟩ := bind_some hs
   refine pl_call Bd33 rfl (c_laws_markIntS (M := M) x111.1 s102.1 h5 d8 d8.fut h8) ?_
   rintro _ d9 ⟨e0, rfl, b5, h9, c7⟩
   obtain ⟨i0, b6, i1⟩ := hput117 d9 (a1 ++ ([])) (r118.2, (x111.2.1, x111.2.2)) (e0 ++ (([] : List Nat) ++ b4)) b5 (fun q hq => by simp only [List.mem_append, List.not_mem_nil, or_false] at hq; simp [hq]) ⟨_, _, _, _, rfl, rfl, (os_unval h9), ⟨_, _, _, _, rfl, rfl, ⟨rfl, rfl⟩, (RT.mono _ d7 b5 (fun q hq => .inl (hO.inM q (c6 q hq))) (fun q hq hq' => (fun A B (hd : (A ++ B).Nodup) (ha : q ∈ A) (hb : q ∈ B) => (List.nodup_append.1 hd).2.2 q ha q hb rfl) a1 b4 (by simpa using c5) (by simpa using hq) hq') (fun _ h => .inl h))⟩⟩ (by simpa using nd_first (X := a1) (X' := e0) (s := (a0).heap.size) (show List.Nodup (a1 ++ b4) by simpa using c5) (by simpa using c7.1) (fun q hq => (c7.2.1 q (by simpa using hq)).2.2.imp (fun h => by simpa using h) id) (fun q hq => RT.fpl _ d7 q hq)) (fun q hq => by simp only [List.mem_append, List.not_mem_nil, or_false, false_or] at hq ⊢; rcases hq with hq | hq <;> first | exact .inl (by simp [hq]) | exact ((fun q hq => (c7.2.1 q (by simpa using hq)).2.2.imp (fun h => by simpa using h) id) q hq).imp (fun h => by simp [h]) id)
   have hC := hC.st b5 hO c6
   have hO := hO.grow b5 i1 (os_nodup b6) b6.fpl
   refine pl_val (.int .i64 r118.1) (y_assign rfl) ?_
   refine c_nil ?_
   refine c_sr ?_
   refine pl_val (.slice pa0 pn0 pc0) (y_move rfl) ?_
   refine pl_val (.int .i64 s102.2.1) (y_move rfl) ?_
   refine pl_val (.int .i64 r118.1) (y_move rfl) ?_
   obtain ⟨x119, e1, hs⟩ := bind_some hs
   obtain ⟨a3, o2, i2, o3, i3, i4, i5⟩ := os_idx Sl28 Sz56 b6 e1
   have i6 := own_row (Frz.pr (Frz.os Frz.int) (Frz.pr Frz.int (Frz.os (Frz.os Frz.int)))) i4 i5
   refine pl_val (.pointer (some ⟨a3, 0 + Int.toNat s102.2.1 * 3, none⟩)) (i3 _ _ _ _ _ _ _ _ _ rfl rfl) ?_
   obtain ⟨_, i7⟩ := pr_at i6
   refine pl_val (.pointer (some ⟨a3, (0 + Int.toNat s102.2.1 * 3) + 1, none⟩)) (y_faddr rfl Fa56x1) ?_
   obtain ⟨o4, _⟩ := pr_at i7
   refine pl_val (.pointer (some ⟨a3, ((0 + Int.toNat s102.2.1 * 3) + 1) + 0, none⟩)) (y_faddr rfl Fa54x0) ?_
   obtain ⟨e2, o5, i9, o6, j0, o7, j1, j2, o8, j3, e3, e4, hput123⟩ := os_focus i2 b6 e1 hO.inM
   obtain ⟨c8, o9, j4, p0, rfl, rfl, e5, j5⟩ := j2
   obtain ⟨p1, e6, p2, j6, rfl, rfl, j7, e7⟩ := j5
   obtain ⟨rfl, rfl⟩ := j7
   have j8 := RT.len _ e5
   have p3 := RT.len _ e7
   obtain ⟨b7, e8, a5, j9⟩ := box_store (P := Try.prog) j1 (e2 ++ c8) [(Value.int .i64 x119.2.1)] (e6 ++ (i9)) [(Value.int .i64 r118.1)] (by simp) rfl (by intro u hu; rw [List.mem_singleton.1 hu]; rfl)
   have k0 : (e2 ++ c8).length = (((0 + Int.toNat s102.2.1 * 3) + 1) + 0) := by
    simp only [List.length_append, j0, j8]
    try rfl
   rw [k0] at e8
   have e9 : ∀ q ∈ [a3], M q ∨ (d9).heap.size ≤ q := fun q hq => .inl (by rw [List.mem_singleton.1 hq]; exact hO.inM _ e3)
   obtain ⟨k1, b8, k2⟩ := hput123 b7 [a3] (c8 ++ ([(Value.int .i64 r118.1)] ++ e6)) (x119.1, (r118.1, x119.2.2)) (j4 ++ (([] : List Nat) ++ j6)) a5 (fun q hq => .inl (List.mem_singleton.1 hq)) (by simpa using j9) ⟨_, _, _, _, rfl, rfl, (RT.mono _ e5 a5 e9 (fun q hq hq' => e4 (by rw [List.mem_singleton.1 hq] at hq'; simp [hq'])) (fun _ h => .inl h)), ⟨_, _, _, _, rfl, rfl, ⟨rfl, rfl⟩, (RT.mono _ e7 a5 e9 (fun q hq hq' => e4 (by rw [List.mem_singleton.1 hq] at hq'; simp [hq'])) (fun _ h => .inl h))⟩⟩ j3 (fun q hq => .inl hq)
   refine pl_skip (w' := b7) (ys_store rfl rfl (e8 _ _ rfl Sz3)) ?_
   have k3 : ∀ q ∈ [a3], q ∈ i0 := fun q hq => by rw [List.mem_singleton.1 hq]; exact e3
   have hC := hC.st a5 hO k3
   have hO := hO.grow a5 k2 (os_nodup b8) b8.fpl
   refine c_nil ?_
   refine c_sr ?_
   refine pl_val (.int .i64 r118.1) (y_move rfl) ?_
   refine pl_val (.int .i64 (w64 (r118.1 + 1))) (y_add rfl rfl) ?_
   refine pl_val (.int .i64 (w64 (r118.1 + 1))) (y_assign rfl) ?_
   refine c_nil ?_
   refine c_region ?_
   refine pl_val (.slice pa0 pn0 pc0) (y_move rfl) ?_
   refine pl_val (.int .i64 s102.2.1) (y_move rfl) ?_
   obtain ⟨x124, f0, hs⟩ := bind_some hs
   obtain ⟨c9, p4, k4, p5, k5, k6, k7⟩ := os_idx Sl28 Sz56 b8 f0
   have f1 := own_row (Frz.pr (Frz.os Frz.int) (Frz.pr Frz.int (Frz.os (Frz.os Frz.int)))) k6 k7
   refine pl_val (.pointer (some ⟨c9, 0 + Int.toNat s102.2.1 * 3, none⟩)) (k5 _ _ _ _ _ _ _ _ _ rfl rfl) ?_
   obtain ⟨_, k8⟩ := pr_at f1
   refine pl_val (.pointer (some ⟨c9, (0 + Int.toNat s102.2.1 * 3) + 1, none⟩)) (y_faddr rfl Fa56x1) ?_
   obtain ⟨_, p6⟩ := pr_at k8
   refine pl_val (.pointer (some ⟨c9, ((0 + Int.toNat s102.2.1 * 3) + 1) + 1, none⟩)) (y_faddr rfl Fa54x1) ?_
   obtain ⟨p7, hrow128, k9⟩ := at_open f1
   obtain ⟨p8, p9, rfl, l0, l1⟩ := pr_open k9
   obtain ⟨f2, f3, f4, rfl, q0⟩ := rs_rel l0
   obtain ⟨q1, q2, rfl, l2, l3⟩ := pr_open l1
   obtain rfl := int_rel l2
   obtain ⟨a6, a7, a8, rfl, q3⟩ := rs_rel l3
   refine pl_val (.slice a6 a7 a8) (y_load rfl ((part_load (l1 := [(.slice f2 f3 f4), (.int .i64 x124.2.1)]) (c := [(.slice a6 a7 a8)]) (l2 := []) Ag47 Sz47 hrow128 rfl rfl (fun _ => rfl)) _ (Chg.refl _ _))) ?_
   refine pl_val (.int .i64 (w64 (r118.1 + 1))) (y_move rfl) ?_
   obtain ⟨q4, l4, l5, d0, hput131⟩ := os_put k4 b8 f0 hrow128 rfl hO.inM
   obtain ⟨b9, q5, rfl, f5, l6⟩ := pr_split (c := [(.slice f2 f3 f4)]) (d := [(.int .i64 x124.2.1), (.slice a6 a7 a8)]) l4 rfl
   obtain ⟨q6, a2, rfl, l7, l8⟩ := pr_split (c := [(.int .i64 x124.2.1)]) (d := [(.slice a6 a7 a8)]) l6 rfl
   obtain rfl := int_fp l7
   have l9 : (RT.os 41 (RT.os 3 (RT.int .i64))).val M b7 (.slice a6 a7 a8) x124.2.2 a2 := ⟨[_], rfl, l8⟩
   have d1 : ∀ q ∈ (a2 ++ ([])), q ∈ k1 := fun q hq => l5 q (by simp only [List.mem_append, List.not_mem_nil, or_false] at hq; simp [hq])
   have m0 : List.Nodup (a2 ++ ([])) := by simpa using (List.nodup_append.1 (show List.Nodup (b9 ++ a2) by simpa using d0)).2.1
   have m1 := hO
   have f6 := Own.part (X := (a2 ++ ([]))) (m1) d1 m0
   obtain ⟨r132, m2, hs⟩ := bind_some hs
   refine pl_call Bd38 rfl (c_laws_markIntSS (M := M) x124.2.2 (w64 (r118.1 + 1)) l9 f6 f6.fut m2) ?_
   rintro _ m3 ⟨f7, rfl, c0, m4, d2⟩
   obtain ⟨m5, d3, m6⟩ := hput131 m3 (a2 ++ ([])) (x124.1, (x124.2.1, r132.2)) (b9 ++ (([] : List Nat) ++ f7)) c0 (fun q hq => by simp only [List.mem_append, List.not_mem_nil, or_false] at hq; simp [hq]) ⟨_, _, _, _, rfl, rfl, (RT.mono _ f5 c0 (fun q hq => .inl (hO.inM q (d1 q hq))) (fun q hq hq' => (fun A B (hd : (A ++ B).Nodup) (ha : q ∈ A) (hb : q ∈ B) => (List.nodup_append.1 hd).2.2 q ha q hb rfl) b9 a2 (by simpa using d0) hq' (by simpa using hq)) (fun _ h => .inl h)), ⟨_, _, _, _, rfl, rfl, ⟨rfl, rfl⟩, (os_unval m4)⟩⟩ (by simpa using nd_last (X := a2) (X' := f7) (s := (b7).heap.size) (show List.Nodup (b9 ++ a2) by simpa using d0) (by simpa using d2.1) (fun q hq => (d2.2.1 q (by simpa using hq)).2.2.imp (fun h => by simpa using h) id) (fun q hq => RT.fpl _ f5 q hq)) (fun q hq => by simp only [List.mem_append, List.not_mem_nil, or_false, false_or] at hq ⊢; rcases hq with hq | hq <;> first | exact .inl (by simp [hq]) | exact ((fun q hq => (d2.2.1 q (by simpa using hq)).2.2.imp (fun h => by simpa using h) id) q hq).imp (fun h => by simp [h]) id)
   have hC := hC.st c0 hO d1
   have hO := hO.grow c0 m6 (os_nodup d3) d3.fpl
   refine pl_val (.int .i64 r132.1) (y_assign rfl) ?_
   refine c_nil ?_
   refine c_region ?_
   refine pl_val (.int .i64 s102.2.1) (y_move rfl) ?_
   refine pl_val (.int .i64 (w64 (s102.2.1 + 1))) (y_add rfl rfl) ?_
   refine pl_val (.int .i64 (w64 (s102.2.1 + 1))) (y_assign rfl) ?_
   refine c_nil ?_
   cases hs
   exact ⟨_, m5, fr_ovl 36 ⟨rfl, rfl, rfl, trivial⟩, hC, hO, d3⟩
  refine c_condF (congrArg Value.bool c1) ?_
  refine wp_exit ?_
  cases hs
  exact ⟨rfl, _, a4, fr_ovl 36 ⟨rfl, trivial⟩, hC, hO, b0⟩
 ·skip
  exact ⟨_, pf0, fr_ovl 36 ⟨rfl, rfl, rfl, trivial⟩, hC, hO, h0⟩
 cases o106 with
 | nx _ => exact True.intro
 | rt r_ =>
  have hs := after_rt hs
  intro m7 f8 hK
  cases hs
  exact hK
 | br s102 =>
  have hs := after_br hs
  rintro m7 a0 ⟨σ, a9, rfl, hC, hO, m8⟩
  refine c_sr ?_
  refine pl_val (.int .i64 s102.1) (y_move rfl) ?_
  refine pl_val (.int .i64 s102.1) (y_assign rfl) ?_
  refine c_nil ?_
  refine wp_ret ?_
  cases hs
  exact ⟨_, a9, fr_ovl 36 ⟨rfl, trivial⟩, hC, m8, hO.top⟩

theorem Bd84 : Bodied Try.prog 84 := bodied Try.func84 (by kernel_rfl) rfl

def k_laws_markNetwork (M : Nat → Prop) (w0 : World) (qa0 : Option Addr) (qn0 qc0 : Nat) (qf0 : List Nat) (r : Int × (List ((List Int) × (Int × (List (List Int)))))) (a : Act) (w : World) : Prop :=
  ∃ (σ : Nat → Value) (rfi0 : List Nat), a = fr 10 (ovl σ [(4, (.int .i64 r.1))]) ∧ Chg (qf0 ++ ([])) w0 w ∧ (RT.os 56 (RT.pr (RT.os 3 (RT.int .i64)) (RT.pr (RT.int .i64) (RT.os 41 (RT.os 3 (RT.int .i64)))))).val M w (.slice qa0 qn0 qc0) r.2 rfi0 ∧ Own (Nw w0 (qf0 ++ ([]))) (fun _ => True) w (rfi0 ++ ([]))
def s_laws_markNetwork (a_ : Int × Int × (List ((List Int) × (Int × (List (List Int)))))) (k : Int) : Option (Int × (List ((List Int) × (Int × (List (List Int)))))) :=
  (s_laws_markConstraintS a_.2.2 k).bind fun r4 =>
  some (r4.1, r4.2)
set_option maxHeartbeats 4000000 in
theorem c_laws_markNetwork {M : Nat → Prop} {w : World} {pa0 : Option Addr} {pn0 pc0 : Nat} {pf0 : List Nat} (a_ : Int × Int × (List ((List Int) × (Int × (List (List Int)))))) (k : Int) (h0 : (RT.os 56 (RT.pr (RT.os 3 (RT.int .i64)) (RT.pr (RT.int .i64) (RT.os 41 (RT.os 3 (RT.int .i64)))))).val M w (.slice pa0 pn0 pc0) a_.2.2 pf0) (hI : Own (Nw w (pf0 ++ ([]))) M w (pf0 ++ ([]))) (hM : ∀ g, w.heap.size ≤ g → M g) {r : Int × (List ((List Int) × (Int × (List (List Int)))))} (hs : s_laws_markNetwork a_ k = some r) :
    Gives Try.prog 32 [(.agg #[(.int .i64 a_.1), (.int .i64 a_.2.1), (.slice pa0 pn0 pc0)]), (.int .i64 k)] w (fun v w' => ∃ (rfi0 : List Nat), v = (.int .i64 r.1) ∧ Chg (pf0 ++ ([])) w w' ∧ (RT.os 56 (RT.pr (RT.os 3 (RT.int .i64)) (RT.pr (RT.int .i64) (RT.os 41 (RT.os 3 (RT.int .i64)))))).val M w' (.slice pa0 pn0 pc0) r.2 rfi0 ∧ Own (Nw w (pf0 ++ ([]))) (fun _ => True) w' (rfi0 ++ ([]))) := by
 refine calls_fr Try.func32 rfl Try.ntmps32 (Nat.le_of_ble_eq_true rfl) ?_
 have hO := hI
 have hC := Chg.refl (pf0 ++ ([])) w
 unfold s_laws_markNetwork at hs
 refine wp_mono (Q := KPost (k_laws_markNetwork M w pa0 pn0 pc0 pf0 r)) ?_ (fun e a b3 h => ?_)
 rotate_left
 ·cases e
  case ret =>
   obtain ⟨σ, rfi0, rfl, hrest⟩ := h
   exact ret1x Try.results32 (res_tmp rfl) ⟨rfi0, rfl, hrest⟩
  all_goals exact (h : False).elim
 refine c_sr ?_
 obtain ⟨a7, a0, a8, a4, a2, a1⟩ := new_block w [(.int .i64 a_.1), (.int .i64 a_.2.1), (.slice pa0 pn0 pc0)] 30
 refine pl_val (w' := a7) (.pointer (some ⟨a0, 0, none⟩)) (y_box rfl (by rw [a8, a4]; kernel_rfl)) ?_
 have h0 := h0.ext a2
 have hC := hC.ext a2
 have hO := hO.new1 a2 a4 a1.lt
 refine pl_val (.int .i64 0) (y_assign rfl) ?_
 refine c_nil ?_
 refine c_sr ?_
 refine pl_val (.pointer (some ⟨a0, 2, none⟩)) (y_faddr rfl Fa30x2) ?_
 refine pl_val (.slice pa0 pn0 pc0) (y_load rfl ((box_load Ag28 Sz28 a1 [(.int .i64 a_.1), (.int .i64 a_.2.1)] [(.slice pa0 pn0 pc0)] [] rfl rfl (fun _ => rfl)) _ (Chg.refl _ _))) ?_
 refine pl_val (.int .i64 k) (y_move rfl) ?_
 have hO := hO.fr1
 have a9 := hO
 have a5 := Own.lend (F := (pf0 ++ ([]))) (R := ([a0]) ++ ([])) (Own.perm (a9) (by simp))
 obtain ⟨r4, b0, hs⟩ := bind_some hs
 refine pl_call Bd84 rfl (c_laws_markConstraintS (M := M) a_.2.2 k h0 a5 a5.fut b0) ?_
 rintro _ b4 ⟨a6, rfl, a3, b1, b2⟩
 have hO := hO.perm (R := (pf0 ++ ([])) ++ (([a0]) ++ ([]))) (by simp)
 have a1 := a1.ap a3 hO same_ (mem_l (List.mem_singleton.2 rfl))
 have hC := hC.st a3 hO same_
 have hO := Own.join hO a3 b2
 have hO := hO.perm (R := a6 ++ (([a0]) ++ ([]))) (by simp)
 refine pl_val (.int .i64 r4.1) (y_assign rfl) ?_
 refine c_nil ?_
 have hO := hO.fr1
 have hO := hO.drop
 refine c_sr ?_
 refine pl_val (.int .i64 r4.1) (y_move rfl) ?_
 refine pl_val (.int .i64 r4.1) (y_assign rfl) ?_
 refine c_nil ?_
 refine wp_ret ?_
 cases hs
 exact ⟨_, a6, fr_ovl 10 ⟨rfl, trivial⟩, hC, b1, hO.top⟩

def k_laws_heldIntS (M : Nat → Prop) (w0 : World) (r : Int) (a : Act) (w : World) : Prop :=
  ∃ (σ : Nat → Value) , a = fr 21 (ovl σ [(4, (.int .i64 r))]) ∧ Chg [] w0 w
def s_laws_heldIntS (a_ : List Int) (k : Int) : Option (Int) :=
  (forC (S := Int) (R := Int) (fun k7 s5 =>
  (idx a_ k7).bind fun x11 =>
  (bif (x11 != s5) then some (.rt (-1)) else some (.nx (w64 (s5 + 1))))) 0 (a_.length : Int) k).bind fun o9 => after o9 (fun r_ => some r_) (fun s5 =>
  some s5)
set_option maxHeartbeats 4000000 in
theorem c_laws_heldIntS {M : Nat → Prop} {w : World} {pa0 : Option Addr} {pn0 pc0 : Nat} (a_ : List Int) (k : Int) (h0 : (RT.rs (RT.int .i64)).val M w (.slice pa0 pn0 pc0) a_ ([])) (hM : ∀ g, w.heap.size ≤ g → M g) {r : Int} (hs : s_laws_heldIntS a_ k = some r) :
    Gives Try.prog 34 [(.slice pa0 pn0 pc0), (.int .i64 k)] w (fun v w' => v = (.int .i64 r) ∧ Chg [] w w') := by
 refine calls_fr Try.func34 rfl Try.ntmps34 (Nat.le_of_ble_eq_true rfl) ?_
 have hO := Own.start (N := Nw w []) hM Nw.fut
 have hC := Chg.refl [] w
 unfold s_laws_heldIntS at hs
 refine wp_mono (Q := KPost (k_laws_heldIntS M w r)) ?_ (fun e a a2 h => ?_)
 rotate_left
 ·cases e
  case ret =>
   obtain ⟨σ, rfl, hrest⟩ := h
   exact ret1x Try.results34 (res_tmp rfl) ⟨rfl, hrest⟩
  all_goals exact (h : False).elim
 refine c_sr ?_
 refine pl_val (.int .i64 0) (y_assign rfl) ?_
 refine c_nil ?_
 refine c_seq ?_
 refine c_sr ?_
 refine pl_val (.int .i64 0) (y_assign rfl) ?_
 refine c_nil ?_
 obtain ⟨o9, a3, hs⟩ := bind_some hs
 refine wp_block ?_
 refine wp_forC (id := 0) (a_.length : Int) (I := fun k7 s5 a a0 => ∃ (σ : Nat → Value), a = fr 21 (ovl σ [(0, (.slice pa0 pn0 pc0)), (1, (.int .i64 s5)), (5, (.int .i64 k7))]) ∧ Chg [] w a0 ∧ Own (Nw w []) M a0 ([]) ∧ (RT.rs (RT.int .i64)).val M a0 (.slice pa0 pn0 pc0) a_ ([])) (J := fun s5 a a0 => ∃ (σ : Nat → Value), a = fr 21 (ovl σ [(1, (.int .i64 s5))]) ∧ Chg [] w a0 ∧ Own (Nw w []) M a0 ([]) ∧ (RT.rs (RT.int .i64)).val M a0 (.slice pa0 pn0 pc0) a_ ([])) (K := (k_laws_heldIntS M w)) ?_ ?_ 0 k o9 _ _ ?_ a3 ?_
 ·rintro k7 s5 a a0 ⟨σ, rfl, hC, hO, h0⟩ hlt
  refine c_seq ?_
  refine c_sr ?_
  refine pl_val (.int .i64 k7) (y_move rfl) ?_
  refine pl_val (.slice pa0 pn0 pc0) (y_move rfl) ?_
  refine pl_val (.int .i64 (a_.length : Int)) (y_len' Sl41 (rs_len h0) rfl) ?_
  refine pl_val (.bool (decide (k7 < (a_.length : Int)))) (y_lss rfl rfl) ?_
  refine c_nil ?_
  refine c_condF (congrArg Value.bool (decide_eq_false hlt)) ?_
  refine wp_exit ?_
  exact ⟨rfl, _, fr_ovl 21 ⟨rfl, trivial⟩, hC, hO, h0⟩
 ·rintro k7 s5 o9 a a0 ⟨σ, rfl, hC, hO, h0⟩ hlt hw hs
  refine c_seq ?_
  refine c_sr ?_
  refine pl_val (.int .i64 k7) (y_move rfl) ?_
  refine pl_val (.slice pa0 pn0 pc0) (y_move rfl) ?_
  refine pl_val (.int .i64 (a_.length : Int)) (y_len' Sl41 (rs_len h0) rfl) ?_
  refine pl_val (.bool (decide (k7 < (a_.length : Int)))) (y_lss rfl rfl) ?_
  refine c_nil ?_
  refine c_condT (congrArg Value.bool (decide_eq_true hlt)) ?_
  refine wp_skip ?_
  refine c_seq ?_
  refine wp_block ?_
  refine c_seq ?_
  refine c_sr ?_
  refine pl_val (.slice pa0 pn0 pc0) (y_move rfl) ?_
  refine pl_val (.int .i64 k7) (y_move rfl) ?_
  obtain ⟨x11, a4, hs⟩ := bind_some hs
  obtain ⟨a5, a6, a7, a8⟩ := rs_idx Sl41 Sz3 h0 a4
  refine pl_val (.pointer (some ⟨a5, a6, none⟩)) (a7 _ _ _ _ _ _ _ _ _ rfl rfl) ?_
  refine pl_val (.int .i64 x11) (y_load rfl ((at_load_int Ag3 Sz3 a8) _ (Chg.refl _ _))) ?_
  refine pl_val (.int .i64 s5) (y_move rfl) ?_
  refine pl_val (.bool (x11 != s5)) (y_neq rfl rfl) ?_
  refine c_nil ?_
  rcases bif_some hs with ⟨a1, hs⟩ | ⟨a1, hs⟩
  ·refine c_condT (congrArg Value.bool a1) ?_
   refine c_sr ?_
   refine pl_val (.int .i64 (-1)) (y_assign rfl) ?_
   refine c_nil ?_
   refine wp_ret ?_
   cases hs
   exact ⟨_, fr_ovl 21 ⟨rfl, trivial⟩, hC⟩
  refine c_condF (congrArg Value.bool a1) ?_
  refine wp_skip ?_
  refine c_region ?_
  refine pl_val (.int .i64 s5) (y_move rfl) ?_
  refine pl_val (.int .i64 (w64 (s5 + 1))) (y_add rfl rfl) ?_
  refine pl_val (.int .i64 (w64 (s5 + 1))) (y_assign rfl) ?_
  refine c_nil ?_
  refine c_region ?_
  refine pl_val (.int .i64 k7) (y_move rfl) ?_
  refine pl_val (.int .i64 (w64 (k7 + 1))) (y_add rfl rfl) ?_
  refine pl_val (.int .i64 (w64 (k7 + 1))) (y_assign rfl) ?_
  refine c_nil ?_
  cases hs
  exact ⟨_, fr_ovl 21 ⟨rfl, rfl, congrArg (Value.int .i64) hw, trivial⟩, hC, hO, h0⟩
 ·skip
  exact ⟨_, fr_ovl 21 ⟨rfl, rfl, rfl, trivial⟩, hC, hO, h0⟩
 cases o9 with
 | nx _ => exact True.intro
 | rt r_ =>
  have hs := after_rt hs
  intro a9 a2 hK
  cases hs
  exact hK
 | br s5 =>
  have hs := after_br hs
  rintro a9 a0 ⟨σ, rfl, hC, hO, h0⟩
  refine c_sr ?_
  refine pl_val (.int .i64 s5) (y_move rfl) ?_
  refine pl_val (.int .i64 s5) (y_assign rfl) ?_
  refine c_nil ?_
  refine wp_ret ?_
  cases hs
  exact ⟨_, fr_ovl 21 ⟨rfl, trivial⟩, hC⟩

theorem Ag24 : AggT Try.prog 24 true := fun _ => by kernel_rfl

theorem Sz24 : SzT Try.prog 24 3 := ⟨_, rfl, rfl⟩

theorem Bd11 : Bodied Try.prog 11 := bodied Try.func11 (by kernel_rfl) rfl

theorem Bd13 : Bodied Try.prog 13 := bodied Try.func13 (by kernel_rfl) rfl

theorem Bd30 : Bodied Try.prog 30 := bodied Try.func30 (by kernel_rfl) rfl

theorem Bd31 : Bodied Try.prog 31 := bodied Try.func31 (by kernel_rfl) rfl

theorem Bd15 : Bodied Try.prog 15 := bodied Try.func15 (by kernel_rfl) rfl

theorem Bd32 : Bodied Try.prog 32 := bodied Try.func32 (by kernel_rfl) rfl

theorem Bd34 : Bodied Try.prog 34 := bodied Try.func34 (by kernel_rfl) rfl

def k_laws_FnExactFirstSolution (M : Nat → Prop) (w0 : World) (r : Bool) (a : Act) (w : World) : Prop :=
  ∃ (σ : Nat → Value) , a = fr 117 (ovl σ [(4, (.bool r))]) ∧ Chg [] w0 w
def s_laws_FnExactFirstSolution (aNet : Int × Int × (List ((List Int) × (Int × (List (List Int)))))) (aPartial : List Int) : Option (Bool) :=
  (bif (decide (1048576 < (aPartial.length : Int))) then some true else (s_laws_szNetwork (aNet.1, aNet.2.1, aNet.2.2) 1048576).bind fun r6 =>
  (bif (decide (r6 < 0)) then some true else (s_laws_toNetwork (aNet.1, aNet.2.1, aNet.2.2)).bind fun r9 =>
  (s_laws_toIntS aPartial).bind fun r12 =>
  (s_spec_FirstSolution (r9.1, r9.2.1, r9.2.2) r12).bind fun r17 =>
  (s_laws_toNetwork (aNet.1, aNet.2.1, aNet.2.2)).bind fun r20 =>
  (s_laws_toIntS aPartial).bind fun r25 =>
  (s_impl_FirstSolution (r20.1, r20.2.1, r20.2.2) r25).bind fun r28 =>
  ((s_laws_eqIntS r28.1 r17.1).bind fun r34 =>
  (bif (!r34) then some true else some (!(r28.2 == r17.2)))).bind fun s30 =>
  (bif s30 then some false else (s_laws_toNetwork (aNet.1, aNet.2.1, aNet.2.2)).bind fun r45 =>
  (s_laws_eqNetwork (r20.1, r20.2.1, r20.2.2) (r45.1, r45.2.1, r45.2.2)).bind fun r48 =>
  (bif (!r48) then some false else (s_laws_toIntS aPartial).bind fun r51 =>
  (s_laws_eqIntS r25 r51).bind fun r54 =>
  (bif (!r54) then some false else (s_laws_markNetwork (r20.1, r20.2.1, r20.2.2) 1).bind fun r57 =>
  (s_laws_markIntS r25 r57.1).bind fun r59 =>
  ((bif (decide (r59.1 < 0)) then some true else (s_laws_eqIntS r28.1 r17.1).bind fun r66 =>
  (bif (!r66) then some true else some (!(r28.2 == r17.2))))).bind fun s60 =>
  (bif s60 then some false else (s_laws_markIntS r28.1 1).bind fun r70 =>
  (s_laws_heldIntS r70.2 1).bind fun r72 =>
  (bif (decide (r72 < 0)) then some false else (bif (r72 != r70.1) then some false else (s_laws_toNetwork (aNet.1, aNet.2.1, aNet.2.2)).bind fun r76 =>
  (s_laws_toIntS aPartial).bind fun r79 =>
  (s_impl_FirstSolution (r76.1, r76.2.1, r76.2.2) r79).bind fun r82 =>
  ((s_laws_eqIntS r82.1 r17.1).bind fun r88 =>
  (bif (!r88) then some true else some (!(r82.2 == r17.2)))).bind fun s84 =>
  (bif s84 then some false else (s_laws_heldIntS r70.2 1).bind fun r92 =>
  (bif (decide (r92 < 0)) then some false else (bif (r92 != r70.1) then some false else some true)))))))))))
set_option maxHeartbeats 4000000 in
theorem c_laws_FnExactFirstSolution {M : Nat → Prop} {w : World} {pa0 : Option Addr} {pn0 pc0 : Nat} {pa1 : Option Addr} {pn1 pc1 : Nat} (aNet : Int × Int × (List ((List Int) × (Int × (List (List Int)))))) (aPartial : List Int) (h0 : (RT.rs (RT.pr (RT.rs (RT.int .i64)) (RT.pr (RT.int .i64) (RT.rs (RT.rs (RT.int .i64)))))).val M w (.slice pa0 pn0 pc0) aNet.2.2 ([])) (h1 : (RT.rs (RT.int .i64)).val M w (.slice pa1 pn1 pc1) aPartial ([])) (hM : ∀ g, w.heap.size ≤ g → M g) {r : Bool} (hs : s_laws_FnExactFirstSolution aNet aPartial = some r) :
    Gives Try.prog 7 [(.agg #[(.int .i64 aNet.1), (.int .i64 aNet.2.1), (.slice pa0 pn0 pc0)]), (.slice pa1 pn1 pc1)] w (fun v w' => v = (.bool r) ∧ Chg [] w w') := by
 refine calls_fr Try.func7 rfl Try.ntmps7 (Nat.le_of_ble_eq_true rfl) ?_
 have hO := Own.start (N := Nw w []) hM Nw.fut
 have hC := Chg.refl [] w
 unfold s_laws_FnExactFirstSolution at hs
 refine wp_mono (Q := KPost (k_laws_FnExactFirstSolution M w r)) ?_ (fun e a q6 h => ?_)
 rotate_left
 ·cases e
  case ret =>
   obtain ⟨σ, rfl, hrest⟩ := h
   exact ret1x Try.results7 (res_tmp rfl) ⟨rfl, hrest⟩
  all_goals exact (h : False).elim
 refine c_sr ?_
 obtain ⟨l1, a8, l2, j4, g3, a0⟩ := new_block w [(.int .i64 aNet.1), (.int .i64 aNet.2.1), (.slice pa0 pn0 pc0)] 24
 refine pl_val (w' := l1) (.pointer (some ⟨a8, 0, none⟩)) (y_box rfl (by rw [l2, j4]; kernel_rfl)) ?_
 have h0 := h0.ext g3
 have h1 := h1.ext g3
 have hC := hC.ext g3
 have hO := hO.new1 g3 j4 a0.lt
 refine pl_val (.bool false) (y_assign rfl) ?_
 refine c_nil ?_
 refine c_seq ?_
 refine c_sr ?_
 refine pl_val (.slice pa1 pn1 pc1) (y_move rfl) ?_
 refine pl_val (.int .i64 (aPartial.length : Int)) (y_len' Sl41 (rs_len h1) rfl) ?_
 refine pl_val (.bool (decide (1048576 < (aPartial.length : Int)))) (y_gtr rfl rfl) ?_
 refine c_nil ?_
 rcases bif_some hs with ⟨h3, hs⟩ | ⟨h3, hs⟩
 ·refine c_condT (congrArg Value.bool h3) ?_
  refine c_sr ?_
  refine pl_val (.bool true) (y_assign rfl) ?_
  refine c_nil ?_
  refine wp_ret ?_
  cases hs
  exact ⟨_, fr_ovl 117 ⟨rfl, trivial⟩, hC⟩
 refine c_condF (congrArg Value.bool h3) ?_
 refine wp_skip ?_
 refine c_sr ?_
 refine pl_val (.int .i64 1048576) (y_assign rfl) ?_
 refine c_nil ?_
 refine c_sr ?_
 refine pl_val (.agg #[(.int .i64 aNet.1), (.int .i64 aNet.2.1), (.slice pa0 pn0 pc0)]) (y_load rfl ((box_load Ag24 Sz24 a0 [] [(.int .i64 aNet.1), (.int .i64 aNet.2.1), (.slice pa0 pn0 pc0)] [] rfl rfl (fun h => nomatch h)) _ (Chg.refl _ _))) ?_
 refine pl_val (.int .i64 1048576) (y_move rfl) ?_
 obtain ⟨r6, l3, hs⟩ := bind_some hs
 refine pl_call Bd11 rfl (c_laws_szNetwork (M := M) (aNet.1, aNet.2.1, aNet.2.2) 1048576 h0 hO.fut l3) ?_
 rintro _ q7 ⟨rfl, f6⟩
 have h0 := h0.ext f6
 have h1 := h1.ext f6
 have a0 := a0.cn f6
 have hC := hC.ext f6
 have hO := hO.ext f6
 refine pl_val (.int .i64 r6) (y_assign rfl) ?_
 refine c_nil ?_
 refine c_seq ?_
 refine c_sr ?_
 refine pl_val (.int .i64 r6) (y_move rfl) ?_
 refine pl_val (.bool (decide (r6 < 0))) (y_lss rfl rfl) ?_
 refine c_nil ?_
 rcases bif_some hs with ⟨h4, hs⟩ | ⟨h4, hs⟩
 ·refine c_condT (congrArg Value.bool h4) ?_
  refine c_sr ?_
  refine pl_val (.bool true) (y_assign rfl) ?_
  refine c_nil ?_
  refine wp_ret ?_
  cases hs
  exact ⟨_, fr_ovl 117 ⟨rfl, trivial⟩, hC⟩
 refine c_condF (congrArg Value.bool h4) ?_
 refine wp_skip ?_
 refine c_sr ?_
 refine pl_val (.agg #[(.int .i64 aNet.1), (.int .i64 aNet.2.1), (.slice pa0 pn0 pc0)]) (y_load rfl ((box_load Ag24 Sz24 a0 [] [(.int .i64 aNet.1), (.int .i64 aNet.2.1), (.slice pa0 pn0 pc0)] [] rfl rfl (fun h => nomatch h)) _ (Chg.refl _ _))) ?_
 obtain ⟨r9, l4, hs⟩ := bind_some hs
 refine pl_call Bd13 rfl (c_laws_toNetwork (M := M) (aNet.1, aNet.2.1, aNet.2.2) h0 hO.fut l4) ?_
 rintro _ q8 ⟨q9, r0, r1, j5, rfl, f7, h5, l5⟩
 have h0 := h0.ext f7
 have h1 := h1.ext f7
 have a0 := a0.cn f7
 have hC := hC.ext f7
 have hO := Own.join0 hO f7 l5
 have hO := hO.perm (R := j5 ++ (([a8]) ++ ([]))) (by simp)
 refine pl_val (.slice pa1 pn1 pc1) (y_move rfl) ?_
 obtain ⟨r12, l6, hs⟩ := bind_some hs
 refine pl_call Bd22 rfl (c_laws_toIntS (M := M) aPartial h1 hO.fut l6) ?_
 rintro _ a4 ⟨r2, r3, r4, l7, rfl, f1, h6, l8⟩
 have h0 := h0.ext f1
 have h1 := h1.ext f1
 have a0 := a0.cn f1
 have h5 := h5.ext f1
 have hC := hC.ext f1
 have hO := Own.join0 hO f1 l8
 have hO := hO.perm (R := l7 ++ (j5 ++ (([a8]) ++ ([])))) (by simp)
 have hO := hO.fr1
 obtain ⟨h7, r5, h8, l9, hO, e2⟩ := frz_own (Frz.os (Frz.pr (Frz.os Frz.int) (Frz.pr Frz.int (Frz.os (Frz.os Frz.int))))) h5 hO
 have h0 := h0.sub (M' := h7) h8
 have h1 := h1.sub (M' := h7) h8
 have h6 := h6.sub (M' := h7) h8
 have hK := l9
 obtain ⟨a2, r7, h9, m0, hO, f8⟩ := frz_own (Frz.os Frz.int) h6 hO
 have h0 := h0.sub (M' := a2) h9
 have h1 := h1.sub (M' := a2) h9
 have e2 := e2.sub (M' := a2) h9
 have hK := hK.trans m0
 obtain ⟨r17, m1, hs⟩ := bind_some hs
 refine pl_call Bd30 rfl (c_spec_FirstSolution (M := a2) (r9.1, r9.2.1, r9.2.2) r12 e2 f8 hO.fut m1) ?_
 rintro _ a5 ⟨d2, d3, d4, rfl, e3, a1⟩
 have hK := hK.trans (show Keeps w a2 (Past a2 a4 a5) from Keeps.past hC.size)
 have h0 := h0.ext e3
 have h1 := h1.ext e3
 have a0 := a0.cn e3
 have e2 := e2.ext e3
 have f8 := f8.ext e3
 have hC := hC.ext e3
 have hO := hO.past e3
 have h0 := h0.sub (M' := (Past a2 a4 a5)) (fun g hg => .inl hg.1)
 have h1 := h1.sub (M' := (Past a2 a4 a5)) (fun g hg => .inl hg.1)
 have e2 := e2.sub (M' := (Past a2 a4 a5)) (fun g hg => .inl hg.1)
 have f8 := f8.sub (M' := (Past a2 a4 a5)) (fun g hg => .inl hg.1)
 refine pl_val (.tuple #[(.slice d2 d3 d4), (.bool r17.2)]) (y_move rfl) ?_
 refine pl_val (.slice d2 d3 d4) (y_extract rfl (by kernel_rfl)) ?_
 refine pl_val (.bool r17.2) (y_extract rfl (by kernel_rfl)) ?_
 refine pl_val (.slice d2 d3 d4) (y_assign rfl) ?_
 refine pl_val (.bool r17.2) (y_assign rfl) ?_
 refine c_nil ?_
 refine c_sr ?_
 refine pl_val (.agg #[(.int .i64 aNet.1), (.int .i64 aNet.2.1), (.slice pa0 pn0 pc0)]) (y_load rfl ((box_load Ag24 Sz24 a0 [] [(.int .i64 aNet.1), (.int .i64 aNet.2.1), (.slice pa0 pn0 pc0)] [] rfl rfl (fun h => nomatch h)) _ (Chg.refl _ _))) ?_
 obtain ⟨r20, m2, hs⟩ := bind_some hs
 refine pl_call Bd13 rfl (c_laws_toNetwork (M := (Past a2 a4 a5)) (aNet.1, aNet.2.1, aNet.2.2) h0 hO.fut m2) ?_
 rintro _ m3 ⟨d5, d6, d7, c5, rfl, f2, a6, m4⟩
 have h0 := h0.ext f2
 have h1 := h1.ext f2
 have a0 := a0.cn f2
 have a1 := a1.ext f2
 have hC := hC.ext f2
 have hO := Own.join0 hO f2 m4
 have hO := hO.perm (R := c5 ++ (([a8]) ++ ([]))) (by simp)
 obtain ⟨m5, c3, m6, j6, e4, j7⟩ := new_block m3 [(.int .i64 0), (.int .i64 0), (.slice none 0 0)] 30
 refine pl_val (w' := m5) (.pointer (some ⟨c3, 0, none⟩)) (y_alloc (by rw [m6, j6]; kernel_rfl)) ?_
 have h0 := h0.ext e4
 have h1 := h1.ext e4
 have a0 := a0.cn e4
 have a1 := a1.ext e4
 have a6 := a6.ext e4
 have hC := hC.ext e4
 have hO := hO.new1 e4 j6 j7.lt
 obtain ⟨j8, m7, e5, a7⟩ := box_store (P := Try.prog) j7 [] [(.int .i64 0), (.int .i64 0), (.slice none 0 0)] [] [(.int .i64 r20.1), (.int .i64 r20.2.1), (.slice d5 d6 d7)] rfl rfl (by intro u hu; simp only [List.mem_cons, List.not_mem_nil, or_false] at hu; rcases hu with rfl | rfl | rfl <;> rfl)
 refine pl_skip (w' := j8) (ys_store rfl rfl (m7 _ _ rfl Sz30)) ?_
 have h0 := h0.mt e5 hO same_
 have h1 := h1.mt e5 hO same_
 have a0 := a0.ap e5 hO same_ (mem_r (mem_l (List.mem_singleton.2 rfl)))
 have a1 := a1.mt e5 hO same_
 have a6 := a6.ma e5 hO same_ (fun _ e => (mem_l (e)))
 have hC := hC.st e5 hO same_
 have hO := hO.ext e5
 have a7 : BoxV j8 c3 30 [(.int .i64 r20.1), (.int .i64 r20.2.1), (.slice d5 d6 d7)] := a7
 refine c_nil ?_
 refine c_sr ?_
 refine pl_val (.slice pa1 pn1 pc1) (y_move rfl) ?_
 obtain ⟨r25, m8, hs⟩ := bind_some hs
 refine pl_call Bd22 rfl (c_laws_toIntS (M := (Past a2 a4 a5)) aPartial h1 hO.fut m8) ?_
 rintro _ r8 ⟨f9, g0, g1, b5, rfl, d8, a9, m9⟩
 have h0 := h0.ext d8
 have h1 := h1.ext d8
 have a0 := a0.cn d8
 have a1 := a1.ext d8
 have a6 := a6.ext d8
 have a7 := a7.cn d8
 have hC := hC.ext d8
 have hO := Own.join0 hO d8 m9
 have hO := hO.perm (R := b5 ++ (([c3]) ++ (c5 ++ (([a8]) ++ ([]))))) (by simp)
 refine pl_val (.slice f9 g0 g1) (y_assign rfl) ?_
 refine c_nil ?_
 refine c_sr ?_
 refine pl_val (.agg #[(.int .i64 r20.1), (.int .i64 r20.2.1), (.slice d5 d6 d7)]) (y_load rfl ((box_load Ag30 Sz30 a7 [] [(.int .i64 r20.1), (.int .i64 r20.2.1), (.slice d5 d6 d7)] [] rfl rfl (fun h => nomatch h)) _ (Chg.refl _ _))) ?_
 refine pl_val (.slice f9 g0 g1) (y_move rfl) ?_
 have hO := hO.fr2
 obtain ⟨r28, n0, hs⟩ := bind_some hs
 refine pl_call Bd31 rfl (c_impl_FirstSolution (M := (Less (Less (Past a2 a4 a5) c5) b5)) (r20.1, r20.2.1, r20.2.2) r25 ((((Frz.os (Frz.pr (Frz.os Frz.int) (Frz.pr Frz.int (Frz.os (Frz.os Frz.int)))))).val a6 Less.sub Less.not).sub Less.sub) (((Frz.os Frz.int)).val (a9.sub Less.sub) Less.sub Less.not) (hO.less).less.fut n0) ?_
 rintro _ j9 ⟨b6, b7, b8, b2, rfl, c6, a3, n1⟩
 have h0 := h0.ext c6
 have h1 := h1.ext c6
 have a0 := a0.cn c6
 have a1 := a1.ext c6
 have a6 := a6.ext c6
 have a7 := a7.cn c6
 have a9 := a9.ext c6
 have hC := hC.ext c6
 have hO := Own.join0 hO c6 n1
 have hO := hO.perm (R := b2 ++ (c5 ++ (b5 ++ (([c3]) ++ (([a8]) ++ ([])))))) (by simp)
 have a3 := a3.free (M' := (Past a2 a4 a5)) (Free.os Free.int)
 refine pl_val (.tuple #[(.slice b6 b7 b8), (.bool r28.2)]) (y_move rfl) ?_
 refine pl_val (.slice b6 b7 b8) (y_extract rfl (by kernel_rfl)) ?_
 refine pl_val (.bool r28.2) (y_extract rfl (by kernel_rfl)) ?_
 refine pl_val (.slice b6 b7 b8) (y_assign rfl) ?_
 refine pl_val (.bool r28.2) (y_assign rfl) ?_
 refine c_nil ?_
 refine c_seq ?_
 refine c_seq ?_
 obtain ⟨s30, n2, hs⟩ := bind_some hs
 refine c_mid (I := fun a g4 => ∃ (σ : Nat → Value), a = fr 117 (ovl σ [(1, (.slice pa1 pn1 pc1)), (2, (.pointer (some ⟨a8, 0, none⟩))), (4, (.bool false)), (6, (.slice d2 d3 d4)), (7, (.bool r17.2)), (8, (.pointer (some ⟨c3, 0, none⟩))), (9, (.slice f9 g0 g1)), (10, (.slice b6 b7 b8)), (11, (.bool r28.2)), (51, (.bool s30))]) ∧ Chg [] j9 g4) ?_ ?_
 ·replace hs := n2
  have hMid := Chg.refl [] j9
  refine c_region ?_
  refine pl_val (.slice b6 b7 b8) (y_move rfl) ?_
  refine pl_val (.slice d2 d3 d4) (y_move rfl) ?_
  obtain ⟨r34, n3, hs⟩ := bind_some hs
  refine pl_call Bd24 rfl (c_laws_eqIntS (M := (Less (Past a2 a4 a5) b2)) r28.1 r17.1 (((Frz.os Frz.int)).val a3 Less.sub Less.not) (a1.sub Less.sub) hO.less.fut n3) ?_
  rintro _ s0 ⟨rfl, b9⟩
  have h0 := h0.ext b9
  have h1 := h1.ext b9
  have a0 := a0.cn b9
  have a1 := a1.ext b9
  have a6 := a6.ext b9
  have a7 := a7.cn b9
  have a9 := a9.ext b9
  have a3 := a3.ext b9
  have hMid := hMid.ext b9
  have hC := hC.ext b9
  have hO := hO.ext b9
  refine pl_val (.bool (!r34)) (y_not rfl) ?_
  refine pl_val (.bool (!r34)) (y_move rfl) ?_
  rcases bif_some hs with ⟨c7, hs⟩ | ⟨c7, hs⟩
  ·skip
   refine pl_not (tg := 47) (by kernel_rfl) (congrArg Value.bool c7) ?_
   refine pl_not (tg := 47) (by kernel_rfl) (congrArg Value.bool c7) ?_
   refine pl_not (tg := 47) (by kernel_rfl) (congrArg Value.bool c7) ?_
   refine pl_val (.bool true) (y_pick_t (congrArg Value.bool c7) rfl) ?_
   refine c_nil ?_
   cases hs
   exact ⟨_, fr_ovl 117 ⟨rfl, rfl, rfl, rfl, rfl, rfl, rfl, rfl, rfl, rfl, trivial⟩, hMid⟩
  refine pl_yes (.bool r28.2) (tg := 47) (by kernel_rfl) (congrArg Value.bool c7) (y_move rfl) ?_
  refine pl_yes (.bool r17.2) (tg := 47) (by kernel_rfl) (congrArg Value.bool c7) (y_move rfl) ?_
  refine pl_yes (.bool (!(r28.2 == r17.2))) (tg := 47) (by kernel_rfl) (congrArg Value.bool c7) (y_bneq Try.underlying4 rfl rfl) ?_
  refine pl_val (.bool (!(r28.2 == r17.2))) (y_pick_f (congrArg Value.bool c7) rfl) ?_
  refine c_nil ?_
  cases hs
  exact ⟨_, fr_ovl 117 ⟨rfl, rfl, rfl, rfl, rfl, rfl, rfl, rfl, rfl, rfl, trivial⟩, hMid⟩
 rintro k0 g4 ⟨σ, rfl, c4⟩
 have h0 := h0.ext c4
 have h1 := h1.ext c4
 have a0 := a0.cn c4
 have a1 := a1.ext c4
 have a6 := a6.ext c4
 have a7 := a7.cn c4
 have a9 := a9.ext c4
 have a3 := a3.ext c4
 have hC := hC.ext c4
 have hO := hO.ext c4
 rcases bif_some hs with ⟨i0, hs⟩ | ⟨i0, hs⟩
 ·refine c_condT (congrArg Value.bool i0) ?_
  refine c_sr ?_
  refine pl_val (.bool false) (y_assign rfl) ?_
  refine c_nil ?_
  refine wp_ret ?_
  cases hs
  exact ⟨_, fr_ovl 117 ⟨rfl, trivial⟩, hC⟩
 refine c_condF (congrArg Value.bool i0) ?_
 refine wp_skip ?_
 refine c_seq ?_
 refine c_seq ?_
 refine x_start [] Mx rfl ?_
 have c0 := Chg.drew g4
 generalize World.drew g4 = n4 at c0 ⊢
 have h0 := h0.ext c0
 have h1 := h1.ext c0
 have a0 := a0.cn c0
 have a1 := a1.ext c0
 have a6 := a6.ext c0
 have a7 := a7.cn c0
 have a9 := a9.ext c0
 have a3 := a3.ext c0
 have hC := hC.ext c0
 have hO := hO.ext c0
 have hS := Chg.refl [] n4
 refine x_l 0 (.agg #[(.int .i64 r20.1), (.int .i64 r20.2.1), (.slice d5 d6 d7)]) rfl (by kernel_rfl)  (fun w' hw' => y_load rfl ((box_load Ag30 Sz30 a7 [] [(.int .i64 r20.1), (.int .i64 r20.2.1), (.slice d5 d6 d7)] [] rfl rfl (fun h => nomatch h)) w' hw')) hS ?_
 refine x_l 1 (.agg #[(.int .i64 aNet.1), (.int .i64 aNet.2.1), (.slice pa0 pn0 pc0)]) rfl (by kernel_rfl)  (fun w' hw' => y_load rfl ((box_load Ag24 Sz24 a0 [] [(.int .i64 aNet.1), (.int .i64 aNet.2.1), (.slice pa0 pn0 pc0)] [] rfl rfl (fun h => nomatch h)) w' hw')) hS ?_
 refine x_one (i := 2) (by kernel_rfl) ?_
 obtain ⟨r45, n5, hs⟩ := bind_some hs
 refine xk_call (b := false) rfl  Bd13 rfl (c_laws_toNetwork (M := (Past a2 a4 a5)) (aNet.1, aNet.2.1, aNet.2.2) h0 hO.fut n5) rfl (by rintro _ _ _ ⟨n6, n7, n8, g5, rfl, b3, d9, k1⟩; exact hS.ext b3) ?_
 rintro _ s1 ⟨n6, n7, n8, g5, rfl, b3, d9, k1⟩
 have h0 := h0.ext b3
 have h1 := h1.ext b3
 have a0 := a0.cn b3
 have a1 := a1.ext b3
 have a6 := a6.ext b3
 have a7 := a7.cn b3
 have a9 := a9.ext b3
 have a3 := a3.ext b3
 have hC := hC.ext b3
 have hO := Own.join0 hO b3 k1
 have hO := hO.perm (R := g5 ++ (b2 ++ (c5 ++ (b5 ++ (([c3]) ++ (([a8]) ++ ([]))))))) (by simp)
 have hS := hS.ext b3
 refine x_one (i := 3) (by kernel_rfl) ?_
 have hO := hO.fr2
 obtain ⟨r48, n9, hs⟩ := bind_some hs
 refine xk_call (b := false) rfl  Bd15 rfl (c_laws_eqNetwork (M := (Less (Less (Past a2 a4 a5) c5) g5)) (r20.1, r20.2.1, r20.2.2) (r45.1, r45.2.1, r45.2.2) ((((Frz.os (Frz.pr (Frz.os Frz.int) (Frz.pr Frz.int (Frz.os (Frz.os Frz.int)))))).val a6 Less.sub Less.not).sub Less.sub) (((Frz.os (Frz.pr (Frz.os Frz.int) (Frz.pr Frz.int (Frz.os (Frz.os Frz.int)))))).val (d9.sub Less.sub) Less.sub Less.not) (hO.less).less.fut n9) rfl (by rintro _ _ _ ⟨rfl, b1⟩; exact hS.ext b1) ?_
 rintro _ s2 ⟨rfl, b1⟩
 have h0 := h0.ext b1
 have h1 := h1.ext b1
 have a0 := a0.cn b1
 have a1 := a1.ext b1
 have a6 := a6.ext b1
 have a7 := a7.cn b1
 have a9 := a9.ext b1
 have a3 := a3.ext b1
 have d9 := d9.ext b1
 have hC := hC.ext b1
 have hO := hO.ext b1
 have hS := hS.ext b1
 refine x_p 4 (.bool (!r48)) rfl (by kernel_rfl)  (fun _ => y_not rfl) (fun _ => hS) ?_
 refine x_end (by kernel_rfl) ?_
 clear hS
 rcases bif_some hs with ⟨i1, hs⟩ | ⟨i1, hs⟩
 ·refine c_condT (congrArg Value.bool i1) ?_
  refine c_sr ?_
  refine pl_val (.bool false) (y_assign rfl) ?_
  refine c_nil ?_
  have hO := hO.fr1
  have hO := hO.drop
  refine wp_ret ?_
  cases hs
  exact ⟨_, fr_ovl 117 ⟨rfl, trivial⟩, hC⟩
 refine c_condF (congrArg Value.bool i1) ?_
 refine wp_skip ?_
 refine c_seq ?_
 refine c_sr ?_
 refine pl_val (.slice f9 g0 g1) (y_move rfl) ?_
 refine pl_val (.slice pa1 pn1 pc1) (y_move rfl) ?_
 obtain ⟨r51, o0, hs⟩ := bind_some hs
 refine pl_call Bd22 rfl (c_laws_toIntS (M := (Past a2 a4 a5)) aPartial h1 hO.fut o0) ?_
 rintro _ s3 ⟨s4, s5, s6, k2, rfl, c1, i2, o1⟩
 have h0 := h0.ext c1
 have h1 := h1.ext c1
 have a0 := a0.cn c1
 have a1 := a1.ext c1
 have a6 := a6.ext c1
 have a7 := a7.cn c1
 have a9 := a9.ext c1
 have a3 := a3.ext c1
 have d9 := d9.ext c1
 have hC := hC.ext c1
 have hO := Own.join0 hO c1 o1
 have hO := hO.perm (R := k2 ++ (c5 ++ (g5 ++ (b2 ++ (b5 ++ (([c3]) ++ (([a8]) ++ ([])))))))) (by simp)
 have hO := hO.fr4
 obtain ⟨r54, o2, hs⟩ := bind_some hs
 refine pl_call Bd24 rfl (c_laws_eqIntS (M := (Less (Less (Past a2 a4 a5) b5) k2)) r25 r51 ((((Frz.os Frz.int)).val a9 Less.sub Less.not).sub Less.sub) (((Frz.os Frz.int)).val (i2.sub Less.sub) Less.sub Less.not) (hO.less).less.fut o2) ?_
 rintro _ s7 ⟨rfl, b4⟩
 have h0 := h0.ext b4
 have h1 := h1.ext b4
 have a0 := a0.cn b4
 have a1 := a1.ext b4
 have a6 := a6.ext b4
 have a7 := a7.cn b4
 have a9 := a9.ext b4
 have a3 := a3.ext b4
 have d9 := d9.ext b4
 have i2 := i2.ext b4
 have hC := hC.ext b4
 have hO := hO.ext b4
 refine pl_val (.bool (!r54)) (y_not rfl) ?_
 refine c_nil ?_
 have hO := hO.fr1
 have hO := hO.drop
 have hO := hO.fr2
 have hO := hO.drop
 rcases bif_some hs with ⟨i3, hs⟩ | ⟨i3, hs⟩
 ·refine c_condT (congrArg Value.bool i3) ?_
  refine c_sr ?_
  refine pl_val (.bool false) (y_assign rfl) ?_
  refine c_nil ?_
  refine wp_ret ?_
  cases hs
  exact ⟨_, fr_ovl 117 ⟨rfl, trivial⟩, hC⟩
 refine c_condF (congrArg Value.bool i3) ?_
 refine wp_skip ?_
 refine c_sr ?_
 refine pl_val (.int .i64 1) (y_assign rfl) ?_
 refine c_nil ?_
 refine c_sr ?_
 refine pl_val (.agg #[(.int .i64 r20.1), (.int .i64 r20.2.1), (.slice d5 d6 d7)]) (y_load rfl ((box_load Ag30 Sz30 a7 [] [(.int .i64 r20.1), (.int .i64 r20.2.1), (.slice d5 d6 d7)] [] rfl rfl (fun h => nomatch h)) _ (Chg.refl _ _))) ?_
 refine pl_val (.int .i64 1) (y_move rfl) ?_
 have hO := hO.fr1
 have o3 := hO
 have k3 := Own.lend (F := (c5 ++ ([]))) (R := b5 ++ (b2 ++ (([c3]) ++ (([a8]) ++ ([]))))) (Own.perm (o3) (by simp))
 obtain ⟨r57, o4, hs⟩ := bind_some hs
 refine pl_call Bd32 rfl (c_laws_markNetwork (M := (Past a2 a4 a5)) (r20.1, r20.2.1, r20.2.2) 1 a6 k3 k3.fut o4) ?_
 rintro _ s8 ⟨o5, rfl, c8, s9, o6⟩
 have hO := hO.perm (R := (c5 ++ ([])) ++ (b5 ++ (b2 ++ (([c3]) ++ (([a8]) ++ ([])))))) (by simp)
 have h0 := h0.mt c8 hO same_
 have h1 := h1.mt c8 hO same_
 have a0 := a0.ap c8 hO same_ (mem_r (mem_r (mem_r (mem_l (List.mem_singleton.2 rfl)))))
 have a1 := a1.mt c8 hO same_
 have a7 := a7.ap c8 hO same_ (mem_r (mem_r (mem_l (List.mem_singleton.2 rfl))))
 have a9 := a9.ma c8 hO same_ (fun _ e => (mem_l (e)))
 have a3 := a3.ma c8 hO same_ (fun _ e => (mem_r (mem_l (e))))
 have hC := hC.st c8 hO same_
 have hO := Own.join hO c8 o6
 have hO := hO.perm (R := o5 ++ (b5 ++ (b2 ++ (([c3]) ++ (([a8]) ++ ([])))))) (by simp)
 refine pl_val (.int .i64 r57.1) (y_assign rfl) ?_
 refine c_nil ?_
 have hO := hO.drop
 have hO := hO.fr2
 have hO := hO.drop
 refine c_sr ?_
 refine pl_val (.slice f9 g0 g1) (y_move rfl) ?_
 refine pl_val (.int .i64 r57.1) (y_move rfl) ?_
 have o7 := hO
 have k4 := Own.lend (F := (b5 ++ ([]))) (R := b2 ++ (([a8]) ++ ([]))) (Own.perm (o7) (by simp))
 obtain ⟨r59, o8, hs⟩ := bind_some hs
 refine pl_call Bd33 rfl (c_laws_markIntS (M := (Past a2 a4 a5)) r25 r57.1 a9 k4 k4.fut o8) ?_
 rintro _ k5 ⟨o9, rfl, e6, t0, p0⟩
 have hO := hO.perm (R := (b5 ++ ([])) ++ (b2 ++ (([a8]) ++ ([])))) (by simp)
 have h0 := h0.mt e6 hO same_
 have h1 := h1.mt e6 hO same_
 have a0 := a0.ap e6 hO same_ (mem_r (mem_l (List.mem_singleton.2 rfl)))
 have a1 := a1.mt e6 hO same_
 have a3 := a3.ma e6 hO same_ (fun _ e => (mem_l (e)))
 have hC := hC.st e6 hO same_
 have hO := Own.join hO e6 p0
 have hO := hO.perm (R := o9 ++ (b2 ++ (([a8]) ++ ([])))) (by simp)
 refine pl_val (.int .i64 r59.1) (y_assign rfl) ?_
 refine c_nil ?_
 have hO := hO.drop
 refine c_seq ?_
 refine c_seq ?_
 obtain ⟨s60, p1, hs⟩ := bind_some hs
 refine c_mid (I := fun a k6 => ∃ (σ : Nat → Value), a = fr 117 (ovl σ [(1, (.slice pa1 pn1 pc1)), (2, (.pointer (some ⟨a8, 0, none⟩))), (4, (.bool false)), (6, (.slice d2 d3 d4)), (7, (.bool r17.2)), (10, (.slice b6 b7 b8)), (80, (.bool s60))]) ∧ Chg [] k5 k6) ?_ ?_
 ·replace hs := p1
  have hMid := Chg.refl [] k5
  refine c_region ?_
  refine pl_val (.int .i64 r59.1) (y_move rfl) ?_
  refine pl_val (.bool (decide (r59.1 < 0))) (y_lss rfl rfl) ?_
  refine pl_val (.bool (decide (r59.1 < 0))) (y_move rfl) ?_
  rcases bif_some hs with ⟨c2, hs⟩ | ⟨c2, hs⟩
  ·skip
   refine pl_not (tg := 70) (by kernel_rfl) (congrArg Value.bool c2) ?_
   refine pl_not (tg := 70) (by kernel_rfl) (congrArg Value.bool c2) ?_
   refine pl_not (tg := 70) (by kernel_rfl) (congrArg Value.bool c2) ?_
   refine pl_not (tg := 70) (by kernel_rfl) (congrArg Value.bool c2) ?_
   refine pl_val (.bool true) (y_pick_t (congrArg Value.bool c2) rfl) ?_
   refine pl_val (.bool true) (y_move rfl) ?_
   refine pl_not (tg := 76) (by kernel_rfl) (by rfl) ?_
   refine pl_not (tg := 76) (by kernel_rfl) (by rfl) ?_
   refine pl_not (tg := 76) (by kernel_rfl) (by rfl) ?_
   refine pl_val (.bool true) (y_pick_t (by rfl) rfl) ?_
   refine c_nil ?_
   cases hs
   exact ⟨_, fr_ovl 117 ⟨rfl, rfl, rfl, rfl, rfl, rfl, rfl, trivial⟩, hMid⟩
  refine pl_yes (.slice b6 b7 b8) (tg := 70) (by kernel_rfl) (congrArg Value.bool c2) (y_move rfl) ?_
  refine pl_yes (.slice d2 d3 d4) (tg := 70) (by kernel_rfl) (congrArg Value.bool c2) (y_move rfl) ?_
  obtain ⟨r66, p2, hs⟩ := bind_some hs
  refine pl_cally (tg := 70) (by kernel_rfl) (congrArg Value.bool c2) Bd24 rfl (c_laws_eqIntS (M := (Less (Past a2 a4 a5) b2)) r28.1 r17.1 (((Frz.os Frz.int)).val a3 Less.sub Less.not) (a1.sub Less.sub) hO.less.fut p2) ?_
  rintro _ t1 ⟨rfl, e0⟩
  have h0 := h0.ext e0
  have h1 := h1.ext e0
  have a0 := a0.cn e0
  have a1 := a1.ext e0
  have a3 := a3.ext e0
  have hMid := hMid.ext e0
  have hC := hC.ext e0
  have hO := hO.ext e0
  refine pl_yes (.bool (!r66)) (tg := 70) (by kernel_rfl) (congrArg Value.bool c2) (y_not rfl) ?_
  refine pl_val (.bool (!r66)) (y_pick_f (congrArg Value.bool c2) rfl) ?_
  refine pl_val (.bool (!r66)) (y_move rfl) ?_
  rcases bif_some hs with ⟨c9, hs⟩ | ⟨c9, hs⟩
  ·skip
   refine pl_not (tg := 76) (by kernel_rfl) (congrArg Value.bool c9) ?_
   refine pl_not (tg := 76) (by kernel_rfl) (congrArg Value.bool c9) ?_
   refine pl_not (tg := 76) (by kernel_rfl) (congrArg Value.bool c9) ?_
   refine pl_val (.bool true) (y_pick_t (congrArg Value.bool c9) rfl) ?_
   refine c_nil ?_
   cases hs
   exact ⟨_, fr_ovl 117 ⟨rfl, rfl, rfl, rfl, rfl, rfl, rfl, trivial⟩, hMid⟩
  refine pl_yes (.bool r28.2) (tg := 76) (by kernel_rfl) (congrArg Value.bool c9) (y_move rfl) ?_
  refine pl_yes (.bool r17.2) (tg := 76) (by kernel_rfl) (congrArg Value.bool c9) (y_move rfl) ?_
  refine pl_yes (.bool (!(r28.2 == r17.2))) (tg := 76) (by kernel_rfl) (congrArg Value.bool c9) (y_bneq Try.underlying4 rfl rfl) ?_
  refine pl_val (.bool (!(r28.2 == r17.2))) (y_pick_f (congrArg Value.bool c9) rfl) ?_
  refine c_nil ?_
  cases hs
  exact ⟨_, fr_ovl 117 ⟨rfl, rfl, rfl, rfl, rfl, rfl, rfl, trivial⟩, hMid⟩
 rintro k0 k6 ⟨σ, rfl, e7⟩
 have h0 := h0.ext e7
 have h1 := h1.ext e7
 have a0 := a0.cn e7
 have a1 := a1.ext e7
 have a3 := a3.ext e7
 have hC := hC.ext e7
 have hO := hO.ext e7
 rcases bif_some hs with ⟨i4, hs⟩ | ⟨i4, hs⟩
 ·refine c_condT (congrArg Value.bool i4) ?_
  refine c_sr ?_
  refine pl_val (.bool false) (y_assign rfl) ?_
  refine c_nil ?_
  refine wp_ret ?_
  cases hs
  exact ⟨_, fr_ovl 117 ⟨rfl, trivial⟩, hC⟩
 refine c_condF (congrArg Value.bool i4) ?_
 refine wp_skip ?_
 refine c_sr ?_
 refine pl_val (.int .i64 1) (y_assign rfl) ?_
 refine c_nil ?_
 refine c_sr ?_
 refine pl_val (.slice b6 b7 b8) (y_move rfl) ?_
 refine pl_val (.int .i64 1) (y_move rfl) ?_
 have p3 := hO
 have k7 := Own.lend (F := (b2 ++ ([]))) (R := ([a8]) ++ ([])) (Own.perm (p3) (by simp))
 obtain ⟨r70, p4, hs⟩ := bind_some hs
 refine pl_call Bd33 rfl (c_laws_markIntS (M := (Past a2 a4 a5)) r28.1 1 a3 k7 k7.fut p4) ?_
 rintro _ t2 ⟨f3, rfl, f4, b0, p5⟩
 have hO := hO.perm (R := (b2 ++ ([])) ++ (([a8]) ++ ([]))) (by simp)
 have h0 := h0.mt f4 hO same_
 have h1 := h1.mt f4 hO same_
 have a0 := a0.ap f4 hO same_ (mem_l (List.mem_singleton.2 rfl))
 have a1 := a1.mt f4 hO same_
 have hC := hC.st f4 hO same_
 have hO := Own.join hO f4 p5
 have hO := hO.perm (R := f3 ++ (([a8]) ++ ([]))) (by simp)
 refine pl_val (.int .i64 r70.1) (y_assign rfl) ?_
 refine c_nil ?_
 refine c_sr ?_
 refine pl_val (.int .i64 1) (y_assign rfl) ?_
 refine c_nil ?_
 refine c_sr ?_
 refine pl_val (.slice b6 b7 b8) (y_move rfl) ?_
 refine pl_val (.int .i64 1) (y_move rfl) ?_
 obtain ⟨r72, p6, hs⟩ := bind_some hs
 refine pl_call Bd34 rfl (c_laws_heldIntS (M := (Less (Past a2 a4 a5) f3)) r70.2 1 (((Frz.os Frz.int)).val b0 Less.sub Less.not) hO.less.fut p6) ?_
 rintro _ t3 ⟨rfl, e8⟩
 have h0 := h0.ext e8
 have h1 := h1.ext e8
 have a0 := a0.cn e8
 have a1 := a1.ext e8
 have b0 := b0.ext e8
 have hC := hC.ext e8
 have hO := hO.ext e8
 refine pl_val (.int .i64 r72) (y_assign rfl) ?_
 refine c_nil ?_
 refine c_seq ?_
 refine c_sr ?_
 refine pl_val (.int .i64 r72) (y_move rfl) ?_
 refine pl_val (.bool (decide (r72 < 0))) (y_lss rfl rfl) ?_
 refine c_nil ?_
 rcases bif_some hs with ⟨i5, hs⟩ | ⟨i5, hs⟩
 ·refine c_condT (congrArg Value.bool i5) ?_
  refine c_sr ?_
  refine pl_val (.bool false) (y_assign rfl) ?_
  refine c_nil ?_
  refine wp_ret ?_
  cases hs
  exact ⟨_, fr_ovl 117 ⟨rfl, trivial⟩, hC⟩
 refine c_condF (congrArg Value.bool i5) ?_
 refine wp_skip ?_
 refine c_seq ?_
 refine c_sr ?_
 refine pl_val (.int .i64 r72) (y_move rfl) ?_
 refine pl_val (.int .i64 r70.1) (y_move rfl) ?_
 refine pl_val (.bool (r72 != r70.1)) (y_neq rfl rfl) ?_
 refine c_nil ?_
 rcases bif_some hs with ⟨i6, hs⟩ | ⟨i6, hs⟩
 ·refine c_condT (congrArg Value.bool i6) ?_
  refine c_sr ?_
  refine pl_val (.bool false) (y_assign rfl) ?_
  refine c_nil ?_
  refine wp_ret ?_
  cases hs
  exact ⟨_, fr_ovl 117 ⟨rfl, trivial⟩, hC⟩
 refine c_condF (congrArg Value.bool i6) ?_
 refine wp_skip ?_
 refine c_sr ?_
 refine pl_val (.agg #[(.int .i64 aNet.1), (.int .i64 aNet.2.1), (.slice pa0 pn0 pc0)]) (y_load rfl ((box_load Ag24 Sz24 a0 [] [(.int .i64 aNet.1), (.int .i64 aNet.2.1), (.slice pa0 pn0 pc0)] [] rfl rfl (fun h => nomatch h)) _ (Chg.refl _ _))) ?_
 obtain ⟨r76, p7, hs⟩ := bind_some hs
 refine pl_call Bd13 rfl (c_laws_toNetwork (M := (Past a2 a4 a5)) (aNet.1, aNet.2.1, aNet.2.2) h0 hO.fut p7) ?_
 rintro _ t4 ⟨t5, t6, t7, g6, rfl, e9, g2, p8⟩
 have h0 := h0.ext e9
 have h1 := h1.ext e9
 have a0 := a0.cn e9
 have a1 := a1.ext e9
 have b0 := b0.ext e9
 have hC := hC.ext e9
 have hO := Own.join0 hO e9 p8
 have hO := hO.perm (R := g6 ++ (f3 ++ (([a8]) ++ ([])))) (by simp)
 refine pl_val (.slice pa1 pn1 pc1) (y_move rfl) ?_
 obtain ⟨r79, p9, hs⟩ := bind_some hs
 refine pl_call Bd22 rfl (c_laws_toIntS (M := (Past a2 a4 a5)) aPartial h1 hO.fut p9) ?_
 rintro _ t8 ⟨t9, u0, u1, i7, rfl, e1, i9, q0⟩
 have h0 := h0.ext e1
 have h1 := h1.ext e1
 have a0 := a0.cn e1
 have a1 := a1.ext e1
 have b0 := b0.ext e1
 have g2 := g2.ext e1
 have hC := hC.ext e1
 have hO := Own.join0 hO e1 q0
 have hO := hO.perm (R := i7 ++ (g6 ++ (f3 ++ (([a8]) ++ ([]))))) (by simp)
 have hO := hO.fr1
 obtain ⟨r82, q1, hs⟩ := bind_some hs
 refine pl_call Bd31 rfl (c_impl_FirstSolution (M := (Less (Less (Past a2 a4 a5) g6) i7)) (r76.1, r76.2.1, r76.2.2) r79 ((((Frz.os (Frz.pr (Frz.os Frz.int) (Frz.pr Frz.int (Frz.os (Frz.os Frz.int)))))).val g2 Less.sub Less.not).sub Less.sub) (((Frz.os Frz.int)).val (i9.sub Less.sub) Less.sub Less.not) (hO.less).less.fut q1) ?_
 rintro _ k8 ⟨g7, g8, g9, k9, rfl, d0, f0, q2⟩
 have h0 := h0.ext d0
 have h1 := h1.ext d0
 have a0 := a0.cn d0
 have a1 := a1.ext d0
 have b0 := b0.ext d0
 have g2 := g2.ext d0
 have i9 := i9.ext d0
 have hC := hC.ext d0
 have hO := Own.join0 hO d0 q2
 have hO := hO.perm (R := k9 ++ (g6 ++ (i7 ++ (f3 ++ (([a8]) ++ ([])))))) (by simp)
 have f0 := f0.free (M' := (Past a2 a4 a5)) (Free.os Free.int)
 refine pl_val (.tuple #[(.slice g7 g8 g9), (.bool r82.2)]) (y_move rfl) ?_
 refine pl_val (.slice g7 g8 g9) (y_extract rfl (by kernel_rfl)) ?_
 refine pl_val (.bool r82.2) (y_extract rfl (by kernel_rfl)) ?_
 refine pl_val (.slice g7 g8 g9) (y_assign rfl) ?_
 refine pl_val (.bool r82.2) (y_assign rfl) ?_
 refine c_nil ?_
 have hO := hO.fr1
 have hO := hO.drop
 have hO := hO.fr1
 have hO := hO.drop
 have hO := hO.fr2
 have hO := hO.drop
 refine c_seq ?_
 refine c_seq ?_
 obtain ⟨s84, q3, hs⟩ := bind_some hs
 refine c_mid (I := fun a l0 => ∃ (σ : Nat → Value), a = fr 117 (ovl σ [(4, (.bool false)), (10, (.slice b6 b7 b8)), (13, (.int .i64 r70.1)), (14, (.int .i64 r72)), (108, (.bool s84))]) ∧ Chg [] k8 l0) ?_ ?_
 ·replace hs := q3
  have hMid := Chg.refl [] k8
  refine c_region ?_
  refine pl_val (.slice g7 g8 g9) (y_move rfl) ?_
  refine pl_val (.slice d2 d3 d4) (y_move rfl) ?_
  obtain ⟨r88, q4, hs⟩ := bind_some hs
  refine pl_call Bd24 rfl (c_laws_eqIntS (M := (Less (Past a2 a4 a5) k9)) r82.1 r17.1 (((Frz.os Frz.int)).val f0 Less.sub Less.not) (a1.sub Less.sub) hO.less.fut q4) ?_
  rintro _ u2 ⟨rfl, f5⟩
  have a1 := a1.ext f5
  have b0 := b0.ext f5
  have f0 := f0.ext f5
  have hMid := hMid.ext f5
  have hC := hC.ext f5
  have hO := hO.ext f5
  refine pl_val (.bool (!r88)) (y_not rfl) ?_
  refine pl_val (.bool (!r88)) (y_move rfl) ?_
  rcases bif_some hs with ⟨d1, hs⟩ | ⟨d1, hs⟩
  ·skip
   refine pl_not (tg := 104) (by kernel_rfl) (congrArg Value.bool d1) ?_
   refine pl_not (tg := 104) (by kernel_rfl) (congrArg Value.bool d1) ?_
   refine pl_not (tg := 104) (by kernel_rfl) (congrArg Value.bool d1) ?_
   refine pl_val (.bool true) (y_pick_t (congrArg Value.bool d1) rfl) ?_
   refine c_nil ?_
   have hO := hO.drop
   cases hs
   exact ⟨_, fr_ovl 117 ⟨rfl, rfl, rfl, rfl, rfl, trivial⟩, hMid⟩
  refine pl_yes (.bool r82.2) (tg := 104) (by kernel_rfl) (congrArg Value.bool d1) (y_move rfl) ?_
  refine pl_yes (.bool r17.2) (tg := 104) (by kernel_rfl) (congrArg Value.bool d1) (y_move rfl) ?_
  refine pl_yes (.bool (!(r82.2 == r17.2))) (tg := 104) (by kernel_rfl) (congrArg Value.bool d1) (y_bneq Try.underlying4 rfl rfl) ?_
  refine pl_val (.bool (!(r82.2 == r17.2))) (y_pick_f (congrArg Value.bool d1) rfl) ?_
  refine c_nil ?_
  have hO := hO.drop
  cases hs
  exact ⟨_, fr_ovl 117 ⟨rfl, rfl, rfl, rfl, rfl, trivial⟩, hMid⟩
 rintro k0 l0 ⟨σ, rfl, h2⟩
 have b0 := b0.ext h2
 have f0 := f0.ext h2
 have hC := hC.ext h2
 have hO := hO.ext h2
 rcases bif_some hs with ⟨j0, hs⟩ | ⟨j0, hs⟩
 ·refine c_condT (congrArg Value.bool j0) ?_
  refine c_sr ?_
  refine pl_val (.bool false) (y_assign rfl) ?_
  refine c_nil ?_
  have hO := hO.drop
  refine wp_ret ?_
  cases hs
  exact ⟨_, fr_ovl 117 ⟨rfl, trivial⟩, hC⟩
 refine c_condF (congrArg Value.bool j0) ?_
 refine wp_skip ?_
 refine c_sr ?_
 refine pl_val (.int .i64 1) (y_assign rfl) ?_
 refine c_nil ?_
 have hO := hO.drop
 refine c_sr ?_
 refine pl_val (.slice b6 b7 b8) (y_move rfl) ?_
 refine pl_val (.int .i64 1) (y_move rfl) ?_
 obtain ⟨r92, q5, hs⟩ := bind_some hs
 refine pl_call Bd34 rfl (c_laws_heldIntS (M := (Less (Past a2 a4 a5) f3)) r70.2 1 (((Frz.os Frz.int)).val b0 Less.sub Less.not) hO.less.fut q5) ?_
 rintro _ u3 ⟨rfl, j1⟩
 have b0 := b0.ext j1
 have hC := hC.ext j1
 have hO := hO.ext j1
 refine pl_val (.int .i64 r92) (y_assign rfl) ?_
 refine c_nil ?_
 have hO := hO.drop
 refine c_seq ?_
 refine c_sr ?_
 refine pl_val (.int .i64 r92) (y_move rfl) ?_
 refine pl_val (.bool (decide (r92 < 0))) (y_lss rfl rfl) ?_
 refine c_nil ?_
 rcases bif_some hs with ⟨j2, hs⟩ | ⟨j2, hs⟩
 ·refine c_condT (congrArg Value.bool j2) ?_
  refine c_sr ?_
  refine pl_val (.bool false) (y_assign rfl) ?_
  refine c_nil ?_
  refine wp_ret ?_
  cases hs
  exact ⟨_, fr_ovl 117 ⟨rfl, trivial⟩, hC⟩
 refine c_condF (congrArg Value.bool j2) ?_
 refine wp_skip ?_
 refine c_seq ?_
 refine c_sr ?_
 refine pl_val (.int .i64 r92) (y_move rfl) ?_
 refine pl_val (.int .i64 r70.1) (y_move rfl) ?_
 refine pl_val (.bool (r92 != r70.1)) (y_neq rfl rfl) ?_
 refine c_nil ?_
 rcases bif_some hs with ⟨j3, hs⟩ | ⟨j3, hs⟩
 ·refine c_condT (congrArg Value.bool j3) ?_
  refine c_sr ?_
  refine pl_val (.bool false) (y_assign rfl) ?_
  refine c_nil ?_
  refine wp_ret ?_
  cases hs
  exact ⟨_, fr_ovl 117 ⟨rfl, trivial⟩, hC⟩
 refine c_condF (congrArg Value.bool j3) ?_
 refine wp_skip ?_
 refine c_sr ?_
 refine pl_val (.bool true) (y_assign rfl) ?_
 refine c_nil ?_
 refine wp_ret ?_
 cases hs
 exact ⟨_, fr_ovl 117 ⟨rfl, trivial⟩, hC⟩

end Go.Proofs
