/- What functions of the program compute, as plain functions, and that a call gives just that. Conditions: those named in each theorem. -/
import Derived.Test.YtmghggenjagioaaF4
set_option linter.unusedVariables false
namespace Go.Proofs
open Go.G Go.RowKit
set_option maxRecDepth 100000

def k_laws_markOpS (M : Nat → Prop) (w0 : World) (qa0 : Option Addr) (qn0 qc0 : Nat) (qf0 : List Nat) (r : Int × (List (Int × (List Int)))) (a : Act) (w : World) : Prop :=
  ∃ (σ : Nat → Value) (rfi0 : List Nat), a = fr 27 (ovl σ [(4, (.int .i64 r.1))]) ∧ Chg (qf0 ++ ([])) w0 w ∧ (RT.os 64 (RT.pr (RT.int .i64) (RT.os 3 (RT.int .i64)))).val M w (.slice qa0 qn0 qc0) r.2 rfi0 ∧ Own (Nw w0 (qf0 ++ ([]))) (fun _ => True) w (rfi0 ++ ([]))
def s_laws_markOpS (a_ : List (Int × (List Int))) (k : Int) : Option (Int × (List (Int × (List Int)))) :=
  (iter (S := Int × Int × (List (Int × (List Int)))) (R := Int × (List (Int × (List Int)))) (fun s57 =>
  (bif (decide (s57.2.1 < (s57.2.2.length : Int))) then (idx s57.2.2 s57.2.1).bind fun x67 =>
  (idx (List.set s57.2.2 (Int.toNat s57.2.1) (s57.1, x67.2)) s57.2.1).bind fun x71 =>
  (s_laws_markIntS x71.2 (w64 (s57.1 + 1))).bind fun r77 =>
  some (.nx (r77.1, w64 (s57.2.1 + 1), List.set (List.set s57.2.2 (Int.toNat s57.2.1) (s57.1, x67.2)) (Int.toNat s57.2.1) (x71.1, r77.2))) else some (.br (s57.1, s57.2.1, s57.2.2)))) FU (k, 0, a_)).bind fun o61 => after o61 (fun r_ => some r_) (fun s57 =>
  some (s57.1, s57.2.2))
set_option maxHeartbeats 4000000 in
theorem c_laws_markOpS {M : Nat → Prop} {w : World} {pa0 : Option Addr} {pn0 pc0 : Nat} {pf0 : List Nat} (a_ : List (Int × (List Int))) (k : Int) (h0 : (RT.os 64 (RT.pr (RT.int .i64) (RT.os 3 (RT.int .i64)))).val M w (.slice pa0 pn0 pc0) a_ pf0) (hI : Own (Nw w (pf0 ++ ([]))) M w (pf0 ++ ([]))) (hM : ∀ g, w.heap.size ≤ g → M g) {r : Int × (List (Int × (List Int)))} (hs : s_laws_markOpS a_ k = some r) :
    Gives Try.prog 18 [(.slice pa0 pn0 pc0), (.int .i64 k)] w (fun v w' => ∃ (rfi0 : List Nat), v = (.int .i64 r.1) ∧ Chg (pf0 ++ ([])) w w' ∧ (RT.os 64 (RT.pr (RT.int .i64) (RT.os 3 (RT.int .i64)))).val M w' (.slice pa0 pn0 pc0) r.2 rfi0 ∧ Own (Nw w (pf0 ++ ([]))) (fun _ => True) w' (rfi0 ++ ([]))) := by
 refine calls_fr Try.func18 rfl Try.ntmps18 (Nat.le_of_ble_eq_true rfl) ?_
 have hO := hI
 have hC := Chg.refl (pf0 ++ ([])) w
 unfold s_laws_markOpS at hs
 refine wp_mono (Q := KPost (k_laws_markOpS M w pa0 pn0 pc0 pf0 r)) ?_ (fun e a c7 h => ?_)
 rotate_left
 ·cases e
  case ret =>
   obtain ⟨σ, rfi0, rfl, hrest⟩ := h
   exact ret1x Try.results18 (res_tmp rfl) ⟨rfi0, rfl, hrest⟩
  all_goals exact (h : False).elim
 refine c_sr ?_
 refine pl_val (.int .i64 0) (y_assign rfl) ?_
 refine c_nil ?_
 refine c_seq ?_
 refine c_sr ?_
 refine pl_val (.int .i64 0) (y_assign rfl) ?_
 refine c_nil ?_
 obtain ⟨o61, c8, hs⟩ := bind_some hs
 refine wp_block ?_
 refine wp_iter (id := 0) (I := fun s57 a a0 => ∃ (σ : Nat → Value) (a1 : List Nat), a = fr 27 (ovl σ [(0, (.slice pa0 pn0 pc0)), (1, (.int .i64 s57.1)), (5, (.int .i64 s57.2.1))]) ∧ Chg (pf0 ++ ([])) w a0 ∧ Own (Nw w (pf0 ++ ([]))) M a0 (a1 ++ []) ∧ (RT.os 64 (RT.pr (RT.int .i64) (RT.os 3 (RT.int .i64)))).val M a0 (.slice pa0 pn0 pc0) s57.2.2 a1) (J := fun s57 a a0 => ∃ (σ : Nat → Value) (a4 : List Nat), a = fr 27 (ovl σ [(1, (.int .i64 s57.1))]) ∧ Chg (pf0 ++ ([])) w a0 ∧ Own (Nw w (pf0 ++ ([]))) M a0 (a4 ++ []) ∧ (RT.os 64 (RT.pr (RT.int .i64) (RT.os 3 (RT.int .i64)))).val M a0 (.slice pa0 pn0 pc0) s57.2.2 a4) (K := (k_laws_markOpS M w pa0 pn0 pc0 pf0)) ?_ FU (k, 0, a_) o61 _ _ ?_ c8 ?_
 ·rintro s57 o61 a a0 ⟨σ, a1, rfl, hC, hO, a5⟩ hs
  refine c_seq ?_
  refine c_sr ?_
  refine pl_val (.int .i64 s57.2.1) (y_move rfl) ?_
  refine pl_val (.slice pa0 pn0 pc0) (y_move rfl) ?_
  refine pl_val (.int .i64 (s57.2.2.length : Int)) (y_len' Sl26 (os_len a5) rfl) ?_
  refine pl_val (.bool (decide (s57.2.1 < (s57.2.2.length : Int)))) (y_lss rfl rfl) ?_
  refine c_nil ?_
  rcases bif_some hs with ⟨b1, hs⟩ | ⟨b1, hs⟩
  ·refine c_condT (congrArg Value.bool b1) ?_
   refine wp_skip ?_
   refine c_seq ?_
   refine wp_block ?_
   refine c_sr ?_
   refine pl_val (.slice pa0 pn0 pc0) (y_move rfl) ?_
   refine pl_val (.int .i64 s57.2.1) (y_move rfl) ?_
   refine pl_val (.int .i64 s57.1) (y_move rfl) ?_
   obtain ⟨x67, b5, hs⟩ := bind_some hs
   obtain ⟨a2, h2, c9, h3, d0, d1, d2⟩ := os_idx Sl26 Sz64 a5 b5
   have d3 := own_row (Frz.pr Frz.int (Frz.os Frz.int)) d1 d2
   refine pl_val (.pointer (some ⟨a2, 0 + Int.toNat s57.2.1 * 2, none⟩)) (d0 _ _ _ _ _ _ _ _ _ rfl rfl) ?_
   obtain ⟨h4, _⟩ := pr_at d3
   refine pl_val (.pointer (some ⟨a2, (0 + Int.toNat s57.2.1 * 2) + 0, none⟩)) (y_faddr rfl Fa64x0) ?_
   obtain ⟨b6, h5, d4, h6, d5, h7, d6, d7, h8, d8, b7, d9, hput70⟩ := os_focus c9 a5 b5 hO.inM
   obtain ⟨h9, b8, i0, e0, rfl, rfl, e1, b9⟩ := d7
   obtain ⟨rfl, rfl⟩ := e1
   have i1 := RT.len _ b9
   obtain ⟨b2, c0, a6, e2⟩ := box_store (P := Try.prog) d6 (b6) [(Value.int .i64 x67.1)] (b8 ++ (d4)) [(Value.int .i64 s57.1)] (by simp) rfl (by intro u hu; rw [List.mem_singleton.1 hu]; rfl)
   have e3 : (b6).length = ((0 + Int.toNat s57.2.1 * 2) + 0) := by
    simp only [List.length_append, d5]
    try rfl
   rw [e3] at c0
   have e4 : ∀ q ∈ [a2], M q ∨ (a0).heap.size ≤ q := fun q hq => .inl (by rw [List.mem_singleton.1 hq]; exact hO.inM _ b7)
   obtain ⟨e5, a7, e6⟩ := hput70 b2 [a2] ([(Value.int .i64 s57.1)] ++ b8) (s57.1, x67.2) (([] : List Nat) ++ e0) a6 (fun q hq => .inl (List.mem_singleton.1 hq)) (by simpa using e2) ⟨_, _, _, _, rfl, rfl, ⟨rfl, rfl⟩, (RT.mono _ b9 a6 e4 (fun q hq hq' => d9 (by rw [List.mem_singleton.1 hq] at hq'; simp [hq'])) (fun _ h => .inl h))⟩ d8 (fun q hq => .inl hq)
   refine pl_skip (w' := b2) (ys_store rfl rfl (c0 _ _ rfl Sz3)) ?_
   have e7 : ∀ q ∈ [a2], q ∈ a1 := fun q hq => by rw [List.mem_singleton.1 hq]; exact b7
   have hC := hC.st a6 hO e7
   have hO := hO.grow a6 e6 (os_nodup a7) a7.fpl
   refine c_nil ?_
   refine c_sr ?_
   refine pl_val (.int .i64 s57.1) (y_move rfl) ?_
   refine pl_val (.int .i64 (w64 (s57.1 + 1))) (y_add rfl rfl) ?_
   refine pl_val (.int .i64 (w64 (s57.1 + 1))) (y_assign rfl) ?_
   refine c_nil ?_
   refine c_region ?_
   refine pl_val (.slice pa0 pn0 pc0) (y_move rfl) ?_
   refine pl_val (.int .i64 s57.2.1) (y_move rfl) ?_
   obtain ⟨x71, c1, hs⟩ := bind_some hs
   obtain ⟨c2, i2, e8, i3, e9, f0, f1⟩ := os_idx Sl26 Sz64 a7 c1
   have c3 := own_row (Frz.pr Frz.int (Frz.os Frz.int)) f0 f1
   refine pl_val (.pointer (some ⟨c2, 0 + Int.toNat s57.2.1 * 2, none⟩)) (e9 _ _ _ _ _ _ _ _ _ rfl rfl) ?_
   obtain ⟨_, i4⟩ := pr_at c3
   refine pl_val (.pointer (some ⟨c2, (0 + Int.toNat s57.2.1 * 2) + 1, none⟩)) (y_faddr rfl Fa64x1) ?_
   obtain ⟨i5, hrow74, f2⟩ := at_open c3
   obtain ⟨i6, i7, rfl, f3, f4⟩ := pr_open f2
   obtain rfl := int_rel f3
   obtain ⟨a8, a9, b0, rfl, i9⟩ := rs_rel f4
   refine pl_val (.slice a8 a9 b0) (y_load rfl ((part_load (l1 := [(.int .i64 x71.1)]) (c := [(.slice a8 a9 b0)]) (l2 := []) Ag37 Sz37 hrow74 rfl rfl (fun _ => rfl)) _ (Chg.refl _ _))) ?_
   refine pl_val (.int .i64 (w64 (s57.1 + 1))) (y_move rfl) ?_
   obtain ⟨j0, f5, f6, f7, hput76⟩ := os_put e8 a7 c1 hrow74 rfl hO.inM
   obtain ⟨j1, a3, rfl, f8, f9⟩ := pr_split (c := [(.int .i64 x71.1)]) (d := [(.slice a8 a9 b0)]) f5 rfl
   obtain rfl := int_fp f8
   have g0 : (RT.os 3 (RT.int .i64)).val M b2 (.slice a8 a9 b0) x71.2 a3 := ⟨[_], rfl, f9⟩
   have c4 : ∀ q ∈ (a3 ++ ([])), q ∈ e5 := fun q hq => f6 q (by simpa using hq)
   have g1 : List.Nodup (a3 ++ ([])) := by simpa using f7
   have g2 := hO
   have c5 := Own.part (X := (a3 ++ ([]))) (g2) c4 g1
   obtain ⟨r77, g3, hs⟩ := bind_some hs
   refine pl_call Bd48 rfl (c_laws_markIntS (M := M) x71.2 (w64 (s57.1 + 1)) g0 c5 c5.fut g3) ?_
   rintro _ g4 ⟨g5, rfl, b3, g6, c6⟩
   obtain ⟨g7, b4, g8⟩ := hput76 g4 (a3 ++ ([])) (x71.1, r77.2) (([] : List Nat) ++ g5) b3 (fun q hq => by simpa using hq) ⟨_, _, _, _, rfl, rfl, ⟨rfl, rfl⟩, (os_unval g6)⟩ (by simpa using c6.1) (fun q hq => (c6.2.1 q (by simpa using hq)).2.2.imp (fun h => by simpa using h) id)
   have hC := hC.st b3 hO c4
   have hO := hO.grow b3 g8 (os_nodup b4) b4.fpl
   refine pl_val (.int .i64 r77.1) (y_assign rfl) ?_
   refine c_nil ?_
   refine c_region ?_
   refine pl_val (.int .i64 s57.2.1) (y_move rfl) ?_
   refine pl_val (.int .i64 (w64 (s57.2.1 + 1))) (y_add rfl rfl) ?_
   refine pl_val (.int .i64 (w64 (s57.2.1 + 1))) (y_assign rfl) ?_
   refine c_nil ?_
   cases hs
   exact ⟨_, g7, fr_ovl 27 ⟨rfl, rfl, rfl, trivial⟩, hC, hO, b4⟩
  refine c_condF (congrArg Value.bool b1) ?_
  refine wp_exit ?_
  cases hs
  exact ⟨rfl, _, a1, fr_ovl 27 ⟨rfl, trivial⟩, hC, hO, a5⟩
 ·skip
  exact ⟨_, pf0, fr_ovl 27 ⟨rfl, rfl, rfl, trivial⟩, hC, hO, h0⟩
 cases o61 with
 | nx _ => exact True.intro
 | rt r_ =>
  have hs := after_rt hs
  intro g9 c7 hK
  cases hs
  exact hK
 | br s57 =>
  have hs := after_br hs
  rintro g9 a0 ⟨σ, a4, rfl, hC, hO, h1⟩
  refine c_sr ?_
  refine pl_val (.int .i64 s57.1) (y_move rfl) ?_
  refine pl_val (.int .i64 s57.1) (y_assign rfl) ?_
  refine c_nil ?_
  refine wp_ret ?_
  cases hs
  exact ⟨_, a4, fr_ovl 27 ⟨rfl, trivial⟩, hC, h1, hO.top⟩

theorem Bd18 : Bodied Try.prog 18 := bodied Try.func18 (by kernel_rfl) rfl

def k_laws_markAlgebra (M : Nat → Prop) (w0 : World) (qa0 : Option Addr) (qn0 qc0 : Nat) (qf0 : List Nat) (r : Int × (List (Int × (List Int)))) (a : Act) (w : World) : Prop :=
  ∃ (σ : Nat → Value) (rfi0 : List Nat), a = fr 10 (ovl σ [(4, (.int .i64 r.1))]) ∧ Chg (qf0 ++ ([])) w0 w ∧ (RT.os 64 (RT.pr (RT.int .i64) (RT.os 3 (RT.int .i64)))).val M w (.slice qa0 qn0 qc0) r.2 rfi0 ∧ Own (Nw w0 (qf0 ++ ([]))) (fun _ => True) w (rfi0 ++ ([]))
def s_laws_markAlgebra (a_ : Int × (List (Int × (List Int)))) (k : Int) : Option (Int × (List (Int × (List Int)))) :=
  (s_laws_markOpS a_.2 k).bind fun r4 =>
  some (r4.1, r4.2)
set_option maxHeartbeats 4000000 in
theorem c_laws_markAlgebra {M : Nat → Prop} {w : World} {pa0 : Option Addr} {pn0 pc0 : Nat} {pf0 : List Nat} (a_ : Int × (List (Int × (List Int)))) (k : Int) (h0 : (RT.os 64 (RT.pr (RT.int .i64) (RT.os 3 (RT.int .i64)))).val M w (.slice pa0 pn0 pc0) a_.2 pf0) (hI : Own (Nw w (pf0 ++ ([]))) M w (pf0 ++ ([]))) (hM : ∀ g, w.heap.size ≤ g → M g) {r : Int × (List (Int × (List Int)))} (hs : s_laws_markAlgebra a_ k = some r) :
    Gives Try.prog 17 [(.agg #[(.int .i64 a_.1), (.slice pa0 pn0 pc0)]), (.int .i64 k)] w (fun v w' => ∃ (rfi0 : List Nat), v = (.int .i64 r.1) ∧ Chg (pf0 ++ ([])) w w' ∧ (RT.os 64 (RT.pr (RT.int .i64) (RT.os 3 (RT.int .i64)))).val M w' (.slice pa0 pn0 pc0) r.2 rfi0 ∧ Own (Nw w (pf0 ++ ([]))) (fun _ => True) w' (rfi0 ++ ([]))) := by
 refine calls_fr Try.func17 rfl Try.ntmps17 (Nat.le_of_ble_eq_true rfl) ?_
 have hO := hI
 have hC := Chg.refl (pf0 ++ ([])) w
 unfold s_laws_markAlgebra at hs
 refine wp_mono (Q := KPost (k_laws_markAlgebra M w pa0 pn0 pc0 pf0 r)) ?_ (fun e a b3 h => ?_)
 rotate_left
 ·cases e
  case ret =>
   obtain ⟨σ, rfi0, rfl, hrest⟩ := h
   exact ret1x Try.results17 (res_tmp rfl) ⟨rfi0, rfl, hrest⟩
  all_goals exact (h : False).elim
 refine c_sr ?_
 obtain ⟨a7, a0, a8, a4, a2, a1⟩ := new_block w [(.int .i64 a_.1), (.slice pa0 pn0 pc0)] 30
 refine pl_val (w' := a7) (.pointer (some ⟨a0, 0, none⟩)) (y_box rfl (by rw [a8, a4]; kernel_rfl)) ?_
 have h0 := h0.ext a2
 have hC := hC.ext a2
 have hO := hO.new1 a2 a4 a1.lt
 refine pl_val (.int .i64 0) (y_assign rfl) ?_
 refine c_nil ?_
 refine c_sr ?_
 refine pl_val (.pointer (some ⟨a0, 1, none⟩)) (y_faddr rfl Fa30x1) ?_
 refine pl_val (.slice pa0 pn0 pc0) (y_load rfl ((box_load Ag26 Sz26 a1 [(.int .i64 a_.1)] [(.slice pa0 pn0 pc0)] [] rfl rfl (fun _ => rfl)) _ (Chg.refl _ _))) ?_
 refine pl_val (.int .i64 k) (y_move rfl) ?_
 have hO := hO.fr1
 have a9 := hO
 have a5 := Own.lend (F := (pf0 ++ ([]))) (R := ([a0]) ++ ([])) (Own.perm (a9) (by simp))
 obtain ⟨r4, b0, hs⟩ := bind_some hs
 refine pl_call Bd18 rfl (c_laws_markOpS (M := M) a_.2 k h0 a5 a5.fut b0) ?_
 rintro _ b4 ⟨a6, rfl, a3, b1, b2⟩
 have hO := hO.perm (R := (pf0 ++ ([])) ++ (([a0]) ++ ([]))) (by simp)
 have a1 := a1.ap a3 hO same_ (mem_l (List.mem_singleton.2 rfl))
 have hC := hC.st a3 hO same_
 have hO := Own.join hO a3 b2
 have hO := hO.perm (R := a6 ++ (([a0]) ++ ([]))) (by simp)
 refine pl_val (.int .i64 r4.1) (y_assign rfl) ?_
 refine c_nil ?_
 have hO := hO.fr1
 have hO := hO.drop
 refine c_sr ?_
 refine pl_val (.int .i64 r4.1) (y_move rfl) ?_
 refine pl_val (.int .i64 r4.1) (y_assign rfl) ?_
 refine c_nil ?_
 refine wp_ret ?_
 cases hs
 exact ⟨_, a6, fr_ovl 10 ⟨rfl, trivial⟩, hC, b1, hO.top⟩

def k_laws_heldIntS (M : Nat → Prop) (w0 : World) (r : Int) (a : Act) (w : World) : Prop :=
  ∃ (σ : Nat → Value) , a = fr 21 (ovl σ [(4, (.int .i64 r))]) ∧ Chg [] w0 w
def s_laws_heldIntS (a_ : List Int) (k : Int) : Option (Int) :=
  (forC (S := Int) (R := Int) (fun k7 s5 =>
  (idx a_ k7).bind fun x11 =>
  (bif (x11 != s5) then some (.rt (-1)) else some (.nx (w64 (s5 + 1))))) 0 (a_.length : Int) k).bind fun o9 => after o9 (fun r_ => some r_) (fun s5 =>
  some s5)
set_option maxHeartbeats 4000000 in
theorem c_laws_heldIntS {M : Nat → Prop} {w : World} {pa0 : Option Addr} {pn0 pc0 : Nat} (a_ : List Int) (k : Int) (h0 : (RT.rs (RT.int .i64)).val M w (.slice pa0 pn0 pc0) a_ ([])) (hM : ∀ g, w.heap.size ≤ g → M g) {r : Int} (hs : s_laws_heldIntS a_ k = some r) :
    Gives Try.prog 49 [(.slice pa0 pn0 pc0), (.int .i64 k)] w (fun v w' => v = (.int .i64 r) ∧ Chg [] w w') := by
 refine calls_fr Try.func49 rfl Try.ntmps49 (Nat.le_of_ble_eq_true rfl) ?_
 have hO := Own.start (N := Nw w []) hM Nw.fut
 have hC := Chg.refl [] w
 unfold s_laws_heldIntS at hs
 refine wp_mono (Q := KPost (k_laws_heldIntS M w r)) ?_ (fun e a a2 h => ?_)
 rotate_left
 ·cases e
  case ret =>
   obtain ⟨σ, rfl, hrest⟩ := h
   exact ret1x Try.results49 (res_tmp rfl) ⟨rfl, hrest⟩
  all_goals exact (h : False).elim
 refine c_sr ?_
 refine pl_val (.int .i64 0) (y_assign rfl) ?_
 refine c_nil ?_
 refine c_seq ?_
 refine c_sr ?_
 refine pl_val (.int .i64 0) (y_assign rfl) ?_
 refine c_nil ?_
 obtain ⟨o9, a3, hs⟩ := bind_some hs
 refine wp_block ?_
 refine wp_forC (id := 0) (a_.length : Int) (I := fun k7 s5 a a0 => ∃ (σ : Nat → Value), a = fr 21 (ovl σ [(0, (.slice pa0 pn0 pc0)), (1, (.int .i64 s5)), (5, (.int .i64 k7))]) ∧ Chg [] w a0 ∧ Own (Nw w []) M a0 ([]) ∧ (RT.rs (RT.int .i64)).val M a0 (.slice pa0 pn0 pc0) a_ ([])) (J := fun s5 a a0 => ∃ (σ : Nat → Value), a = fr 21 (ovl σ [(1, (.int .i64 s5))]) ∧ Chg [] w a0 ∧ Own (Nw w []) M a0 ([]) ∧ (RT.rs (RT.int .i64)).val M a0 (.slice pa0 pn0 pc0) a_ ([])) (K := (k_laws_heldIntS M w)) ?_ ?_ 0 k o9 _ _ ?_ a3 ?_
 ·rintro k7 s5 a a0 ⟨σ, rfl, hC, hO, h0⟩ hlt
  refine c_seq ?_
  refine c_sr ?_
  refine pl_val (.int .i64 k7) (y_move rfl) ?_
  refine pl_val (.slice pa0 pn0 pc0) (y_move rfl) ?_
  refine pl_val (.int .i64 (a_.length : Int)) (y_len' Sl37 (rs_len h0) rfl) ?_
  refine pl_val (.bool (decide (k7 < (a_.length : Int)))) (y_lss rfl rfl) ?_
  refine c_nil ?_
  refine c_condF (congrArg Value.bool (decide_eq_false hlt)) ?_
  refine wp_exit ?_
  exact ⟨rfl, _, fr_ovl 21 ⟨rfl, trivial⟩, hC, hO, h0⟩
 ·rintro k7 s5 o9 a a0 ⟨σ, rfl, hC, hO, h0⟩ hlt hw hs
  refine c_seq ?_
  refine c_sr ?_
  refine pl_val (.int .i64 k7) (y_move rfl) ?_
  refine pl_val (.slice pa0 pn0 pc0) (y_move rfl) ?_
  refine pl_val (.int .i64 (a_.length : Int)) (y_len' Sl37 (rs_len h0) rfl) ?_
  refine pl_val (.bool (decide (k7 < (a_.length : Int)))) (y_lss rfl rfl) ?_
  refine c_nil ?_
  refine c_condT (congrArg Value.bool (decide_eq_true hlt)) ?_
  refine wp_skip ?_
  refine c_seq ?_
  refine wp_block ?_
  refine c_seq ?_
  refine c_sr ?_
  refine pl_val (.slice pa0 pn0 pc0) (y_move rfl) ?_
  refine pl_val (.int .i64 k7) (y_move rfl) ?_
  obtain ⟨x11, a4, hs⟩ := bind_some hs
  obtain ⟨a5, a6, a7, a8⟩ := rs_idx Sl37 Sz3 h0 a4
  refine pl_val (.pointer (some ⟨a5, a6, none⟩)) (a7 _ _ _ _ _ _ _ _ _ rfl rfl) ?_
  refine pl_val (.int .i64 x11) (y_load rfl ((at_load_int Ag3 Sz3 a8) _ (Chg.refl _ _))) ?_
  refine pl_val (.int .i64 s5) (y_move rfl) ?_
  refine pl_val (.bool (x11 != s5)) (y_neq rfl rfl) ?_
  refine c_nil ?_
  rcases bif_some hs with ⟨a1, hs⟩ | ⟨a1, hs⟩
  ·refine c_condT (congrArg Value.bool a1) ?_
   refine c_sr ?_
   refine pl_val (.int .i64 (-1)) (y_assign rfl) ?_
   refine c_nil ?_
   refine wp_ret ?_
   cases hs
   exact ⟨_, fr_ovl 21 ⟨rfl, trivial⟩, hC⟩
  refine c_condF (congrArg Value.bool a1) ?_
  refine wp_skip ?_
  refine c_region ?_
  refine pl_val (.int .i64 s5) (y_move rfl) ?_
  refine pl_val (.int .i64 (w64 (s5 + 1))) (y_add rfl rfl) ?_
  refine pl_val (.int .i64 (w64 (s5 + 1))) (y_assign rfl) ?_
  refine c_nil ?_
  refine c_region ?_
  refine pl_val (.int .i64 k7) (y_move rfl) ?_
  refine pl_val (.int .i64 (w64 (k7 + 1))) (y_add rfl rfl) ?_
  refine pl_val (.int .i64 (w64 (k7 + 1))) (y_assign rfl) ?_
  refine c_nil ?_
  cases hs
  exact ⟨_, fr_ovl 21 ⟨rfl, rfl, congrArg (Value.int .i64) hw, trivial⟩, hC, hO, h0⟩
 ·skip
  exact ⟨_, fr_ovl 21 ⟨rfl, rfl, rfl, trivial⟩, hC, hO, h0⟩
 cases o9 with
 | nx _ => exact True.intro
 | rt r_ =>
  have hs := after_rt hs
  intro a9 a2 hK
  cases hs
  exact hK
 | br s5 =>
  have hs := after_br hs
  rintro a9 a0 ⟨σ, rfl, hC, hO, h0⟩
  refine c_sr ?_
  refine pl_val (.int .i64 s5) (y_move rfl) ?_
  refine pl_val (.int .i64 s5) (y_assign rfl) ?_
  refine c_nil ?_
  refine wp_ret ?_
  cases hs
  exact ⟨_, fr_ovl 21 ⟨rfl, trivial⟩, hC⟩

theorem Bd49 : Bodied Try.prog 49 := bodied Try.func49 (by kernel_rfl) rfl

def k_laws_heldOpS (M : Nat → Prop) (w0 : World) (r : Int) (a : Act) (w : World) : Prop :=
  ∃ (σ : Nat → Value) , a = fr 31 (ovl σ [(4, (.int .i64 r))]) ∧ Chg [] w0 w
def s_laws_heldOpS (a_ : List (Int × (List Int))) (k : Int) : Option (Int) :=
  (forC (S := Int) (R := Int) (fun k16 s14 =>
  (idx a_ k16).bind fun x20 =>
  (bif (x20.1 != s14) then some (.rt (-1)) else (idx a_ k16).bind fun x24 =>
  (s_laws_heldIntS x24.2 (w64 (s14 + 1))).bind fun r30 =>
  (bif (decide (r30 < 0)) then some (.rt (-1)) else some (.nx r30)))) 0 (a_.length : Int) k).bind fun o18 => after o18 (fun r_ => some r_) (fun s14 =>
  some s14)
set_option maxHeartbeats 4000000 in
theorem c_laws_heldOpS {M : Nat → Prop} {w : World} {pa0 : Option Addr} {pn0 pc0 : Nat} (a_ : List (Int × (List Int))) (k : Int) (h0 : (RT.rs (RT.pr (RT.int .i64) (RT.rs (RT.int .i64)))).val M w (.slice pa0 pn0 pc0) a_ ([])) (hM : ∀ g, w.heap.size ≤ g → M g) {r : Int} (hs : s_laws_heldOpS a_ k = some r) :
    Gives Try.prog 19 [(.slice pa0 pn0 pc0), (.int .i64 k)] w (fun v w' => v = (.int .i64 r) ∧ Chg [] w w') := by
 refine calls_fr Try.func19 rfl Try.ntmps19 (Nat.le_of_ble_eq_true rfl) ?_
 have hO := Own.start (N := Nw w []) hM Nw.fut
 have hC := Chg.refl [] w
 unfold s_laws_heldOpS at hs
 refine wp_mono (Q := KPost (k_laws_heldOpS M w r)) ?_ (fun e a b0 h => ?_)
 rotate_left
 ·cases e
  case ret =>
   obtain ⟨σ, rfl, hrest⟩ := h
   exact ret1x Try.results19 (res_tmp rfl) ⟨rfl, hrest⟩
  all_goals exact (h : False).elim
 refine c_sr ?_
 refine pl_val (.int .i64 0) (y_assign rfl) ?_
 refine c_nil ?_
 refine c_seq ?_
 refine c_sr ?_
 refine pl_val (.int .i64 0) (y_assign rfl) ?_
 refine c_nil ?_
 obtain ⟨o18, b1, hs⟩ := bind_some hs
 refine wp_block ?_
 refine wp_forC (id := 0) (a_.length : Int) (I := fun k16 s14 a a0 => ∃ (σ : Nat → Value), a = fr 31 (ovl σ [(0, (.slice pa0 pn0 pc0)), (1, (.int .i64 s14)), (5, (.int .i64 k16))]) ∧ Chg [] w a0 ∧ Own (Nw w []) M a0 ([]) ∧ (RT.rs (RT.pr (RT.int .i64) (RT.rs (RT.int .i64)))).val M a0 (.slice pa0 pn0 pc0) a_ ([])) (J := fun s14 a a0 => ∃ (σ : Nat → Value), a = fr 31 (ovl σ [(1, (.int .i64 s14))]) ∧ Chg [] w a0 ∧ Own (Nw w []) M a0 ([]) ∧ (RT.rs (RT.pr (RT.int .i64) (RT.rs (RT.int .i64)))).val M a0 (.slice pa0 pn0 pc0) a_ ([])) (K := (k_laws_heldOpS M w)) ?_ ?_ 0 k o18 _ _ ?_ b1 ?_
 ·rintro k16 s14 a a0 ⟨σ, rfl, hC, hO, h0⟩ hlt
  refine c_seq ?_
  refine c_sr ?_
  refine pl_val (.int .i64 k16) (y_move rfl) ?_
  refine pl_val (.slice pa0 pn0 pc0) (y_move rfl) ?_
  refine pl_val (.int .i64 (a_.length : Int)) (y_len' Sl26 (rs_len h0) rfl) ?_
  refine pl_val (.bool (decide (k16 < (a_.length : Int)))) (y_lss rfl rfl) ?_
  refine c_nil ?_
  refine c_condF (congrArg Value.bool (decide_eq_false hlt)) ?_
  refine wp_exit ?_
  exact ⟨rfl, _, fr_ovl 31 ⟨rfl, trivial⟩, hC, hO, h0⟩
 ·rintro k16 s14 o18 a a0 ⟨σ, rfl, hC, hO, h0⟩ hlt hw hs
  refine c_seq ?_
  refine c_sr ?_
  refine pl_val (.int .i64 k16) (y_move rfl) ?_
  refine pl_val (.slice pa0 pn0 pc0) (y_move rfl) ?_
  refine pl_val (.int .i64 (a_.length : Int)) (y_len' Sl26 (rs_len h0) rfl) ?_
  refine pl_val (.bool (decide (k16 < (a_.length : Int)))) (y_lss rfl rfl) ?_
  refine c_nil ?_
  refine c_condT (congrArg Value.bool (decide_eq_true hlt)) ?_
  refine wp_skip ?_
  refine c_seq ?_
  refine wp_block ?_
  refine c_seq ?_
  refine c_sr ?_
  refine pl_val (.slice pa0 pn0 pc0) (y_move rfl) ?_
  refine pl_val (.int .i64 k16) (y_move rfl) ?_
  obtain ⟨x20, b2, hs⟩ := bind_some hs
  obtain ⟨a6, a7, b3, b4⟩ := rs_idx Sl26 Sz64 h0 b2
  refine pl_val (.pointer (some ⟨a6, a7, none⟩)) (b3 _ _ _ _ _ _ _ _ _ rfl rfl) ?_
  obtain ⟨b5, _⟩ := pr_at b4
  refine pl_val (.pointer (some ⟨a6, a7 + 0, none⟩)) (y_faddr rfl Fa64x0) ?_
  refine pl_val (.int .i64 x20.1) (y_load rfl ((at_load_int Ag3 Sz3 b5) _ (Chg.refl _ _))) ?_
  refine pl_val (.int .i64 s14) (y_move rfl) ?_
  refine pl_val (.bool (x20.1 != s14)) (y_neq rfl rfl) ?_
  refine c_nil ?_
  rcases bif_some hs with ⟨a3, hs⟩ | ⟨a3, hs⟩
  ·refine c_condT (congrArg Value.bool a3) ?_
   refine c_sr ?_
   refine pl_val (.int .i64 (-1)) (y_assign rfl) ?_
   refine c_nil ?_
   refine wp_ret ?_
   cases hs
   exact ⟨_, fr_ovl 31 ⟨rfl, trivial⟩, hC⟩
  refine c_condF (congrArg Value.bool a3) ?_
  refine wp_skip ?_
  refine c_sr ?_
  refine pl_val (.int .i64 s14) (y_move rfl) ?_
  refine pl_val (.int .i64 (w64 (s14 + 1))) (y_add rfl rfl) ?_
  refine pl_val (.int .i64 (w64 (s14 + 1))) (y_assign rfl) ?_
  refine c_nil ?_
  refine c_sr ?_
  refine pl_val (.slice pa0 pn0 pc0) (y_move rfl) ?_
  refine pl_val (.int .i64 k16) (y_move rfl) ?_
  obtain ⟨x24, b6, hs⟩ := bind_some hs
  obtain ⟨a8, a9, b7, a4⟩ := rs_idx Sl26 Sz64 h0 b6
  refine pl_val (.pointer (some ⟨a8, a9, none⟩)) (b7 _ _ _ _ _ _ _ _ _ rfl rfl) ?_
  obtain ⟨_, b8⟩ := pr_at a4
  refine pl_val (.pointer (some ⟨a8, a9 + 1, none⟩)) (y_faddr rfl Fa64x1) ?_
  obtain ⟨c5, b9, a2⟩ := at_load Ag37 Sz37 (fun _ => rfl) b8
  obtain ⟨c0, c1, c2, rfl⟩ := rs_sl a2
  refine pl_val (.slice c0 c1 c2) (y_load rfl (b9 _ (Chg.refl _ _))) ?_
  refine pl_val (.int .i64 (w64 (s14 + 1))) (y_move rfl) ?_
  obtain ⟨r30, c3, hs⟩ := bind_some hs
  refine pl_call Bd49 rfl (c_laws_heldIntS (M := M) x24.2 (w64 (s14 + 1)) a2 hO.fut c3) ?_
  rintro _ c6 ⟨rfl, a1⟩
  have h0 := h0.ext a1
  have a2 := a2.ext a1
  have a4 := at_ext a4 a1
  have hC := hC.ext a1
  have hO := hO.ext a1
  refine pl_val (.int .i64 r30) (y_assign rfl) ?_
  refine c_nil ?_
  refine c_sr ?_
  refine pl_val (.int .i64 r30) (y_move rfl) ?_
  refine pl_val (.bool (decide (r30 < 0))) (y_lss rfl rfl) ?_
  refine c_nil ?_
  rcases bif_some hs with ⟨a5, hs⟩ | ⟨a5, hs⟩
  ·refine c_condT (congrArg Value.bool a5) ?_
   refine c_sr ?_
   refine pl_val (.int .i64 (-1)) (y_assign rfl) ?_
   refine c_nil ?_
   refine wp_ret ?_
   cases hs
   exact ⟨_, fr_ovl 31 ⟨rfl, trivial⟩, hC⟩
  refine c_condF (congrArg Value.bool a5) ?_
  refine wp_skip ?_
  refine c_region ?_
  refine pl_val (.int .i64 k16) (y_move rfl) ?_
  refine pl_val (.int .i64 (w64 (k16 + 1))) (y_add rfl rfl) ?_
  refine pl_val (.int .i64 (w64 (k16 + 1))) (y_assign rfl) ?_
  refine c_nil ?_
  cases hs
  exact ⟨_, fr_ovl 31 ⟨rfl, rfl, congrArg (Value.int .i64) hw, trivial⟩, hC, hO, h0⟩
 ·skip
  exact ⟨_, fr_ovl 31 ⟨rfl, rfl, rfl, trivial⟩, hC, hO, h0⟩
 cases o18 with
 | nx _ => exact True.intro
 | rt r_ =>
  have hs := after_rt hs
  intro c4 b0 hK
  cases hs
  exact hK
 | br s14 =>
  have hs := after_br hs
  rintro c4 a0 ⟨σ, rfl, hC, hO, h0⟩
  refine c_sr ?_
  refine pl_val (.int .i64 s14) (y_move rfl) ?_
  refine pl_val (.int .i64 s14) (y_assign rfl) ?_
  refine c_nil ?_
  refine wp_ret ?_
  cases hs
  exact ⟨_, fr_ovl 31 ⟨rfl, trivial⟩, hC⟩

theorem Ag24 : AggT Try.prog 24 true := fun _ => by kernel_rfl

theorem Sz24 : SzT Try.prog 24 2 := ⟨_, rfl, rfl⟩

theorem Bd11 : Bodied Try.prog 11 := bodied Try.func11 (by kernel_rfl) rfl

theorem Bd13 : Bodied Try.prog 13 := bodied Try.func13 (by kernel_rfl) rfl

theorem Bd36 : Bodied Try.prog 36 := bodied Try.func36 (by kernel_rfl) rfl

theorem Bd37 : Bodied Try.prog 37 := bodied Try.func37 (by kernel_rfl) rfl

theorem Bd16 : Bodied Try.prog 16 := bodied Try.func16 (by kernel_rfl) rfl

theorem Bd17 : Bodied Try.prog 17 := bodied Try.func17 (by kernel_rfl) rfl

theorem Bd19 : Bodied Try.prog 19 := bodied Try.func19 (by kernel_rfl) rfl

def k_laws_FnExactDirectChain (M : Nat → Prop) (w0 : World) (r : Bool) (a : Act) (w : World) : Prop :=
  ∃ (σ : Nat → Value) , a = fr 96 (ovl σ [(2, (.bool r))]) ∧ Chg [] w0 w
def s_laws_FnExactDirectChain (aA : Int × (List (Int × (List Int)))) : Option (Bool) :=
  (s_laws_szAlgebra (aA.1, aA.2) 1048576).bind fun r4 =>
  (bif (decide (r4 < 0)) then some true else (s_laws_toAlgebra (aA.1, aA.2)).bind fun r7 =>
  (s_spec_DirectChain (r7.1, r7.2)).bind fun r10 =>
  (s_laws_toAlgebra (aA.1, aA.2)).bind fun r13 =>
  (s_impl_DirectChain (r13.1, r13.2)).bind fun r18 =>
  ((s_laws_eqOpS r18.1 r10.1).bind fun r24 =>
  (bif (!r24) then some true else some (!(r18.2 == r10.2)))).bind fun s20 =>
  (bif s20 then some false else (s_laws_toAlgebra (aA.1, aA.2)).bind fun r35 =>
  (s_laws_eqAlgebra (r13.1, r13.2) (r35.1, r35.2)).bind fun r38 =>
  (bif (!r38) then some false else (s_laws_markAlgebra (r13.1, r13.2) 1).bind fun r41 =>
  ((bif (decide (r41.1 < 0)) then some true else (s_laws_eqOpS r18.1 r10.1).bind fun r47 =>
  (bif (!r47) then some true else some (!(r18.2 == r10.2))))).bind fun s42 =>
  (bif s42 then some false else (s_laws_markOpS r18.1 1).bind fun r51 =>
  (s_laws_heldOpS r51.2 1).bind fun r53 =>
  (bif (decide (r53 < 0)) then some false else (bif (r53 != r51.1) then some false else (s_laws_toAlgebra (aA.1, aA.2)).bind fun r57 =>
  (s_impl_DirectChain (r57.1, r57.2)).bind fun r60 =>
  ((s_laws_eqOpS r60.1 r10.1).bind fun r66 =>
  (bif (!r66) then some true else some (!(r60.2 == r10.2)))).bind fun s62 =>
  (bif s62 then some false else (s_laws_heldOpS r51.2 1).bind fun r70 =>
  (bif (decide (r70 < 0)) then some false else (bif (r70 != r51.1) then some false else some true)))))))))
set_option maxHeartbeats 4000000 in
theorem c_laws_FnExactDirectChain {M : Nat → Prop} {w : World} {pa0 : Option Addr} {pn0 pc0 : Nat} (aA : Int × (List (Int × (List Int)))) (h0 : (RT.rs (RT.pr (RT.int .i64) (RT.rs (RT.int .i64)))).val M w (.slice pa0 pn0 pc0) aA.2 ([])) (hM : ∀ g, w.heap.size ≤ g → M g) {r : Bool} (hs : s_laws_FnExactDirectChain aA = some r) :
    Gives Try.prog 10 [(.agg #[(.int .i64 aA.1), (.slice pa0 pn0 pc0)])] w (fun v w' => v = (.bool r) ∧ Chg [] w w') := by
 refine calls_fr Try.func10 rfl Try.ntmps10 (Nat.le_of_ble_eq_true rfl) ?_
 have hO := Own.start (N := Nw w []) hM Nw.fut
 have hC := Chg.refl [] w
 unfold s_laws_FnExactDirectChain at hs
 refine wp_mono (Q := KPost (k_laws_FnExactDirectChain M w r)) ?_ (fun e a m4 h => ?_)
 rotate_left
 ·cases e
  case ret =>
   obtain ⟨σ, rfl, hrest⟩ := h
   exact ret1x Try.results10 (res_tmp rfl) ⟨rfl, hrest⟩
  all_goals exact (h : False).elim
 refine c_sr ?_
 obtain ⟨i3, a5, i4, g8, f2, a0⟩ := new_block w [(.int .i64 aA.1), (.slice pa0 pn0 pc0)] 24
 refine pl_val (w' := i3) (.pointer (some ⟨a5, 0, none⟩)) (y_box rfl (by rw [i4, g8]; kernel_rfl)) ?_
 have h0 := h0.ext f2
 have hC := hC.ext f2
 have hO := hO.new1 f2 g8 a0.lt
 refine pl_val (.bool false) (y_assign rfl) ?_
 refine c_nil ?_
 refine c_sr ?_
 refine pl_val (.int .i64 1048576) (y_assign rfl) ?_
 refine c_nil ?_
 refine c_sr ?_
 refine pl_val (.agg #[(.int .i64 aA.1), (.slice pa0 pn0 pc0)]) (y_load rfl ((box_load Ag24 Sz24 a0 [] [(.int .i64 aA.1), (.slice pa0 pn0 pc0)] [] rfl rfl (fun h => nomatch h)) _ (Chg.refl _ _))) ?_
 refine pl_val (.int .i64 1048576) (y_move rfl) ?_
 obtain ⟨r4, i5, hs⟩ := bind_some hs
 refine pl_call Bd11 rfl (c_laws_szAlgebra (M := M) (aA.1, aA.2) 1048576 h0 hO.fut i5) ?_
 rintro _ m5 ⟨rfl, e5⟩
 have h0 := h0.ext e5
 have a0 := a0.cn e5
 have hC := hC.ext e5
 have hO := hO.ext e5
 refine pl_val (.int .i64 r4) (y_assign rfl) ?_
 refine c_nil ?_
 refine c_seq ?_
 refine c_sr ?_
 refine pl_val (.int .i64 r4) (y_move rfl) ?_
 refine pl_val (.bool (decide (r4 < 0))) (y_lss rfl rfl) ?_
 refine c_nil ?_
 rcases bif_some hs with ⟨f3, hs⟩ | ⟨f3, hs⟩
 ·refine c_condT (congrArg Value.bool f3) ?_
  refine c_sr ?_
  refine pl_val (.bool true) (y_assign rfl) ?_
  refine c_nil ?_
  refine wp_ret ?_
  cases hs
  exact ⟨_, fr_ovl 96 ⟨rfl, trivial⟩, hC⟩
 refine c_condF (congrArg Value.bool f3) ?_
 refine wp_skip ?_
 refine c_sr ?_
 refine pl_val (.agg #[(.int .i64 aA.1), (.slice pa0 pn0 pc0)]) (y_load rfl ((box_load Ag24 Sz24 a0 [] [(.int .i64 aA.1), (.slice pa0 pn0 pc0)] [] rfl rfl (fun h => nomatch h)) _ (Chg.refl _ _))) ?_
 obtain ⟨r7, i6, hs⟩ := bind_some hs
 refine pl_call Bd13 rfl (c_laws_toAlgebra (M := M) (aA.1, aA.2) h0 hO.fut i6) ?_
 rintro _ m6 ⟨m7, m8, m9, f4, rfl, e6, f5, i7⟩
 have h0 := h0.ext e6
 have a0 := a0.cn e6
 have hC := hC.ext e6
 have hO := Own.join0 hO e6 i7
 have hO := hO.perm (R := f4 ++ (([a5]) ++ ([]))) (by simp)
 obtain ⟨r10, i9, hs⟩ := bind_some hs
 refine pl_call Bd36 rfl (c_spec_DirectChain (M := (Less M f4)) (r7.1, r7.2) (((Frz.os (Frz.pr Frz.int (Frz.os Frz.int)))).val f5 Less.sub Less.not) hO.less.fut i9) ?_
 rintro _ n0 ⟨c0, c1, c2, a6, rfl, e0, a1, j0⟩
 have h0 := h0.ext e0
 have a0 := a0.cn e0
 have f5 := f5.ext e0
 have hC := hC.ext e0
 have hO := Own.join0 hO e0 j0
 have hO := hO.perm (R := a6 ++ (f4 ++ (([a5]) ++ ([])))) (by simp)
 have a1 := a1.free (M' := M) (Free.os (Free.pr Free.int (Free.os Free.int)))
 refine pl_val (.tuple #[(.slice c0 c1 c2), (.bool r10.2)]) (y_move rfl) ?_
 refine pl_val (.slice c0 c1 c2) (y_extract rfl (by kernel_rfl)) ?_
 refine pl_val (.bool r10.2) (y_extract rfl (by kernel_rfl)) ?_
 refine pl_val (.slice c0 c1 c2) (y_assign rfl) ?_
 refine pl_val (.bool r10.2) (y_assign rfl) ?_
 refine c_nil ?_
 have hO := hO.fr1
 have hO := hO.drop
 refine c_sr ?_
 refine pl_val (.agg #[(.int .i64 aA.1), (.slice pa0 pn0 pc0)]) (y_load rfl ((box_load Ag24 Sz24 a0 [] [(.int .i64 aA.1), (.slice pa0 pn0 pc0)] [] rfl rfl (fun h => nomatch h)) _ (Chg.refl _ _))) ?_
 obtain ⟨r13, j1, hs⟩ := bind_some hs
 refine pl_call Bd13 rfl (c_laws_toAlgebra (M := M) (aA.1, aA.2) h0 hO.fut j1) ?_
 rintro _ j2 ⟨c3, c4, c5, c8, rfl, e1, a3, j3⟩
 have h0 := h0.ext e1
 have a0 := a0.cn e1
 have a1 := a1.ext e1
 have hC := hC.ext e1
 have hO := Own.join0 hO e1 j3
 have hO := hO.perm (R := c8 ++ (a6 ++ (([a5]) ++ ([])))) (by simp)
 obtain ⟨j4, c6, j5, g9, d4, h1⟩ := new_block j2 [(.int .i64 0), (.slice none 0 0)] 30
 refine pl_val (w' := j4) (.pointer (some ⟨c6, 0, none⟩)) (y_alloc (by rw [j5, g9]; kernel_rfl)) ?_
 have h0 := h0.ext d4
 have a0 := a0.cn d4
 have a1 := a1.ext d4
 have a3 := a3.ext d4
 have hC := hC.ext d4
 have hO := hO.new1 d4 g9 h1.lt
 obtain ⟨h2, j6, d5, a4⟩ := box_store (P := Try.prog) h1 [] [(.int .i64 0), (.slice none 0 0)] [] [(.int .i64 r13.1), (.slice c3 c4 c5)] rfl rfl (by intro u hu; simp only [List.mem_cons, List.not_mem_nil, or_false] at hu; rcases hu with rfl | rfl <;> rfl)
 refine pl_skip (w' := h2) (ys_store rfl rfl (j6 _ _ rfl Sz30)) ?_
 have h0 := h0.mt d5 hO same_
 have a0 := a0.ap d5 hO same_ (mem_r (mem_r (mem_l (List.mem_singleton.2 rfl))))
 have a1 := a1.ma d5 hO same_ (fun _ e => (mem_r (mem_l (e))))
 have a3 := a3.ma d5 hO same_ (fun _ e => (mem_l (e)))
 have hC := hC.st d5 hO same_
 have hO := hO.ext d5
 have a4 : BoxV h2 c6 30 [(.int .i64 r13.1), (.slice c3 c4 c5)] := a4
 refine c_nil ?_
 refine c_sr ?_
 refine pl_val (.agg #[(.int .i64 r13.1), (.slice c3 c4 c5)]) (y_load rfl ((box_load Ag30 Sz30 a4 [] [(.int .i64 r13.1), (.slice c3 c4 c5)] [] rfl rfl (fun h => nomatch h)) _ (Chg.refl _ _))) ?_
 have hO := hO.fr1
 obtain ⟨r18, j7, hs⟩ := bind_some hs
 refine pl_call Bd37 rfl (c_impl_DirectChain (M := (Less M c8)) (r13.1, r13.2) (((Frz.os (Frz.pr Frz.int (Frz.os Frz.int)))).val a3 Less.sub Less.not) hO.less.fut j7) ?_
 rintro _ h3 ⟨a9, b0, b1, b4, rfl, c9, a2, j8⟩
 have h0 := h0.ext c9
 have a0 := a0.cn c9
 have a1 := a1.ext c9
 have a3 := a3.ext c9
 have a4 := a4.cn c9
 have hC := hC.ext c9
 have hO := Own.join0 hO c9 j8
 have hO := hO.perm (R := b4 ++ (c8 ++ (([c6]) ++ (a6 ++ (([a5]) ++ ([])))))) (by simp)
 have a2 := a2.free (M' := M) (Free.os (Free.pr Free.int (Free.os Free.int)))
 refine pl_val (.tuple #[(.slice a9 b0 b1), (.bool r18.2)]) (y_move rfl) ?_
 refine pl_val (.slice a9 b0 b1) (y_extract rfl (by kernel_rfl)) ?_
 refine pl_val (.bool r18.2) (y_extract rfl (by kernel_rfl)) ?_
 refine pl_val (.slice a9 b0 b1) (y_assign rfl) ?_
 refine pl_val (.bool r18.2) (y_assign rfl) ?_
 refine c_nil ?_
 refine c_seq ?_
 refine c_seq ?_
 obtain ⟨s20, j9, hs⟩ := bind_some hs
 refine c_mid (I := fun a e7 => ∃ (σ : Nat → Value), a = fr 96 (ovl σ [(1, (.pointer (some ⟨a5, 0, none⟩))), (2, (.bool false)), (4, (.slice c0 c1 c2)), (5, (.bool r10.2)), (6, (.pointer (some ⟨c6, 0, none⟩))), (7, (.slice a9 b0 b1)), (8, (.bool r18.2)), (40, (.bool s20))]) ∧ Chg [] h3 e7) ?_ ?_
 ·replace hs := j9
  have hMid := Chg.refl [] h3
  refine c_region ?_
  refine pl_val (.slice a9 b0 b1) (y_move rfl) ?_
  refine pl_val (.slice c0 c1 c2) (y_move rfl) ?_
  have hO := hO.fr3
  have hO := hO.fr1
  obtain ⟨r24, k0, hs⟩ := bind_some hs
  refine pl_call Bd15 rfl (c_laws_eqOpS (M := (Less (Less M b4) a6)) r18.1 r10.1 ((((Frz.os (Frz.pr Frz.int (Frz.os Frz.int)))).val a2 Less.sub Less.not).sub Less.sub) (((Frz.os (Frz.pr Frz.int (Frz.os Frz.int)))).val (a1.sub Less.sub) Less.sub Less.not) (hO.less).less.fut k0) ?_
  rintro _ n1 ⟨rfl, b5⟩
  have h0 := h0.ext b5
  have a0 := a0.cn b5
  have a1 := a1.ext b5
  have a3 := a3.ext b5
  have a4 := a4.cn b5
  have a2 := a2.ext b5
  have hMid := hMid.ext b5
  have hC := hC.ext b5
  have hO := hO.ext b5
  refine pl_val (.bool (!r24)) (y_not rfl) ?_
  refine pl_val (.bool (!r24)) (y_move rfl) ?_
  rcases bif_some hs with ⟨b6, hs⟩ | ⟨b6, hs⟩
  ·skip
   refine pl_not (tg := 36) (by kernel_rfl) (congrArg Value.bool b6) ?_
   refine pl_not (tg := 36) (by kernel_rfl) (congrArg Value.bool b6) ?_
   refine pl_not (tg := 36) (by kernel_rfl) (congrArg Value.bool b6) ?_
   refine pl_val (.bool true) (y_pick_t (congrArg Value.bool b6) rfl) ?_
   refine c_nil ?_
   cases hs
   exact ⟨_, fr_ovl 96 ⟨rfl, rfl, rfl, rfl, rfl, rfl, rfl, rfl, trivial⟩, hMid⟩
  refine pl_yes (.bool r18.2) (tg := 36) (by kernel_rfl) (congrArg Value.bool b6) (y_move rfl) ?_
  refine pl_yes (.bool r10.2) (tg := 36) (by kernel_rfl) (congrArg Value.bool b6) (y_move rfl) ?_
  refine pl_yes (.bool (!(r18.2 == r10.2))) (tg := 36) (by kernel_rfl) (congrArg Value.bool b6) (y_bneq Try.underlying4 rfl rfl) ?_
  refine pl_val (.bool (!(r18.2 == r10.2))) (y_pick_f (congrArg Value.bool b6) rfl) ?_
  refine c_nil ?_
  cases hs
  exact ⟨_, fr_ovl 96 ⟨rfl, rfl, rfl, rfl, rfl, rfl, rfl, rfl, trivial⟩, hMid⟩
 rintro h4 e7 ⟨σ, rfl, c7⟩
 have h0 := h0.ext c7
 have a0 := a0.cn c7
 have a1 := a1.ext c7
 have a3 := a3.ext c7
 have a4 := a4.cn c7
 have a2 := a2.ext c7
 have hC := hC.ext c7
 have hO := hO.ext c7
 rcases bif_some hs with ⟨f6, hs⟩ | ⟨f6, hs⟩
 ·refine c_condT (congrArg Value.bool f6) ?_
  refine c_sr ?_
  refine pl_val (.bool false) (y_assign rfl) ?_
  refine c_nil ?_
  refine wp_ret ?_
  cases hs
  exact ⟨_, fr_ovl 96 ⟨rfl, trivial⟩, hC⟩
 refine c_condF (congrArg Value.bool f6) ?_
 refine wp_skip ?_
 refine c_seq ?_
 refine c_seq ?_
 refine x_start [] Mx rfl ?_
 have b7 := Chg.drew e7
 generalize World.drew e7 = k1 at b7 ⊢
 have h0 := h0.ext b7
 have a0 := a0.cn b7
 have a1 := a1.ext b7
 have a3 := a3.ext b7
 have a4 := a4.cn b7
 have a2 := a2.ext b7
 have hC := hC.ext b7
 have hO := hO.ext b7
 have hS := Chg.refl [] k1
 refine x_l 0 (.agg #[(.int .i64 r13.1), (.slice c3 c4 c5)]) rfl (by kernel_rfl)  (fun w' hw' => y_load rfl ((box_load Ag30 Sz30 a4 [] [(.int .i64 r13.1), (.slice c3 c4 c5)] [] rfl rfl (fun h => nomatch h)) w' hw')) hS ?_
 refine x_l 1 (.agg #[(.int .i64 aA.1), (.slice pa0 pn0 pc0)]) rfl (by kernel_rfl)  (fun w' hw' => y_load rfl ((box_load Ag24 Sz24 a0 [] [(.int .i64 aA.1), (.slice pa0 pn0 pc0)] [] rfl rfl (fun h => nomatch h)) w' hw')) hS ?_
 refine x_one (i := 2) (by kernel_rfl) ?_
 obtain ⟨r35, k2, hs⟩ := bind_some hs
 refine xk_call (b := false) rfl  Bd13 rfl (c_laws_toAlgebra (M := M) (aA.1, aA.2) h0 hO.fut k2) rfl (by rintro _ _ _ ⟨k3, k4, k5, f7, rfl, b2, e8, h5⟩; exact hS.ext b2) ?_
 rintro _ n2 ⟨k3, k4, k5, f7, rfl, b2, e8, h5⟩
 have h0 := h0.ext b2
 have a0 := a0.cn b2
 have a1 := a1.ext b2
 have a3 := a3.ext b2
 have a4 := a4.cn b2
 have a2 := a2.ext b2
 have hC := hC.ext b2
 have hO := Own.join0 hO b2 h5
 have hO := hO.perm (R := f7 ++ (b4 ++ (c8 ++ (([c6]) ++ (a6 ++ (([a5]) ++ ([]))))))) (by simp)
 have hS := hS.ext b2
 refine x_one (i := 3) (by kernel_rfl) ?_
 have hO := hO.fr2
 obtain ⟨r38, k6, hs⟩ := bind_some hs
 refine xk_call (b := false) rfl  Bd16 rfl (c_laws_eqAlgebra (M := (Less (Less M c8) f7)) (r13.1, r13.2) (r35.1, r35.2) ((((Frz.os (Frz.pr Frz.int (Frz.os Frz.int)))).val a3 Less.sub Less.not).sub Less.sub) (((Frz.os (Frz.pr Frz.int (Frz.os Frz.int)))).val (e8.sub Less.sub) Less.sub Less.not) (hO.less).less.fut k6) rfl (by rintro _ _ _ ⟨rfl, a8⟩; exact hS.ext a8) ?_
 rintro _ n3 ⟨rfl, a8⟩
 have h0 := h0.ext a8
 have a0 := a0.cn a8
 have a1 := a1.ext a8
 have a3 := a3.ext a8
 have a4 := a4.cn a8
 have a2 := a2.ext a8
 have e8 := e8.ext a8
 have hC := hC.ext a8
 have hO := hO.ext a8
 have hS := hS.ext a8
 refine x_p 4 (.bool (!r38)) rfl (by kernel_rfl)  (fun _ => y_not rfl) (fun _ => hS) ?_
 refine x_end (by kernel_rfl) ?_
 clear hS
 rcases bif_some hs with ⟨f8, hs⟩ | ⟨f8, hs⟩
 ·refine c_condT (congrArg Value.bool f8) ?_
  refine c_sr ?_
  refine pl_val (.bool false) (y_assign rfl) ?_
  refine c_nil ?_
  have hO := hO.fr1
  have hO := hO.drop
  refine wp_ret ?_
  cases hs
  exact ⟨_, fr_ovl 96 ⟨rfl, trivial⟩, hC⟩
 refine c_condF (congrArg Value.bool f8) ?_
 refine wp_skip ?_
 refine c_sr ?_
 refine pl_val (.int .i64 1) (y_assign rfl) ?_
 refine c_nil ?_
 have hO := hO.fr1
 have hO := hO.drop
 refine c_sr ?_
 refine pl_val (.agg #[(.int .i64 r13.1), (.slice c3 c4 c5)]) (y_load rfl ((box_load Ag30 Sz30 a4 [] [(.int .i64 r13.1), (.slice c3 c4 c5)] [] rfl rfl (fun h => nomatch h)) _ (Chg.refl _ _))) ?_
 refine pl_val (.int .i64 1) (y_move rfl) ?_
 have k7 := hO
 have h6 := Own.lend (F := (c8 ++ ([]))) (R := b4 ++ (([c6]) ++ (a6 ++ (([a5]) ++ ([]))))) (Own.perm (k7) (by simp))
 obtain ⟨r41, k8, hs⟩ := bind_some hs
 refine pl_call Bd17 rfl (c_laws_markAlgebra (M := M) (r13.1, r13.2) 1 a3 h6 h6.fut k8) ?_
 rintro _ h7 ⟨k9, rfl, d0, n4, l0⟩
 have hO := hO.perm (R := (c8 ++ ([])) ++ (b4 ++ (([c6]) ++ (a6 ++ (([a5]) ++ ([])))))) (by simp)
 have h0 := h0.mt d0 hO same_
 have a0 := a0.ap d0 hO same_ (mem_r (mem_r (mem_r (mem_l (List.mem_singleton.2 rfl)))))
 have a1 := a1.ma d0 hO same_ (fun _ e => (mem_r (mem_r (mem_l (e)))))
 have a4 := a4.ap d0 hO same_ (mem_r (mem_l (List.mem_singleton.2 rfl)))
 have a2 := a2.ma d0 hO same_ (fun _ e => (mem_l (e)))
 have hC := hC.st d0 hO same_
 have hO := Own.join hO d0 l0
 have hO := hO.perm (R := k9 ++ (b4 ++ (([c6]) ++ (a6 ++ (([a5]) ++ ([])))))) (by simp)
 refine pl_val (.int .i64 r41.1) (y_assign rfl) ?_
 refine c_nil ?_
 have hO := hO.drop
 have hO := hO.fr1
 have hO := hO.drop
 refine c_seq ?_
 refine c_seq ?_
 obtain ⟨s42, l1, hs⟩ := bind_some hs
 refine c_mid (I := fun a h8 => ∃ (σ : Nat → Value), a = fr 96 (ovl σ [(1, (.pointer (some ⟨a5, 0, none⟩))), (2, (.bool false)), (4, (.slice c0 c1 c2)), (5, (.bool r10.2)), (7, (.slice a9 b0 b1)), (61, (.bool s42))]) ∧ Chg [] h7 h8) ?_ ?_
 ·replace hs := l1
  have hMid := Chg.refl [] h7
  refine c_region ?_
  refine pl_val (.int .i64 r41.1) (y_move rfl) ?_
  refine pl_val (.bool (decide (r41.1 < 0))) (y_lss rfl rfl) ?_
  refine pl_val (.bool (decide (r41.1 < 0))) (y_move rfl) ?_
  rcases bif_some hs with ⟨b3, hs⟩ | ⟨b3, hs⟩
  ·skip
   refine pl_not (tg := 51) (by kernel_rfl) (congrArg Value.bool b3) ?_
   refine pl_not (tg := 51) (by kernel_rfl) (congrArg Value.bool b3) ?_
   refine pl_not (tg := 51) (by kernel_rfl) (congrArg Value.bool b3) ?_
   refine pl_not (tg := 51) (by kernel_rfl) (congrArg Value.bool b3) ?_
   refine pl_val (.bool true) (y_pick_t (congrArg Value.bool b3) rfl) ?_
   refine pl_val (.bool true) (y_move rfl) ?_
   refine pl_not (tg := 57) (by kernel_rfl) (by rfl) ?_
   refine pl_not (tg := 57) (by kernel_rfl) (by rfl) ?_
   refine pl_not (tg := 57) (by kernel_rfl) (by rfl) ?_
   refine pl_val (.bool true) (y_pick_t (by rfl) rfl) ?_
   refine c_nil ?_
   cases hs
   exact ⟨_, fr_ovl 96 ⟨rfl, rfl, rfl, rfl, rfl, rfl, trivial⟩, hMid⟩
  refine pl_yes (.slice a9 b0 b1) (tg := 51) (by kernel_rfl) (congrArg Value.bool b3) (y_move rfl) ?_
  refine pl_yes (.slice c0 c1 c2) (tg := 51) (by kernel_rfl) (congrArg Value.bool b3) (y_move rfl) ?_
  have hO := hO.fr1
  have hO := hO.fr1
  obtain ⟨r47, l2, hs⟩ := bind_some hs
  refine pl_cally (tg := 51) (by kernel_rfl) (congrArg Value.bool b3) Bd15 rfl (c_laws_eqOpS (M := (Less (Less M b4) a6)) r18.1 r10.1 ((((Frz.os (Frz.pr Frz.int (Frz.os Frz.int)))).val a2 Less.sub Less.not).sub Less.sub) (((Frz.os (Frz.pr Frz.int (Frz.os Frz.int)))).val (a1.sub Less.sub) Less.sub Less.not) (hO.less).less.fut l2) ?_
  rintro _ n5 ⟨rfl, d1⟩
  have h0 := h0.ext d1
  have a0 := a0.cn d1
  have a1 := a1.ext d1
  have a2 := a2.ext d1
  have hMid := hMid.ext d1
  have hC := hC.ext d1
  have hO := hO.ext d1
  refine pl_yes (.bool (!r47)) (tg := 51) (by kernel_rfl) (congrArg Value.bool b3) (y_not rfl) ?_
  refine pl_val (.bool (!r47)) (y_pick_f (congrArg Value.bool b3) rfl) ?_
  refine pl_val (.bool (!r47)) (y_move rfl) ?_
  rcases bif_some hs with ⟨b8, hs⟩ | ⟨b8, hs⟩
  ·skip
   refine pl_not (tg := 57) (by kernel_rfl) (congrArg Value.bool b8) ?_
   refine pl_not (tg := 57) (by kernel_rfl) (congrArg Value.bool b8) ?_
   refine pl_not (tg := 57) (by kernel_rfl) (congrArg Value.bool b8) ?_
   refine pl_val (.bool true) (y_pick_t (congrArg Value.bool b8) rfl) ?_
   refine c_nil ?_
   cases hs
   exact ⟨_, fr_ovl 96 ⟨rfl, rfl, rfl, rfl, rfl, rfl, trivial⟩, hMid⟩
  refine pl_yes (.bool r18.2) (tg := 57) (by kernel_rfl) (congrArg Value.bool b8) (y_move rfl) ?_
  refine pl_yes (.bool r10.2) (tg := 57) (by kernel_rfl) (congrArg Value.bool b8) (y_move rfl) ?_
  refine pl_yes (.bool (!(r18.2 == r10.2))) (tg := 57) (by kernel_rfl) (congrArg Value.bool b8) (y_bneq Try.underlying4 rfl rfl) ?_
  refine pl_val (.bool (!(r18.2 == r10.2))) (y_pick_f (congrArg Value.bool b8) rfl) ?_
  refine c_nil ?_
  cases hs
  exact ⟨_, fr_ovl 96 ⟨rfl, rfl, rfl, rfl, rfl, rfl, trivial⟩, hMid⟩
 rintro h4 h8 ⟨σ, rfl, d6⟩
 have h0 := h0.ext d6
 have a0 := a0.cn d6
 have a1 := a1.ext d6
 have a2 := a2.ext d6
 have hC := hC.ext d6
 have hO := hO.ext d6
 rcases bif_some hs with ⟨f9, hs⟩ | ⟨f9, hs⟩
 ·refine c_condT (congrArg Value.bool f9) ?_
  refine c_sr ?_
  refine pl_val (.bool false) (y_assign rfl) ?_
  refine c_nil ?_
  refine wp_ret ?_
  cases hs
  exact ⟨_, fr_ovl 96 ⟨rfl, trivial⟩, hC⟩
 refine c_condF (congrArg Value.bool f9) ?_
 refine wp_skip ?_
 refine c_sr ?_
 refine pl_val (.int .i64 1) (y_assign rfl) ?_
 refine c_nil ?_
 refine c_sr ?_
 refine pl_val (.slice a9 b0 b1) (y_move rfl) ?_
 refine pl_val (.int .i64 1) (y_move rfl) ?_
 have l3 := hO
 have h9 := Own.lend (F := (b4 ++ ([]))) (R := a6 ++ (([a5]) ++ ([]))) (Own.perm (l3) (by simp))
 obtain ⟨r51, l4, hs⟩ := bind_some hs
 refine pl_call Bd18 rfl (c_laws_markOpS (M := M) r18.1 1 a2 h9 h9.fut l4) ?_
 rintro _ n6 ⟨e2, rfl, e3, a7, l5⟩
 have hO := hO.perm (R := (b4 ++ ([])) ++ (a6 ++ (([a5]) ++ ([])))) (by simp)
 have h0 := h0.mt e3 hO same_
 have a0 := a0.ap e3 hO same_ (mem_r (mem_l (List.mem_singleton.2 rfl)))
 have a1 := a1.ma e3 hO same_ (fun _ e => (mem_l (e)))
 have hC := hC.st e3 hO same_
 have hO := Own.join hO e3 l5
 have hO := hO.perm (R := e2 ++ (a6 ++ (([a5]) ++ ([])))) (by simp)
 refine pl_val (.int .i64 r51.1) (y_assign rfl) ?_
 refine c_nil ?_
 refine c_sr ?_
 refine pl_val (.int .i64 1) (y_assign rfl) ?_
 refine c_nil ?_
 refine c_sr ?_
 refine pl_val (.slice a9 b0 b1) (y_move rfl) ?_
 refine pl_val (.int .i64 1) (y_move rfl) ?_
 obtain ⟨r53, l6, hs⟩ := bind_some hs
 refine pl_call Bd19 rfl (c_laws_heldOpS (M := (Less M e2)) r51.2 1 (((Frz.os (Frz.pr Frz.int (Frz.os Frz.int)))).val a7 Less.sub Less.not) hO.less.fut l6) ?_
 rintro _ n7 ⟨rfl, d7⟩
 have h0 := h0.ext d7
 have a0 := a0.cn d7
 have a1 := a1.ext d7
 have a7 := a7.ext d7
 have hC := hC.ext d7
 have hO := hO.ext d7
 refine pl_val (.int .i64 r53) (y_assign rfl) ?_
 refine c_nil ?_
 refine c_seq ?_
 refine c_sr ?_
 refine pl_val (.int .i64 r53) (y_move rfl) ?_
 refine pl_val (.bool (decide (r53 < 0))) (y_lss rfl rfl) ?_
 refine c_nil ?_
 rcases bif_some hs with ⟨g0, hs⟩ | ⟨g0, hs⟩
 ·refine c_condT (congrArg Value.bool g0) ?_
  refine c_sr ?_
  refine pl_val (.bool false) (y_assign rfl) ?_
  refine c_nil ?_
  refine wp_ret ?_
  cases hs
  exact ⟨_, fr_ovl 96 ⟨rfl, trivial⟩, hC⟩
 refine c_condF (congrArg Value.bool g0) ?_
 refine wp_skip ?_
 refine c_seq ?_
 refine c_sr ?_
 refine pl_val (.int .i64 r53) (y_move rfl) ?_
 refine pl_val (.int .i64 r51.1) (y_move rfl) ?_
 refine pl_val (.bool (r53 != r51.1)) (y_neq rfl rfl) ?_
 refine c_nil ?_
 rcases bif_some hs with ⟨g1, hs⟩ | ⟨g1, hs⟩
 ·refine c_condT (congrArg Value.bool g1) ?_
  refine c_sr ?_
  refine pl_val (.bool false) (y_assign rfl) ?_
  refine c_nil ?_
  refine wp_ret ?_
  cases hs
  exact ⟨_, fr_ovl 96 ⟨rfl, trivial⟩, hC⟩
 refine c_condF (congrArg Value.bool g1) ?_
 refine wp_skip ?_
 refine c_sr ?_
 refine pl_val (.agg #[(.int .i64 aA.1), (.slice pa0 pn0 pc0)]) (y_load rfl ((box_load Ag24 Sz24 a0 [] [(.int .i64 aA.1), (.slice pa0 pn0 pc0)] [] rfl rfl (fun h => nomatch h)) _ (Chg.refl _ _))) ?_
 obtain ⟨r57, l7, hs⟩ := bind_some hs
 refine pl_call Bd13 rfl (c_laws_toAlgebra (M := M) (aA.1, aA.2) h0 hO.fut l7) ?_
 rintro _ n8 ⟨n9, o0, o1, g2, rfl, d8, g3, l8⟩
 have h0 := h0.ext d8
 have a0 := a0.cn d8
 have a1 := a1.ext d8
 have a7 := a7.ext d8
 have hC := hC.ext d8
 have hO := Own.join0 hO d8 l8
 have hO := hO.perm (R := g2 ++ (e2 ++ (a6 ++ (([a5]) ++ ([]))))) (by simp)
 obtain ⟨r60, l9, hs⟩ := bind_some hs
 refine pl_call Bd37 rfl (c_impl_DirectChain (M := (Less M g2)) (r57.1, r57.2) (((Frz.os (Frz.pr Frz.int (Frz.os Frz.int)))).val g3 Less.sub Less.not) hO.less.fut l9) ?_
 rintro _ i0 ⟨e9, f0, f1, i1, rfl, d2, d3, m0⟩
 have h0 := h0.ext d2
 have a0 := a0.cn d2
 have a1 := a1.ext d2
 have a7 := a7.ext d2
 have g3 := g3.ext d2
 have hC := hC.ext d2
 have hO := Own.join0 hO d2 m0
 have hO := hO.perm (R := i1 ++ (g2 ++ (e2 ++ (a6 ++ (([a5]) ++ ([])))))) (by simp)
 have d3 := d3.free (M' := M) (Free.os (Free.pr Free.int (Free.os Free.int)))
 refine pl_val (.tuple #[(.slice e9 f0 f1), (.bool r60.2)]) (y_move rfl) ?_
 refine pl_val (.slice e9 f0 f1) (y_extract rfl (by kernel_rfl)) ?_
 refine pl_val (.bool r60.2) (y_extract rfl (by kernel_rfl)) ?_
 refine pl_val (.slice e9 f0 f1) (y_assign rfl) ?_
 refine pl_val (.bool r60.2) (y_assign rfl) ?_
 refine c_nil ?_
 have hO := hO.fr1
 have hO := hO.drop
 have hO := hO.fr3
 have hO := hO.drop
 refine c_seq ?_
 refine c_seq ?_
 obtain ⟨s62, m1, hs⟩ := bind_some hs
 refine c_mid (I := fun a i2 => ∃ (σ : Nat → Value), a = fr 96 (ovl σ [(2, (.bool false)), (7, (.slice a9 b0 b1)), (10, (.int .i64 r51.1)), (11, (.int .i64 r53)), (87, (.bool s62))]) ∧ Chg [] i0 i2) ?_ ?_
 ·replace hs := m1
  have hMid := Chg.refl [] i0
  refine c_region ?_
  refine pl_val (.slice e9 f0 f1) (y_move rfl) ?_
  refine pl_val (.slice c0 c1 c2) (y_move rfl) ?_
  have hO := hO.fr2
  have hO := hO.fr1
  obtain ⟨r66, m2, hs⟩ := bind_some hs
  refine pl_call Bd15 rfl (c_laws_eqOpS (M := (Less (Less M i1) a6)) r60.1 r10.1 ((((Frz.os (Frz.pr Frz.int (Frz.os Frz.int)))).val d3 Less.sub Less.not).sub Less.sub) (((Frz.os (Frz.pr Frz.int (Frz.os Frz.int)))).val (a1.sub Less.sub) Less.sub Less.not) (hO.less).less.fut m2) ?_
  rintro _ o2 ⟨rfl, d9⟩
  have a1 := a1.ext d9
  have a7 := a7.ext d9
  have d3 := d3.ext d9
  have hMid := hMid.ext d9
  have hC := hC.ext d9
  have hO := hO.ext d9
  refine pl_val (.bool (!r66)) (y_not rfl) ?_
  refine pl_val (.bool (!r66)) (y_move rfl) ?_
  rcases bif_some hs with ⟨b9, hs⟩ | ⟨b9, hs⟩
  ·skip
   refine pl_not (tg := 83) (by kernel_rfl) (congrArg Value.bool b9) ?_
   refine pl_not (tg := 83) (by kernel_rfl) (congrArg Value.bool b9) ?_
   refine pl_not (tg := 83) (by kernel_rfl) (congrArg Value.bool b9) ?_
   refine pl_val (.bool true) (y_pick_t (congrArg Value.bool b9) rfl) ?_
   refine c_nil ?_
   have hO := hO.drop
   have hO := hO.drop
   cases hs
   exact ⟨_, fr_ovl 96 ⟨rfl, rfl, rfl, rfl, rfl, trivial⟩, hMid⟩
  refine pl_yes (.bool r60.2) (tg := 83) (by kernel_rfl) (congrArg Value.bool b9) (y_move rfl) ?_
  refine pl_yes (.bool r10.2) (tg := 83) (by kernel_rfl) (congrArg Value.bool b9) (y_move rfl) ?_
  refine pl_yes (.bool (!(r60.2 == r10.2))) (tg := 83) (by kernel_rfl) (congrArg Value.bool b9) (y_bneq Try.underlying4 rfl rfl) ?_
  refine pl_val (.bool (!(r60.2 == r10.2))) (y_pick_f (congrArg Value.bool b9) rfl) ?_
  refine c_nil ?_
  have hO := hO.drop
  have hO := hO.drop
  cases hs
  exact ⟨_, fr_ovl 96 ⟨rfl, rfl, rfl, rfl, rfl, trivial⟩, hMid⟩
 rintro h4 i2 ⟨σ, rfl, e4⟩
 have a1 := a1.ext e4
 have a7 := a7.ext e4
 have d3 := d3.ext e4
 have hC := hC.ext e4
 have hO := hO.ext e4
 rcases bif_some hs with ⟨g4, hs⟩ | ⟨g4, hs⟩
 ·refine c_condT (congrArg Value.bool g4) ?_
  refine c_sr ?_
  refine pl_val (.bool false) (y_assign rfl) ?_
  refine c_nil ?_
  have hO := hO.drop
  have hO := hO.fr1
  have hO := hO.drop
  refine wp_ret ?_
  cases hs
  exact ⟨_, fr_ovl 96 ⟨rfl, trivial⟩, hC⟩
 refine c_condF (congrArg Value.bool g4) ?_
 refine wp_skip ?_
 refine c_sr ?_
 refine pl_val (.int .i64 1) (y_assign rfl) ?_
 refine c_nil ?_
 have hO := hO.drop
 have hO := hO.fr1
 have hO := hO.drop
 refine c_sr ?_
 refine pl_val (.slice a9 b0 b1) (y_move rfl) ?_
 refine pl_val (.int .i64 1) (y_move rfl) ?_
 obtain ⟨r70, m3, hs⟩ := bind_some hs
 refine pl_call Bd19 rfl (c_laws_heldOpS (M := (Less M e2)) r51.2 1 (((Frz.os (Frz.pr Frz.int (Frz.os Frz.int)))).val a7 Less.sub Less.not) hO.less.fut m3) ?_
 rintro _ o3 ⟨rfl, g5⟩
 have a7 := a7.ext g5
 have hC := hC.ext g5
 have hO := hO.ext g5
 refine pl_val (.int .i64 r70) (y_assign rfl) ?_
 refine c_nil ?_
 have hO := hO.drop
 refine c_seq ?_
 refine c_sr ?_
 refine pl_val (.int .i64 r70) (y_move rfl) ?_
 refine pl_val (.bool (decide (r70 < 0))) (y_lss rfl rfl) ?_
 refine c_nil ?_
 rcases bif_some hs with ⟨g6, hs⟩ | ⟨g6, hs⟩
 ·refine c_condT (congrArg Value.bool g6) ?_
  refine c_sr ?_
  refine pl_val (.bool false) (y_assign rfl) ?_
  refine c_nil ?_
  refine wp_ret ?_
  cases hs
  exact ⟨_, fr_ovl 96 ⟨rfl, trivial⟩, hC⟩
 refine c_condF (congrArg Value.bool g6) ?_
 refine wp_skip ?_
 refine c_seq ?_
 refine c_sr ?_
 refine pl_val (.int .i64 r70) (y_move rfl) ?_
 refine pl_val (.int .i64 r51.1) (y_move rfl) ?_
 refine pl_val (.bool (r70 != r51.1)) (y_neq rfl rfl) ?_
 refine c_nil ?_
 rcases bif_some hs with ⟨g7, hs⟩ | ⟨g7, hs⟩
 ·refine c_condT (congrArg Value.bool g7) ?_
  refine c_sr ?_
  refine pl_val (.bool false) (y_assign rfl) ?_
  refine c_nil ?_
  refine wp_ret ?_
  cases hs
  exact ⟨_, fr_ovl 96 ⟨rfl, trivial⟩, hC⟩
 refine c_condF (congrArg Value.bool g7) ?_
 refine wp_skip ?_
 refine c_sr ?_
 refine pl_val (.bool true) (y_assign rfl) ?_
 refine c_nil ?_
 refine wp_ret ?_
 cases hs
 exact ⟨_, fr_ovl 96 ⟨rfl, trivial⟩, hC⟩

end Go.Proofs
