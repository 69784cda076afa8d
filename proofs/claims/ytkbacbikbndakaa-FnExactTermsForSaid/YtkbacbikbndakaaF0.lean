/- What functions of the program compute, as plain functions, and that a call gives just that. Conditions: those named in each theorem. -/
import Derived.Test.YtkbacbikbndakaaGZip
import Derived.Test.YtkbacbikbndakaaRows
set_option linter.unusedVariables false
namespace Go.Proofs
open Go.G Go.RowKit
set_option maxRecDepth 100000

theorem Sl43 : SlT Try.prog 43 3 := Try.underlying43

def k_laws_szIntS (M : Nat → Prop) (w0 : World) (r : Int) (a : Act) (w : World) : Prop :=
  ∃ (σ : Nat → Value) , a = fr 12 (ovl σ [(4, (.int .i64 r))]) ∧ Chg [] w0 w
def s_laws_szIntS (a_ : List Int) (left : Int) : Option (Int) :=
  (bif (decide ((w64 (left - (a_.length : Int))) < 0)) then some (-1) else some (w64 (left - (a_.length : Int))))
set_option maxHeartbeats 4000000 in
theorem c_laws_szIntS {M : Nat → Prop} {w : World} {pa0 : Option Addr} {pn0 pc0 : Nat} (a_ : List Int) (left : Int) (h0 : (RT.rs ri).val M w (.slice pa0 pn0 pc0) a_ ([])) (hM : ∀ g, w.heap.size ≤ g → M g) {r : Int} (hs : s_laws_szIntS a_ left = some r) :
    Gives Try.prog 51 [(.slice pa0 pn0 pc0), (.int .i64 left)] w (fun v w' => v = (.int .i64 r) ∧ Chg [] w w') := by
 refine calls_fr Try.func51 rfl Try.ntmps51 (Nat.le_of_ble_eq_true rfl) ?_
 have hO := Own.start (N := Nw w []) hM Nw.fut
 have hC := Chg.refl [] w
 unfold s_laws_szIntS at hs
 refine wp_mono (Q := KPost (k_laws_szIntS M w r)) ?_ (fun e a a1 h => ?_)
 rotate_left
 ·cases e
  case ret =>
   obtain ⟨σ, rfl, hrest⟩ := h
   exact ret1x Try.results51 (res_tmp rfl) ⟨rfl, hrest⟩
  all_goals exact (h : False).elim
 refine c_sr (ai rfl (c_nil (c_sr (mi rfl (ms rfl (pl_val _ (y_len' Sl43 (rs_len h0) rfl) (pl_val (.int .i64 (w64 (left - (a_.length : Int)))) (y_sub rfl rfl) (ai rfl (c_nil (c_seq (c_sr (mi rfl (pl_val _ (y_lss rfl rfl) (c_nil ?_))))))))))))))
 rcases bif_some hs with ⟨a0, hs⟩ | ⟨a0, hs⟩
 ·refine c_condT (cb a0) (c_sr (ai rfl (c_nil (wp_ret ?_))))
  cases hs
  exact ⟨_, fr_ovl 12 ⟨rfl, trivial⟩, hC⟩
 refine c_condF (cb a0) (wp_skip (c_sr (mi rfl (ai rfl (c_nil (wp_ret ?_))))))
 cases hs
 exact ⟨_, fr_ovl 12 ⟨rfl, trivial⟩, hC⟩

theorem Fa86x1 : ∀ (a : Addr) (w : World), (Instr.fieldAt 86 (.pointer (some a)) 1).run Try.prog w = .ok (.pointer (some (a.add 1))) w := fun _ _ => by kernel_rfl

theorem Ag43 : AggT Try.prog 43 false := fun _ => by kernel_rfl

theorem Sz43 : SzT Try.prog 43 1 := ⟨_, rfl, rfl⟩

theorem Bd51 : Bodied Try.prog 51 := bodied Try.func51 (by kernel_rfl) rfl

def k_laws_szOp (M : Nat → Prop) (w0 : World) (r : Int) (a : Act) (w : World) : Prop :=
  ∃ (σ : Nat → Value) , a = fr 12 (ovl σ [(4, (.int .i64 r))]) ∧ Chg [] w0 w
def s_laws_szOp (a_ : Int × (List Int)) (left : Int) : Option (Int) :=
  (s_laws_szIntS a_.2 left).bind fun r4 =>
  (bif (decide (r4 < 0)) then some (-1) else some r4)
set_option maxHeartbeats 4000000 in
theorem c_laws_szOp {M : Nat → Prop} {w : World} {pa0 : Option Addr} {pn0 pc0 : Nat} (a_ : Int × (List Int)) (left : Int) (h0 : (RT.rs ri).val M w (.slice pa0 pn0 pc0) a_.2 ([])) (hM : ∀ g, w.heap.size ≤ g → M g) {r : Int} (hs : s_laws_szOp a_ left = some r) :
    Gives Try.prog 64 [(.agg #[(.int .i64 a_.1), (.slice pa0 pn0 pc0)]), (.int .i64 left)] w (fun v w' => v = (.int .i64 r) ∧ Chg [] w w') := by
 refine calls_fr Try.func64 rfl Try.ntmps64 (Nat.le_of_ble_eq_true rfl) ?_
 have hO := Own.start (N := Nw w []) hM Nw.fut
 have hC := Chg.refl [] w
 unfold s_laws_szOp at hs
 refine wp_mono (Q := KPost (k_laws_szOp M w r)) ?_ (fun e a a9 h => ?_)
 rotate_left
 ·cases e
  case ret =>
   obtain ⟨σ, rfl, hrest⟩ := h
   exact ret1x Try.results64 (res_tmp rfl) ⟨rfl, hrest⟩
  all_goals exact (h : False).elim
 refine c_sr ?_
 obtain ⟨a6, a4, a7, a5, a2, a0⟩ := new_block w [(.int .i64 a_.1), (.slice pa0 pn0 pc0)] 86
 refine pl_val (w' := a6) (pq a4 0) (y_box rfl (by rw [a7, a5]; kernel_rfl)) ?_
 have h0 := h0.ext a2
 have hC := hC.ext a2
 have hO := hO.new1 a2 a5 a0.lt
 refine ai rfl (c_nil (c_sr (pl_val (pq a4 1) (y_faddr rfl Fa86x1) (pl_val (.slice pa0 pn0 pc0) (y_load rfl ((box_load Ag43 Sz43 a0 [(.int .i64 a_.1)] [(.slice pa0 pn0 pc0)] [] rfl rfl (fun _ => rfl)) _ (Chg.refl _ _))) (mi rfl ?_)))))
 obtain ⟨r4, a8, hs⟩ := bind_some hs
 refine pl_call Bd51 rfl (c_laws_szIntS (M := M) a_.2 left h0 hO.fut a8) ?_
 rintro _ b0 ⟨rfl, a1⟩
 have h0 := h0.ext a1
 have a0 := a0.cn a1
 have hC := hC.ext a1
 have hO := hO.ext a1
 refine ai rfl (c_nil ?_)
 have hO := hO.drop
 refine c_seq (c_sr (mi rfl (pl_val _ (y_lss rfl rfl) (c_nil ?_))))
 rcases bif_some hs with ⟨a3, hs⟩ | ⟨a3, hs⟩
 ·refine c_condT (cb a3) (c_sr (ai rfl (c_nil (wp_ret ?_))))
  cases hs
  exact ⟨_, fr_ovl 12 ⟨rfl, trivial⟩, hC⟩
 refine c_condF (cb a3) (wp_skip (c_sr (mi rfl (ai rfl (c_nil (wp_ret ?_))))))
 cases hs
 exact ⟨_, fr_ovl 12 ⟨rfl, trivial⟩, hC⟩

theorem Sl22 : SlT Try.prog 22 86 := Try.underlying22

theorem Sz86 : SzT Try.prog 86 2 := ⟨_, rfl, rfl⟩

theorem Ag86 : AggT Try.prog 86 true := fun _ => by kernel_rfl

theorem Bd64 : Bodied Try.prog 64 := bodied Try.func64 (by kernel_rfl) rfl

def k_laws_szOpS (M : Nat → Prop) (w0 : World) (r : Int) (a : Act) (w : World) : Prop :=
  ∃ (σ : Nat → Value) , a = fr 27 (ovl σ [(4, (.int .i64 r))]) ∧ Chg [] w0 w
def s_laws_szOpS (a_ : List (Int × (List Int))) (left : Int) : Option (Int) :=
  (bif (decide ((w64 (left - (a_.length : Int))) < 0)) then some (-1) else (forC (S := Int) (R := Int) (fun k12 s10 =>
  (idx a_ k12).bind fun x16 =>
  (s_laws_szOp (x16.1, x16.2) s10).bind fun r21 =>
  (bif (decide (r21 < 0)) then some (.rt (-1)) else some (.nx r21))) 0 (a_.length : Int) (w64 (left - (a_.length : Int)))).bind fun o14 => after o14 (fun r_ => some r_) (fun s10 =>
  some s10))
set_option maxHeartbeats 4000000 in
theorem c_laws_szOpS {M : Nat → Prop} {w : World} {pa0 : Option Addr} {pn0 pc0 : Nat} (a_ : List (Int × (List Int))) (left : Int) (h0 : (RT.rs (RT.pr ri (RT.rs ri))).val M w (.slice pa0 pn0 pc0) a_ ([])) (hM : ∀ g, w.heap.size ≤ g → M g) {r : Int} (hs : s_laws_szOpS a_ left = some r) :
    Gives Try.prog 34 [(.slice pa0 pn0 pc0), (.int .i64 left)] w (fun v w' => v = (.int .i64 r) ∧ Chg [] w w') := by
 refine calls_fr Try.func34 rfl Try.ntmps34 (Nat.le_of_ble_eq_true rfl) ?_
 have hO := Own.start (N := Nw w []) hM Nw.fut
 have hC := Chg.refl [] w
 unfold s_laws_szOpS at hs
 refine wp_mono (Q := KPost (k_laws_szOpS M w r)) ?_ (fun e a a6 h => ?_)
 rotate_left
 ·cases e
  case ret =>
   obtain ⟨σ, rfl, hrest⟩ := h
   exact ret1x Try.results34 (res_tmp rfl) ⟨rfl, hrest⟩
  all_goals exact (h : False).elim
 refine c_sr (ai rfl (c_nil (c_sr (mi rfl (ms rfl (pl_val _ (y_len' Sl22 (rs_len h0) rfl) (pl_val (.int .i64 (w64 (left - (a_.length : Int)))) (y_sub rfl rfl) (ai rfl (c_nil (c_seq (c_sr (mi rfl (pl_val _ (y_lss rfl rfl) (c_nil ?_))))))))))))))
 rcases bif_some hs with ⟨a2, hs⟩ | ⟨a2, hs⟩
 ·refine c_condT (cb a2) (c_sr (ai rfl (c_nil (wp_ret ?_))))
  cases hs
  exact ⟨_, fr_ovl 27 ⟨rfl, trivial⟩, hC⟩
 refine c_condF (cb a2) (wp_skip (c_seq (c_sr (ai rfl (c_nil ?_)))))
 obtain ⟨o14, a7, hs⟩ := bind_some hs
 refine wp_block (wp_forC (id := 0) (a_.length : Int) (I := fun k12 s10 a a0 => ∃ (σ : Nat → Value), a = fr 27 (ovl σ [(0, (.slice pa0 pn0 pc0)), (1, (.int .i64 s10)), (5, (.int .i64 k12))]) ∧ Chg [] w a0 ∧ Own (Nw w []) M a0 ([]) ∧ (RT.rs (RT.pr ri (RT.rs ri))).val M a0 (.slice pa0 pn0 pc0) a_ ([])) (J := fun s10 a a0 => ∃ (σ : Nat → Value), a = fr 27 (ovl σ [(1, (.int .i64 s10))]) ∧ Chg [] w a0 ∧ Own (Nw w []) M a0 ([]) ∧ (RT.rs (RT.pr ri (RT.rs ri))).val M a0 (.slice pa0 pn0 pc0) a_ ([])) (K := (k_laws_szOpS M w)) ?_ ?_ 0 (w64 (left - (a_.length : Int))) o14 _ _ ?_ a7 ?_)
 ·rintro k12 s10 a a0 ⟨σ, rfl, hC, hO, h0⟩ hlt
  refine c_seq (c_sr (mi rfl (ms rfl (pl_val _ (y_len' Sl22 (rs_len h0) rfl) (pl_val _ (y_lss rfl rfl) (c_nil (c_condF (cb (decide_eq_false hlt)) (wp_exit ?_))))))))
  exact ⟨rfl, _, fr_ovl 27 ⟨rfl, trivial⟩, hC, hO, h0⟩
 ·rintro k12 s10 o14 a a0 ⟨σ, rfl, hC, hO, h0⟩ hlt hw hs
  refine c_seq (c_sr (mi rfl (ms rfl (pl_val _ (y_len' Sl22 (rs_len h0) rfl) (pl_val _ (y_lss rfl rfl) (c_nil (c_condT (cb (decide_eq_true hlt)) (wp_skip (c_seq (wp_block (c_sr (ms rfl (mi rfl ?_)))))))))))))
  obtain ⟨x16, a8, hs⟩ := bind_some hs
  obtain ⟨a9, b0, b1, a3⟩ := rs_idx Sl22 Sz86 h0 a8
  refine pl_val _ (b1 _ _ _ _ _ _ _ _ _ rfl rfl) ?_
  obtain ⟨c2, b2, b3⟩ := at_load Ag86 Sz86 (by intro h; cases h) a3
  obtain ⟨c3, rfl, b4⟩ := b3
  obtain ⟨c4, c5, rfl, b5, b6⟩ := pr_open b4
  obtain rfl := int_rel b5
  obtain ⟨b7, b8, b9, rfl, a4⟩ := rs_rel b6
  refine pl_val (.agg #[(.int .i64 x16.1), (.slice b7 b8 b9)]) (y_load rfl (b2 _ (Chg.refl _ _))) (mi rfl ?_)
  obtain ⟨r21, c0, hs⟩ := bind_some hs
  refine pl_call Bd64 rfl (c_laws_szOp (M := M) (x16.1, x16.2) s10 a4 hO.fut c0) ?_
  rintro _ c6 ⟨rfl, a1⟩
  have h0 := h0.ext a1
  have a4 := a4.ext a1
  have a3 := at_ext a3 a1
  have hC := hC.ext a1
  have hO := hO.ext a1
  refine ai rfl (c_nil (c_sr (mi rfl (pl_val _ (y_lss rfl rfl) (c_nil ?_)))))
  rcases bif_some hs with ⟨a5, hs⟩ | ⟨a5, hs⟩
  ·refine c_condT (cb a5) (c_sr (ai rfl (c_nil (wp_ret ?_))))
   cases hs
   exact ⟨_, fr_ovl 27 ⟨rfl, trivial⟩, hC⟩
  refine c_condF (cb a5) (wp_skip (c_region (mi rfl (pl_val (.int .i64 (w64 (k12 + 1))) (y_add rfl rfl) (ai rfl (c_nil ?_))))))
  cases hs
  exact ⟨_, fr_ovl 27 ⟨rfl, rfl, congrArg (Value.int .i64) hw, trivial⟩, hC, hO, h0⟩
 ·skip
  exact ⟨_, fr_ovl 27 ⟨rfl, rfl, rfl, trivial⟩, hC, hO, h0⟩
 cases o14 with
 | nx _ => exact True.intro
 | rt r_ =>
  have hs := after_rt hs
  intro c1 a6 hK
  cases hs
  exact hK
 | br s10 =>
  have hs := after_br hs
  rintro c1 a0 ⟨σ, rfl, hC, hO, h0⟩
  refine c_sr (mi rfl (ai rfl (c_nil (wp_ret ?_))))
  cases hs
  exact ⟨_, fr_ovl 27 ⟨rfl, trivial⟩, hC⟩

theorem Fa24x1 : ∀ (a : Addr) (w : World), (Instr.fieldAt 24 (.pointer (some a)) 1).run Try.prog w = .ok (.pointer (some (a.add 1))) w := fun _ _ => by kernel_rfl

theorem Ag22 : AggT Try.prog 22 false := fun _ => by kernel_rfl

theorem Sz22 : SzT Try.prog 22 1 := ⟨_, rfl, rfl⟩

theorem Bd34 : Bodied Try.prog 34 := bodied Try.func34 (by kernel_rfl) rfl

def k_laws_szAlgebra (M : Nat → Prop) (w0 : World) (r : Int) (a : Act) (w : World) : Prop :=
  ∃ (σ : Nat → Value) , a = fr 12 (ovl σ [(4, (.int .i64 r))]) ∧ Chg [] w0 w
def s_laws_szAlgebra (a_ : Int × (List (Int × (List Int)))) (left : Int) : Option (Int) :=
  (s_laws_szOpS a_.2 left).bind fun r4 =>
  (bif (decide (r4 < 0)) then some (-1) else some r4)
set_option maxHeartbeats 4000000 in
theorem c_laws_szAlgebra {M : Nat → Prop} {w : World} {pa0 : Option Addr} {pn0 pc0 : Nat} (a_ : Int × (List (Int × (List Int)))) (left : Int) (h0 : (RT.rs (RT.pr ri (RT.rs ri))).val M w (.slice pa0 pn0 pc0) a_.2 ([])) (hM : ∀ g, w.heap.size ≤ g → M g) {r : Int} (hs : s_laws_szAlgebra a_ left = some r) :
    Gives Try.prog 8 [(.agg #[(.int .i64 a_.1), (.slice pa0 pn0 pc0)]), (.int .i64 left)] w (fun v w' => v = (.int .i64 r) ∧ Chg [] w w') := by
 refine calls_fr Try.func8 rfl Try.ntmps8 (Nat.le_of_ble_eq_true rfl) ?_
 have hO := Own.start (N := Nw w []) hM Nw.fut
 have hC := Chg.refl [] w
 unfold s_laws_szAlgebra at hs
 refine wp_mono (Q := KPost (k_laws_szAlgebra M w r)) ?_ (fun e a a9 h => ?_)
 rotate_left
 ·cases e
  case ret =>
   obtain ⟨σ, rfl, hrest⟩ := h
   exact ret1x Try.results8 (res_tmp rfl) ⟨rfl, hrest⟩
  all_goals exact (h : False).elim
 refine c_sr ?_
 obtain ⟨a6, a4, a7, a5, a2, a0⟩ := new_block w [(.int .i64 a_.1), (.slice pa0 pn0 pc0)] 24
 refine pl_val (w' := a6) (pq a4 0) (y_box rfl (by rw [a7, a5]; kernel_rfl)) ?_
 have h0 := h0.ext a2
 have hC := hC.ext a2
 have hO := hO.new1 a2 a5 a0.lt
 refine ai rfl (c_nil (c_sr (pl_val (pq a4 1) (y_faddr rfl Fa24x1) (pl_val (.slice pa0 pn0 pc0) (y_load rfl ((box_load Ag22 Sz22 a0 [(.int .i64 a_.1)] [(.slice pa0 pn0 pc0)] [] rfl rfl (fun _ => rfl)) _ (Chg.refl _ _))) (mi rfl ?_)))))
 obtain ⟨r4, a8, hs⟩ := bind_some hs
 refine pl_call Bd34 rfl (c_laws_szOpS (M := M) a_.2 left h0 hO.fut a8) ?_
 rintro _ b0 ⟨rfl, a1⟩
 have h0 := h0.ext a1
 have a0 := a0.cn a1
 have hC := hC.ext a1
 have hO := hO.ext a1
 refine ai rfl (c_nil ?_)
 have hO := hO.drop
 refine c_seq (c_sr (mi rfl (pl_val _ (y_lss rfl rfl) (c_nil ?_))))
 rcases bif_some hs with ⟨a3, hs⟩ | ⟨a3, hs⟩
 ·refine c_condT (cb a3) (c_sr (ai rfl (c_nil (wp_ret ?_))))
  cases hs
  exact ⟨_, fr_ovl 12 ⟨rfl, trivial⟩, hC⟩
 refine c_condF (cb a3) (wp_skip (c_sr (mi rfl (ai rfl (c_nil (wp_ret ?_))))))
 cases hs
 exact ⟨_, fr_ovl 12 ⟨rfl, trivial⟩, hC⟩

theorem Sl25 : SlT Try.prog 25 43 := Try.underlying25

def k_laws_szIntSS (M : Nat → Prop) (w0 : World) (r : Int) (a : Act) (w : World) : Prop :=
  ∃ (σ : Nat → Value) , a = fr 27 (ovl σ [(4, (.int .i64 r))]) ∧ Chg [] w0 w
def s_laws_szIntSS (a_ : List (List Int)) (left : Int) : Option (Int) :=
  (bif (decide ((w64 (left - (a_.length : Int))) < 0)) then some (-1) else (forC (S := Int) (R := Int) (fun k12 s10 =>
  (idx a_ k12).bind fun x16 =>
  (s_laws_szIntS x16 s10).bind fun r21 =>
  (bif (decide (r21 < 0)) then some (.rt (-1)) else some (.nx r21))) 0 (a_.length : Int) (w64 (left - (a_.length : Int)))).bind fun o14 => after o14 (fun r_ => some r_) (fun s10 =>
  some s10))
set_option maxHeartbeats 4000000 in
theorem c_laws_szIntSS {M : Nat → Prop} {w : World} {pa0 : Option Addr} {pn0 pc0 : Nat} (a_ : List (List Int)) (left : Int) (h0 : (RT.rs (RT.rs ri)).val M w (.slice pa0 pn0 pc0) a_ ([])) (hM : ∀ g, w.heap.size ≤ g → M g) {r : Int} (hs : s_laws_szIntSS a_ left = some r) :
    Gives Try.prog 25 [(.slice pa0 pn0 pc0), (.int .i64 left)] w (fun v w' => v = (.int .i64 r) ∧ Chg [] w w') := by
 refine calls_fr Try.func25 rfl Try.ntmps25 (Nat.le_of_ble_eq_true rfl) ?_
 have hO := Own.start (N := Nw w []) hM Nw.fut
 have hC := Chg.refl [] w
 unfold s_laws_szIntSS at hs
 refine wp_mono (Q := KPost (k_laws_szIntSS M w r)) ?_ (fun e a a6 h => ?_)
 rotate_left
 ·cases e
  case ret =>
   obtain ⟨σ, rfl, hrest⟩ := h
   exact ret1x Try.results25 (res_tmp rfl) ⟨rfl, hrest⟩
  all_goals exact (h : False).elim
 refine c_sr (ai rfl (c_nil (c_sr (mi rfl (ms rfl (pl_val _ (y_len' Sl25 (rs_len h0) rfl) (pl_val (.int .i64 (w64 (left - (a_.length : Int)))) (y_sub rfl rfl) (ai rfl (c_nil (c_seq (c_sr (mi rfl (pl_val _ (y_lss rfl rfl) (c_nil ?_))))))))))))))
 rcases bif_some hs with ⟨a3, hs⟩ | ⟨a3, hs⟩
 ·refine c_condT (cb a3) (c_sr (ai rfl (c_nil (wp_ret ?_))))
  cases hs
  exact ⟨_, fr_ovl 27 ⟨rfl, trivial⟩, hC⟩
 refine c_condF (cb a3) (wp_skip (c_seq (c_sr (ai rfl (c_nil ?_)))))
 obtain ⟨o14, a7, hs⟩ := bind_some hs
 refine wp_block (wp_forC (id := 0) (a_.length : Int) (I := fun k12 s10 a a0 => ∃ (σ : Nat → Value), a = fr 27 (ovl σ [(0, (.slice pa0 pn0 pc0)), (1, (.int .i64 s10)), (5, (.int .i64 k12))]) ∧ Chg [] w a0 ∧ Own (Nw w []) M a0 ([]) ∧ (RT.rs (RT.rs ri)).val M a0 (.slice pa0 pn0 pc0) a_ ([])) (J := fun s10 a a0 => ∃ (σ : Nat → Value), a = fr 27 (ovl σ [(1, (.int .i64 s10))]) ∧ Chg [] w a0 ∧ Own (Nw w []) M a0 ([]) ∧ (RT.rs (RT.rs ri)).val M a0 (.slice pa0 pn0 pc0) a_ ([])) (K := (k_laws_szIntSS M w)) ?_ ?_ 0 (w64 (left - (a_.length : Int))) o14 _ _ ?_ a7 ?_)
 ·rintro k12 s10 a a0 ⟨σ, rfl, hC, hO, h0⟩ hlt
  refine c_seq (c_sr (mi rfl (ms rfl (pl_val _ (y_len' Sl25 (rs_len h0) rfl) (pl_val _ (y_lss rfl rfl) (c_nil (c_condF (cb (decide_eq_false hlt)) (wp_exit ?_))))))))
  exact ⟨rfl, _, fr_ovl 27 ⟨rfl, trivial⟩, hC, hO, h0⟩
 ·rintro k12 s10 o14 a a0 ⟨σ, rfl, hC, hO, h0⟩ hlt hw hs
  refine c_seq (c_sr (mi rfl (ms rfl (pl_val _ (y_len' Sl25 (rs_len h0) rfl) (pl_val _ (y_lss rfl rfl) (c_nil (c_condT (cb (decide_eq_true hlt)) (wp_skip (c_seq (wp_block (c_sr (ms rfl (mi rfl ?_)))))))))))))
  obtain ⟨x16, a8, hs⟩ := bind_some hs
  obtain ⟨a9, b0, b1, a4⟩ := rs_idx Sl25 Sz43 h0 a8
  refine pl_val _ (b1 _ _ _ _ _ _ _ _ _ rfl rfl) ?_
  obtain ⟨b8, b2, a2⟩ := at_load Ag43 Sz43 (fun _ => rfl) a4
  obtain ⟨b3, b4, b5, rfl⟩ := rs_sl a2
  refine pl_val (.slice b3 b4 b5) (y_load rfl (b2 _ (Chg.refl _ _))) (mi rfl ?_)
  obtain ⟨r21, b6, hs⟩ := bind_some hs
  refine pl_call Bd51 rfl (c_laws_szIntS (M := M) x16 s10 a2 hO.fut b6) ?_
  rintro _ b9 ⟨rfl, a1⟩
  have h0 := h0.ext a1
  have a2 := a2.ext a1
  have a4 := at_ext a4 a1
  have hC := hC.ext a1
  have hO := hO.ext a1
  refine ai rfl (c_nil (c_sr (mi rfl (pl_val _ (y_lss rfl rfl) (c_nil ?_)))))
  rcases bif_some hs with ⟨a5, hs⟩ | ⟨a5, hs⟩
  ·refine c_condT (cb a5) (c_sr (ai rfl (c_nil (wp_ret ?_))))
   cases hs
   exact ⟨_, fr_ovl 27 ⟨rfl, trivial⟩, hC⟩
  refine c_condF (cb a5) (wp_skip (c_region (mi rfl (pl_val (.int .i64 (w64 (k12 + 1))) (y_add rfl rfl) (ai rfl (c_nil ?_))))))
  cases hs
  exact ⟨_, fr_ovl 27 ⟨rfl, rfl, congrArg (Value.int .i64) hw, trivial⟩, hC, hO, h0⟩
 ·skip
  exact ⟨_, fr_ovl 27 ⟨rfl, rfl, rfl, trivial⟩, hC, hO, h0⟩
 cases o14 with
 | nx _ => exact True.intro
 | rt r_ =>
  have hs := after_rt hs
  intro b7 a6 hK
  cases hs
  exact hK
 | br s10 =>
  have hs := after_br hs
  rintro b7 a0 ⟨σ, rfl, hC, hO, h0⟩
  refine c_sr (mi rfl (ai rfl (c_nil (wp_ret ?_))))
  cases hs
  exact ⟨_, fr_ovl 27 ⟨rfl, trivial⟩, hC⟩

theorem Rw43 : RowT Try.prog 43 3 1 [(.int .i64 0)] := ⟨Try.underlying43, ⟨_, _, rfl, rfl, rfl, rfl, by decide⟩, rfl, by decide⟩

theorem Sz3 : SzT Try.prog 3 1 := ⟨_, rfl, rfl⟩

theorem Ag3 : AggT Try.prog 3 false := fun _ => by kernel_rfl

def k_laws_toIntS (M : Nat → Prop) (w0 : World) (r : (List Int)) (a : Act) (w : World) : Prop :=
  ∃ (σ : Nat → Value) (ra0 : Option Addr) (rn0 rc0 : Nat) (rf0 : List Nat), a = fr 22 (ovl σ [(2, (.slice ra0 rn0 rc0))]) ∧ Chg [] w0 w ∧ (RT.os 3 (RT.int .i64)).val M w (.slice ra0 rn0 rc0) r rf0 ∧ Own (Nw w0 []) (fun _ => True) w (rf0 ++ ([]))
def s_laws_toIntS (a_ : List Int) : Option ((List Int)) :=
  (mks (a_.length : Int) (0 : Int)).bind fun y3 =>
  (forC (S := (List Int)) (R := (List Int)) (fun k18 s16 =>
  (idx a_ k18).bind fun x24 =>
  (idx s16 k18).bind fun x26 =>
  some (.nx (List.set s16 (Int.toNat k18) x24))) 0 (a_.length : Int) y3).bind fun o20 => after o20 (fun r_ => some r_) (fun s16 =>
  some s16)
set_option maxHeartbeats 4000000 in
theorem c_laws_toIntS {M : Nat → Prop} {w : World} {pa0 : Option Addr} {pn0 pc0 : Nat} (a_ : List Int) (h0 : (RT.rs ri).val M w (.slice pa0 pn0 pc0) a_ ([])) (hM : ∀ g, w.heap.size ≤ g → M g) {r : (List Int)} (hs : s_laws_toIntS a_ = some r) :
    Gives Try.prog 20 [(.slice pa0 pn0 pc0)] w (fun v w' => ∃ (ra0 : Option Addr) (rn0 rc0 : Nat) (rf0 : List Nat), v = (.slice ra0 rn0 rc0) ∧ Chg [] w w' ∧ (RT.os 3 ri).val M w' (.slice ra0 rn0 rc0) r rf0 ∧ Own (Nw w []) (fun _ => True) w' (rf0 ++ ([]))) := by
 refine calls_fr Try.func20 rfl Try.ntmps20 (Nat.le_of_ble_eq_true rfl) ?_
 have hO := Own.start (N := Nw w []) hM Nw.fut
 have hC := Chg.refl [] w
 unfold s_laws_toIntS at hs
 refine wp_mono (Q := KPost (k_laws_toIntS M w r)) ?_ (fun e a b4 h => ?_)
 rotate_left
 ·cases e
  case ret =>
   obtain ⟨σ, ra0, rn0, rc0, rf0, rfl, hrest⟩ := h
   exact ret1x Try.results20 (res_tmp rfl) ⟨ra0, rn0, rc0, rf0, rfl, hrest⟩
  all_goals exact (h : False).elim
 refine c_sr (ax rfl (c_nil (c_sr (ms rfl (pl_val _ (y_len' Sl43 (rs_len h0) rfl) ?_)))))
 obtain ⟨y3, b5, hs⟩ := bind_some hs
 obtain ⟨a1, a2, a3, b6, b7, b8, a7, b9, a8⟩ := mk_os (M := M) (w := w) (r := ri) Rw43 b5 (fun _ _ => ⟨rfl, rfl⟩)
 refine pl_val (w' := b6) (.slice a1 a2 a3) (y_make rfl rfl b8) ?_
 have h0 := h0.ext a7
 have hC := hC.ext a7
 have hO := hO.new a7 b9 (os_nodup a8) a8.fpl
 refine ax rfl (c_nil (c_seq (c_sr (ai rfl (c_nil ?_)))))
 obtain ⟨o20, c0, hs⟩ := bind_some hs
 refine wp_block (wp_forC (id := 0) (a_.length : Int) (I := fun k18 s16 a a0 => ∃ (σ : Nat → Value) (a4 : List Nat), a = fr 22 (ovl σ [(0, (.slice pa0 pn0 pc0)), (3, (.slice a1 a2 a3)), (4, (.int .i64 k18))]) ∧ Chg [] w a0 ∧ Own (Nw w []) M a0 (a4 ++ []) ∧ (RT.rs ri).val M a0 (.slice pa0 pn0 pc0) a_ ([]) ∧ (RT.os 3 ri).val M a0 (.slice a1 a2 a3) s16 a4) (J := fun s16 a a0 => ∃ (σ : Nat → Value) (a6 : List Nat), a = fr 22 (ovl σ [(3, (.slice a1 a2 a3))]) ∧ Chg [] w a0 ∧ Own (Nw w []) M a0 (a6 ++ []) ∧ (RT.rs ri).val M a0 (.slice pa0 pn0 pc0) a_ ([]) ∧ (RT.os 3 ri).val M a0 (.slice a1 a2 a3) s16 a6) (K := (k_laws_toIntS M w)) ?_ ?_ 0 y3 o20 _ _ ?_ c0 ?_)
 ·rintro k18 s16 a a0 ⟨σ, a4, rfl, hC, hO, h0, a5⟩ hlt
  refine c_seq (c_sr (mi rfl (ms rfl (pl_val _ (y_len' Sl43 (rs_len h0) rfl) (pl_val _ (y_lss rfl rfl) (c_nil (c_condF (cb (decide_eq_false hlt)) (wp_exit ?_))))))))
  exact ⟨rfl, _, a4, fr_ovl 22 ⟨rfl, trivial⟩, hC, hO, h0, a5⟩
 ·rintro k18 s16 o20 a a0 ⟨σ, a4, rfl, hC, hO, h0, a5⟩ hlt hw hs
  refine c_seq (c_sr (mi rfl (ms rfl (pl_val _ (y_len' Sl43 (rs_len h0) rfl) (pl_val _ (y_lss rfl rfl) (c_nil (c_condT (cb (decide_eq_true hlt)) (wp_skip (c_seq (wp_block (c_region (ms rfl (mi rfl (ms rfl (mi rfl ?_)))))))))))))))
  obtain ⟨x24, c1, hs⟩ := bind_some hs
  obtain ⟨c2, c3, c4, c5⟩ := rs_idx Sl43 Sz3 h0 c1
  refine pl_val _ (c4 _ _ _ _ _ _ _ _ _ rfl rfl) (pl_val (.int .i64 x24) (y_load rfl ((at_load_int Ag3 Sz3 c5) _ (Chg.refl _ _))) ?_)
  obtain ⟨x26, c6, hs⟩ := bind_some hs
  obtain ⟨b1, d5, b2, c7, c8, d6, d7⟩ := os_idx Sl43 Sz3 a5 c6
  refine pl_val _ (c8 _ _ _ _ _ _ _ _ _ rfl rfl) ?_
  obtain ⟨c9, d0, d1, a9, d2, b0⟩ := os_store (P := Try.prog) (c' := [(.int .i64 x24)]) b2 a5 c7 (fun g hg => hO.inM g (os_block a5 g (by simpa using hg))) ⟨rfl, rfl⟩ List.nodup_nil (fun _ h => nomatch h) (fun _ h => .inl h)
  have b3 : ∀ q ∈ [b1], q ∈ a4 := fun q hq => os_block a5 q (by rw [b2]; exact hq)
  refine pl_skip (w' := c9) (ys_store rfl rfl (d1 _ _ rfl Sz3)) ?_
  have h0 := h0.mt a9 hO b3
  have hC := hC.st a9 hO b3
  have hO := hO.grow a9 (fun q hq => .inl ((d2 q hq).resolve_right (fun h => nomatch h))) (os_nodup b0) b0.fpl
  refine c_nil (c_region (mi rfl (pl_val (.int .i64 (w64 (k18 + 1))) (y_add rfl rfl) (ai rfl (c_nil ?_)))))
  cases hs
  exact ⟨_, d0, fr_ovl 22 ⟨rfl, rfl, congrArg (Value.int .i64) hw, trivial⟩, hC, hO, h0, b0⟩
 ·skip
  exact ⟨_, b7, fr_ovl 22 ⟨rfl, rfl, rfl, trivial⟩, hC, hO, h0, a8⟩
 cases o20 with
 | nx _ => exact True.intro
 | rt r_ =>
  have hs := after_rt hs
  intro d3 b4 hK
  cases hs
  exact hK
 | br s16 =>
  have hs := after_br hs
  rintro d3 a0 ⟨σ, a6, rfl, hC, hO, h0, d4⟩
  refine c_sr (ms rfl (ax rfl (c_nil (wp_ret ?_))))
  cases hs
  exact ⟨_, a1, a2, a3, a6, fr_ovl 22 ⟨rfl, trivial⟩, hC, d4, hO.top⟩

theorem Ag89 : AggT Try.prog 89 true := fun _ => by kernel_rfl

theorem Sz89 : SzT Try.prog 89 2 := ⟨_, rfl, rfl⟩

theorem Fa86x0 : ∀ (a : Addr) (w : World), (Instr.fieldAt 86 (.pointer (some a)) 0).run Try.prog w = .ok (.pointer (some (a.add 0))) w := fun _ _ => by kernel_rfl

theorem Fa89x0 : ∀ (a : Addr) (w : World), (Instr.fieldAt 89 (.pointer (some a)) 0).run Try.prog w = .ok (.pointer (some (a.add 0))) w := fun _ _ => by kernel_rfl

theorem Bd20 : Bodied Try.prog 20 := bodied Try.func20 (by kernel_rfl) rfl

theorem Fa89x1 : ∀ (a : Addr) (w : World), (Instr.fieldAt 89 (.pointer (some a)) 1).run Try.prog w = .ok (.pointer (some (a.add 1))) w := fun _ _ => by kernel_rfl

def k_laws_toOp (M : Nat → Prop) (w0 : World) (r : (Int × (List Int))) (a : Act) (w : World) : Prop :=
  ∃ (σ : Nat → Value) (rg2 : Nat) (ra0 : Option Addr) (rn0 rc0 : Nat) (rf0 : List Nat), a = fr 12 (ovl σ [(2, (.pointer (some ⟨rg2, 0, none⟩)))]) ∧ BoxV w rg2 89 [(.int .i64 r.1), (.slice ra0 rn0 rc0)] ∧ Chg [] w0 w ∧ (RT.os 3 (RT.int .i64)).val M w (.slice ra0 rn0 rc0) r.2 rf0 ∧ Own (Nw w0 []) (fun _ => True) w (rf0 ++ ([]))
def s_laws_toOp (a_ : Int × (List Int)) : Option ((Int × (List Int))) :=
  (s_laws_toIntS a_.2).bind fun r7 =>
  some (a_.1, r7)
set_option maxHeartbeats 4000000 in
theorem c_laws_toOp {M : Nat → Prop} {w : World} {pa0 : Option Addr} {pn0 pc0 : Nat} (a_ : Int × (List Int)) (h0 : (RT.rs ri).val M w (.slice pa0 pn0 pc0) a_.2 ([])) (hM : ∀ g, w.heap.size ≤ g → M g) {r : (Int × (List Int))} (hs : s_laws_toOp a_ = some r) :
    Gives Try.prog 75 [(.agg #[(.int .i64 a_.1), (.slice pa0 pn0 pc0)])] w (fun v w' => ∃ (ra0 : Option Addr) (rn0 rc0 : Nat) (rf0 : List Nat), v = (.agg #[(.int .i64 r.1), (.slice ra0 rn0 rc0)]) ∧ Chg [] w w' ∧ (RT.os 3 ri).val M w' (.slice ra0 rn0 rc0) r.2 rf0 ∧ Own (Nw w []) (fun _ => True) w' (rf0 ++ ([]))) := by
 refine calls_fr Try.func75 rfl Try.ntmps75 (Nat.le_of_ble_eq_true rfl) ?_
 have hO := Own.start (N := Nw w []) hM Nw.fut
 have hC := Chg.refl [] w
 unfold s_laws_toOp at hs
 refine wp_mono (Q := KPost (k_laws_toOp M w r)) ?_ (fun e a d8 h => ?_)
 rotate_left
 ·cases e
  case ret =>
   obtain ⟨σ, rg2, ra0, rn0, rc0, rf0, rfl, hbrg2, hrest⟩ := h
   exact ret1x Try.results75 (res_cell rfl (box_load Ag89 Sz89 hbrg2 [] _ [] rfl rfl (fun h => nomatch h))) ⟨ra0, rn0, rc0, rf0, rfl, hrest⟩
  all_goals exact (h : False).elim
 refine c_sr ?_
 obtain ⟨b9, b3, c9, c0, b7, a0⟩ := new_block w [(.int .i64 a_.1), (.slice pa0 pn0 pc0)] 86
 refine pl_val (w' := b9) (pq b3 0) (y_box rfl (by rw [c9, c0]; kernel_rfl)) ?_
 have h0 := h0.ext b7
 have hC := hC.ext b7
 have hO := hO.new1 b7 c0 a0.lt
 obtain ⟨c1, b4, d0, c2, b5, a1⟩ := new_block b9 [(.int .i64 0), (.slice none 0 0)] 89
 refine pl_val (w' := c1) (pq b4 0) (y_alloc (by rw [d0, c2]; kernel_rfl)) ?_
 have h0 := h0.ext b5
 have a0 := a0.cn b5
 have hC := hC.ext b5
 have hO := hO.new1 b5 c2 a1.lt
 refine c_nil (c_sr ?_)
 obtain ⟨d1, a5, d2, c3, a8, c4⟩ := new_block c1 [(.int .i64 0), (.slice none 0 0)] 89
 refine pl_val (w' := d1) (pq a5 0) (y_alloc (by rw [d2, c3]; kernel_rfl)) ?_
 have h0 := h0.ext a8
 have a0 := a0.cn a8
 have a1 := a1.cn a8
 have hC := hC.ext a8
 have hO := hO.new1 a8 c3 c4.lt
 refine c_nil (c_sr (pl_val (pq b3 0) (y_faddr rfl Fa86x0) (pl_val (.int .i64 a_.1) (y_load rfl ((box_load Ag3 Sz3 a0 [] [(.int .i64 a_.1)] [(.slice pa0 pn0 pc0)] rfl rfl (fun _ => rfl)) _ (Chg.refl _ _))) (pl_val (pq a5 0) (y_faddr rfl Fa89x0) ?_))))
 obtain ⟨c5, d3, a9, b0⟩ := box_store (P := Try.prog) c4 [] [(.int .i64 0)] [(.slice none 0 0)] [(.int .i64 a_.1)] rfl rfl (by intro u hu; simp only [List.mem_cons, List.not_mem_nil, or_false] at hu; rcases hu with rfl <;> rfl)
 refine pl_skip (w' := c5) (ys_store rfl rfl (d3 _ _ rfl Sz3)) ?_
 have h0 := h0.mt a9 hO same_
 have a0 := a0.ap a9 hO same_ (mem_r (mem_l (List.mem_singleton.2 rfl)))
 have a1 := a1.ap a9 hO same_ (mem_l (List.mem_singleton.2 rfl))
 have hC := hC.st a9 hO same_
 have hO := hO.ext a9
 have b0 : BoxV c5 a5 89 [(.int .i64 a_.1), (.slice none 0 0)] := b0
 refine c_nil (c_sr (pl_val (pq b3 1) (y_faddr rfl Fa86x1) (pl_val (.slice pa0 pn0 pc0) (y_load rfl ((box_load Ag43 Sz43 a0 [(.int .i64 a_.1)] [(.slice pa0 pn0 pc0)] [] rfl rfl (fun _ => rfl)) _ (Chg.refl _ _))) ?_)))
 obtain ⟨r7, d4, hs⟩ := bind_some hs
 refine pl_call Bd20 rfl (c_laws_toIntS (M := M) a_.2 h0 hO.fut d4) ?_
 rintro _ d9 ⟨a2, a3, a4, c6, rfl, a6, b1, d5⟩
 have h0 := h0.ext a6
 have a0 := a0.cn a6
 have a1 := a1.cn a6
 have b0 := b0.cn a6
 have hC := hC.ext a6
 have hO := Own.join0 hO a6 d5
 have hO := hO.perm (R := c6 ++ (([a5]) ++ (([b4]) ++ (([b3]) ++ ([]))))) (by simp)
 refine pl_val (pq a5 1) (y_faddr rfl Fa89x1) ?_
 obtain ⟨c7, d6, a7, b2⟩ := box_store (P := Try.prog) b0 [(.int .i64 a_.1)] [(.slice none 0 0)] [] [(.slice a2 a3 a4)] rfl rfl (by intro u hu; simp only [List.mem_cons, List.not_mem_nil, or_false] at hu; rcases hu with rfl <;> rfl)
 refine pl_skip (w' := c7) (ys_store rfl rfl (d6 _ _ rfl Sz43)) ?_
 have hO := hO.fr1
 have h0 := h0.mt a7 hO same_
 have a0 := a0.ap a7 hO same_ (mem_r (mem_r (mem_l (List.mem_singleton.2 rfl))))
 have a1 := a1.ap a7 hO same_ (mem_r (mem_l (List.mem_singleton.2 rfl)))
 have b1 := b1.ma a7 hO same_ (fun _ e => (mem_l (e)))
 have hC := hC.st a7 hO same_
 have hO := hO.ext a7
 have b2 : BoxV c7 a5 89 [(.int .i64 a_.1), (.slice a2 a3 a4)] := b2
 refine c_nil ?_
 have hO := hO.fr3
 have hO := hO.drop
 refine c_sr (pl_val (.agg #[(.int .i64 a_.1), (.slice a2 a3 a4)]) (y_load rfl ((box_load Ag89 Sz89 b2 [] [(.int .i64 a_.1), (.slice a2 a3 a4)] [] rfl rfl (fun h => nomatch h)) _ (Chg.refl _ _))) ?_)
 obtain ⟨c8, d7, b6, b8⟩ := box_store (P := Try.prog) a1 [] [(.int .i64 0), (.slice none 0 0)] [] [(.int .i64 a_.1), (.slice a2 a3 a4)] rfl rfl (by intro u hu; simp only [List.mem_cons, List.not_mem_nil, or_false] at hu; rcases hu with rfl | rfl <;> rfl)
 refine pl_skip (w' := c8) (ys_store rfl rfl (d7 _ _ rfl Sz89)) ?_
 have hO := hO.fr2
 have b2 := b2.ap b6 hO same_ (mem_l (List.mem_singleton.2 rfl))
 have b1 := b1.ma b6 hO same_ (fun _ e => (mem_r (mem_l (e))))
 have hC := hC.st b6 hO same_
 have hO := hO.ext b6
 have b8 : BoxV c8 b4 89 [(.int .i64 a_.1), (.slice a2 a3 a4)] := b8
 refine c_nil ?_
 have hO := hO.fr1
 have hO := hO.drop
 refine wp_ret ?_
 cases hs
 have hO := hO.drop
 exact ⟨_, b4, a2, a3, a4, c6, fr_ovl 12 ⟨rfl, trivial⟩, b8, hC, b1, hO.top⟩

theorem Rw33 : RowT Try.prog 33 89 2 [(.int .i64 0), (.slice none 0 0)] := ⟨Try.underlying33, ⟨_, _, rfl, rfl, rfl, rfl, by decide⟩, rfl, by decide⟩

theorem Bd75 : Bodied Try.prog 75 := bodied Try.func75 (by kernel_rfl) rfl

theorem Sl33 : SlT Try.prog 33 89 := Try.underlying33

def k_laws_toOpS (M : Nat → Prop) (w0 : World) (r : (List (Int × (List Int)))) (a : Act) (w : World) : Prop :=
  ∃ (σ : Nat → Value) (ra0 : Option Addr) (rn0 rc0 : Nat) (rf0 : List Nat), a = fr 23 (ovl σ [(2, (.slice ra0 rn0 rc0))]) ∧ Chg [] w0 w ∧ (RT.os 89 (RT.pr (RT.int .i64) (RT.os 3 (RT.int .i64)))).val M w (.slice ra0 rn0 rc0) r rf0 ∧ Own (Nw w0 []) (fun _ => True) w (rf0 ++ ([]))
def s_laws_toOpS (a_ : List (Int × (List Int))) : Option ((List (Int × (List Int)))) :=
  (mks (a_.length : Int) ((0, []) : Int × (List Int))).bind fun y3 =>
  (forC (S := (List (Int × (List Int)))) (R := (List (Int × (List Int)))) (fun k28 s26 =>
  (idx a_ k28).bind fun x34 =>
  (s_laws_toOp (x34.1, x34.2)).bind fun r39 =>
  (idx s26 k28).bind fun x41 =>
  some (.nx (List.set s26 (Int.toNat k28) (r39.1, r39.2)))) 0 (a_.length : Int) y3).bind fun o30 => after o30 (fun r_ => some r_) (fun s26 =>
  some s26)
set_option maxHeartbeats 4000000 in
theorem c_laws_toOpS {M : Nat → Prop} {w : World} {pa0 : Option Addr} {pn0 pc0 : Nat} (a_ : List (Int × (List Int))) (h0 : (RT.rs (RT.pr ri (RT.rs ri))).val M w (.slice pa0 pn0 pc0) a_ ([])) (hM : ∀ g, w.heap.size ≤ g → M g) {r : (List (Int × (List Int)))} (hs : s_laws_toOpS a_ = some r) :
    Gives Try.prog 38 [(.slice pa0 pn0 pc0)] w (fun v w' => ∃ (ra0 : Option Addr) (rn0 rc0 : Nat) (rf0 : List Nat), v = (.slice ra0 rn0 rc0) ∧ Chg [] w w' ∧ (RT.os 89 (RT.pr ri (RT.os 3 ri))).val M w' (.slice ra0 rn0 rc0) r rf0 ∧ Own (Nw w []) (fun _ => True) w' (rf0 ++ ([]))) := by
 refine calls_fr Try.func38 rfl Try.ntmps38 (Nat.le_of_ble_eq_true rfl) ?_
 have hO := Own.start (N := Nw w []) hM Nw.fut
 have hC := Chg.refl [] w
 unfold s_laws_toOpS at hs
 refine wp_mono (Q := KPost (k_laws_toOpS M w r)) ?_ (fun e a b8 h => ?_)
 rotate_left
 ·cases e
  case ret =>
   obtain ⟨σ, ra0, rn0, rc0, rf0, rfl, hrest⟩ := h
   exact ret1x Try.results38 (res_tmp rfl) ⟨ra0, rn0, rc0, rf0, rfl, hrest⟩
  all_goals exact (h : False).elim
 refine c_sr (ax rfl (c_nil (c_sr (ms rfl (pl_val _ (y_len' Sl22 (rs_len h0) rfl) ?_)))))
 obtain ⟨y3, b9, hs⟩ := bind_some hs
 obtain ⟨a1, a2, a3, c0, c1, c2, b0, c3, b1⟩ := mk_os (M := M) (w := w) (r := (RT.pr ri (RT.os 3 ri))) Rw33 b9 (fun _ _ => ⟨_, _, [], [], rfl, rfl, ⟨rfl, rfl⟩, (os_unval os_nil)⟩)
 refine pl_val (w' := c0) (.slice a1 a2 a3) (y_make rfl rfl c2) ?_
 have h0 := h0.ext b0
 have hC := hC.ext b0
 have hO := hO.new b0 c3 (os_nodup b1) b1.fpl
 refine ax rfl (c_nil (c_seq (c_sr (ai rfl (c_nil ?_)))))
 obtain ⟨o30, c4, hs⟩ := bind_some hs
 refine wp_block (wp_forC (id := 0) (a_.length : Int) (I := fun k28 s26 a a0 => ∃ (σ : Nat → Value) (a4 : List Nat), a = fr 23 (ovl σ [(0, (.slice pa0 pn0 pc0)), (3, (.slice a1 a2 a3)), (4, (.int .i64 k28))]) ∧ Chg [] w a0 ∧ Own (Nw w []) M a0 (a4 ++ []) ∧ (RT.rs (RT.pr ri (RT.rs ri))).val M a0 (.slice pa0 pn0 pc0) a_ ([]) ∧ (RT.os 89 (RT.pr ri (RT.os 3 ri))).val M a0 (.slice a1 a2 a3) s26 a4) (J := fun s26 a a0 => ∃ (σ : Nat → Value) (a8 : List Nat), a = fr 23 (ovl σ [(3, (.slice a1 a2 a3))]) ∧ Chg [] w a0 ∧ Own (Nw w []) M a0 (a8 ++ []) ∧ (RT.rs (RT.pr ri (RT.rs ri))).val M a0 (.slice pa0 pn0 pc0) a_ ([]) ∧ (RT.os 89 (RT.pr ri (RT.os 3 ri))).val M a0 (.slice a1 a2 a3) s26 a8) (K := (k_laws_toOpS M w)) ?_ ?_ 0 y3 o30 _ _ ?_ c4 ?_)
 ·rintro k28 s26 a a0 ⟨σ, a4, rfl, hC, hO, h0, a5⟩ hlt
  refine c_seq (c_sr (mi rfl (ms rfl (pl_val _ (y_len' Sl22 (rs_len h0) rfl) (pl_val _ (y_lss rfl rfl) (c_nil (c_condF (cb (decide_eq_false hlt)) (wp_exit ?_))))))))
  exact ⟨rfl, _, a4, fr_ovl 23 ⟨rfl, trivial⟩, hC, hO, h0, a5⟩
 ·rintro k28 s26 o30 a a0 ⟨σ, a4, rfl, hC, hO, h0, a5⟩ hlt hw hs
  refine c_seq (c_sr (mi rfl (ms rfl (pl_val _ (y_len' Sl22 (rs_len h0) rfl) (pl_val _ (y_lss rfl rfl) (c_nil (c_condT (cb (decide_eq_true hlt)) (wp_skip (c_seq (wp_block (c_region (ms rfl (mi rfl (ms rfl (mi rfl ?_)))))))))))))))
  obtain ⟨x34, c5, hs⟩ := bind_some hs
  obtain ⟨c6, c7, c8, b2⟩ := rs_idx Sl22 Sz86 h0 c5
  refine pl_val _ (c8 _ _ _ _ _ _ _ _ _ rfl rfl) ?_
  obtain ⟨f4, c9, d0⟩ := at_load Ag86 Sz86 (by intro h; cases h) b2
  obtain ⟨f5, rfl, d1⟩ := d0
  obtain ⟨f6, f7, rfl, d2, d3⟩ := pr_open d1
  obtain rfl := int_rel d2
  obtain ⟨d4, d5, d6, rfl, a7⟩ := rs_rel d3
  refine pl_val (.agg #[(.int .i64 x34.1), (.slice d4 d5 d6)]) (y_load rfl (c9 _ (Chg.refl _ _))) ?_
  obtain ⟨r39, d7, hs⟩ := bind_some hs
  refine pl_call Bd75 rfl (c_laws_toOp (M := M) (x34.1, x34.2) a7 hO.fut d7) ?_
  rintro _ f8 ⟨d8, d9, e0, b3, rfl, a6, e1, e2⟩
  have h0 := h0.ext a6
  have a5 := a5.ext a6
  have a7 := a7.ext a6
  have b2 := at_ext b2 a6
  have hC := hC.ext a6
  have hO := Own.join0 hO a6 e2
  have hO := hO.perm (R := b3 ++ (a4 ++ ([]))) (by simp)
  obtain ⟨x41, e3, hs⟩ := bind_some hs
  obtain ⟨b6, f9, b7, e4, e5, e6, e7⟩ := os_idx Sl33 Sz89 a5 e3
  have g0 := own_row (Frz.pr Frz.int (Frz.os Frz.int)) e6 e7
  refine pl_val _ (e5 _ _ _ _ _ _ _ _ _ rfl rfl) ?_
  have hO := hO.fr1
  obtain ⟨e8, e9, f0, a9, f1, b4⟩ := os_store (P := Try.prog) (c' := [(.int .i64 r39.1), (.slice d8 d9 e0)]) b7 a5 e4 (fun g hg => hO.inM g (os_block a5 g (by simpa using hg))) ⟨_, _, _, _, rfl, rfl, ⟨rfl, rfl⟩, (os_unval e1)⟩ (hO.drop.perm (R := (([] : List Nat) ++ b3) ++ ([])) (by simp)).nd (fun g hg hq => hO.apart g hq (by simp only [List.mem_append, List.not_mem_nil, false_or, or_false] at hg ⊢; simp [hg])) (fun _ h => .inl h)
  have b5 : ∀ q ∈ [b6], q ∈ a4 := fun q hq => os_block a5 q (by rw [b7]; exact hq)
  refine pl_skip (w' := e8) (ys_store rfl rfl (f0 _ _ rfl Sz89)) ?_
  have hO := hO.fr1
  have hO := hO.fr1
  have h0 := h0.mt a9 hO b5
  have a7 := a7.mt a9 hO b5
  have hC := hC.st a9 hO b5
  have hO := hO.perm (R := a4 ++ ((([] : List Nat) ++ b3) ++ ([]))) (by simp)
  have hO := hO.eat a9 (fun q hq => (f1 q hq).elim .inl (fun h => .inr (.inl h))) (os_nodup b4) b4.fpl
  refine c_nil (c_region (mi rfl (pl_val (.int .i64 (w64 (k28 + 1))) (y_add rfl rfl) (ai rfl (c_nil ?_)))))
  cases hs
  exact ⟨_, e9, fr_ovl 23 ⟨rfl, rfl, congrArg (Value.int .i64) hw, trivial⟩, hC, hO, h0, b4⟩
 ·skip
  exact ⟨_, c1, fr_ovl 23 ⟨rfl, rfl, rfl, trivial⟩, hC, hO, h0, b1⟩
 cases o30 with
 | nx _ => exact True.intro
 | rt r_ =>
  have hs := after_rt hs
  intro f2 b8 hK
  cases hs
  exact hK
 | br s26 =>
  have hs := after_br hs
  rintro f2 a0 ⟨σ, a8, rfl, hC, hO, h0, f3⟩
  refine c_sr (ms rfl (ax rfl (c_nil (wp_ret ?_))))
  cases hs
  exact ⟨_, a1, a2, a3, a8, fr_ovl 23 ⟨rfl, trivial⟩, hC, f3, hO.top⟩

theorem Ag35 : AggT Try.prog 35 true := fun _ => by kernel_rfl

theorem Sz35 : SzT Try.prog 35 2 := ⟨_, rfl, rfl⟩

theorem Fa24x0 : ∀ (a : Addr) (w : World), (Instr.fieldAt 24 (.pointer (some a)) 0).run Try.prog w = .ok (.pointer (some (a.add 0))) w := fun _ _ => by kernel_rfl

theorem Fa35x0 : ∀ (a : Addr) (w : World), (Instr.fieldAt 35 (.pointer (some a)) 0).run Try.prog w = .ok (.pointer (some (a.add 0))) w := fun _ _ => by kernel_rfl

theorem Bd38 : Bodied Try.prog 38 := bodied Try.func38 (by kernel_rfl) rfl

theorem Fa35x1 : ∀ (a : Addr) (w : World), (Instr.fieldAt 35 (.pointer (some a)) 1).run Try.prog w = .ok (.pointer (some (a.add 1))) w := fun _ _ => by kernel_rfl

theorem Sz33 : SzT Try.prog 33 1 := ⟨_, rfl, rfl⟩

def k_laws_toAlgebra (M : Nat → Prop) (w0 : World) (r : (Int × (List (Int × (List Int))))) (a : Act) (w : World) : Prop :=
  ∃ (σ : Nat → Value) (rg2 : Nat) (ra0 : Option Addr) (rn0 rc0 : Nat) (rf0 : List Nat), a = fr 12 (ovl σ [(2, (.pointer (some ⟨rg2, 0, none⟩)))]) ∧ BoxV w rg2 35 [(.int .i64 r.1), (.slice ra0 rn0 rc0)] ∧ Chg [] w0 w ∧ (RT.os 89 (RT.pr (RT.int .i64) (RT.os 3 (RT.int .i64)))).val M w (.slice ra0 rn0 rc0) r.2 rf0 ∧ Own (Nw w0 []) (fun _ => True) w (rf0 ++ ([]))
def s_laws_toAlgebra (a_ : Int × (List (Int × (List Int)))) : Option ((Int × (List (Int × (List Int))))) :=
  (s_laws_toOpS a_.2).bind fun r7 =>
  some (a_.1, r7)
set_option maxHeartbeats 4000000 in
theorem c_laws_toAlgebra {M : Nat → Prop} {w : World} {pa0 : Option Addr} {pn0 pc0 : Nat} (a_ : Int × (List (Int × (List Int)))) (h0 : (RT.rs (RT.pr ri (RT.rs ri))).val M w (.slice pa0 pn0 pc0) a_.2 ([])) (hM : ∀ g, w.heap.size ≤ g → M g) {r : (Int × (List (Int × (List Int))))} (hs : s_laws_toAlgebra a_ = some r) :
    Gives Try.prog 11 [(.agg #[(.int .i64 a_.1), (.slice pa0 pn0 pc0)])] w (fun v w' => ∃ (ra0 : Option Addr) (rn0 rc0 : Nat) (rf0 : List Nat), v = (.agg #[(.int .i64 r.1), (.slice ra0 rn0 rc0)]) ∧ Chg [] w w' ∧ (RT.os 89 (RT.pr ri (RT.os 3 ri))).val M w' (.slice ra0 rn0 rc0) r.2 rf0 ∧ Own (Nw w []) (fun _ => True) w' (rf0 ++ ([]))) := by
 refine calls_fr Try.func11 rfl Try.ntmps11 (Nat.le_of_ble_eq_true rfl) ?_
 have hO := Own.start (N := Nw w []) hM Nw.fut
 have hC := Chg.refl [] w
 unfold s_laws_toAlgebra at hs
 refine wp_mono (Q := KPost (k_laws_toAlgebra M w r)) ?_ (fun e a d8 h => ?_)
 rotate_left
 ·cases e
  case ret =>
   obtain ⟨σ, rg2, ra0, rn0, rc0, rf0, rfl, hbrg2, hrest⟩ := h
   exact ret1x Try.results11 (res_cell rfl (box_load Ag35 Sz35 hbrg2 [] _ [] rfl rfl (fun h => nomatch h))) ⟨ra0, rn0, rc0, rf0, rfl, hrest⟩
  all_goals exact (h : False).elim
 refine c_sr ?_
 obtain ⟨b9, b3, c9, c0, b7, a0⟩ := new_block w [(.int .i64 a_.1), (.slice pa0 pn0 pc0)] 24
 refine pl_val (w' := b9) (pq b3 0) (y_box rfl (by rw [c9, c0]; kernel_rfl)) ?_
 have h0 := h0.ext b7
 have hC := hC.ext b7
 have hO := hO.new1 b7 c0 a0.lt
 obtain ⟨c1, b4, d0, c2, b5, a1⟩ := new_block b9 [(.int .i64 0), (.slice none 0 0)] 35
 refine pl_val (w' := c1) (pq b4 0) (y_alloc (by rw [d0, c2]; kernel_rfl)) ?_
 have h0 := h0.ext b5
 have a0 := a0.cn b5
 have hC := hC.ext b5
 have hO := hO.new1 b5 c2 a1.lt
 refine c_nil (c_sr ?_)
 obtain ⟨d1, a5, d2, c3, a8, c4⟩ := new_block c1 [(.int .i64 0), (.slice none 0 0)] 35
 refine pl_val (w' := d1) (pq a5 0) (y_alloc (by rw [d2, c3]; kernel_rfl)) ?_
 have h0 := h0.ext a8
 have a0 := a0.cn a8
 have a1 := a1.cn a8
 have hC := hC.ext a8
 have hO := hO.new1 a8 c3 c4.lt
 refine c_nil (c_sr (pl_val (pq b3 0) (y_faddr rfl Fa24x0) (pl_val (.int .i64 a_.1) (y_load rfl ((box_load Ag3 Sz3 a0 [] [(.int .i64 a_.1)] [(.slice pa0 pn0 pc0)] rfl rfl (fun _ => rfl)) _ (Chg.refl _ _))) (pl_val (pq a5 0) (y_faddr rfl Fa35x0) ?_))))
 obtain ⟨c5, d3, a9, b0⟩ := box_store (P := Try.prog) c4 [] [(.int .i64 0)] [(.slice none 0 0)] [(.int .i64 a_.1)] rfl rfl (by intro u hu; simp only [List.mem_cons, List.not_mem_nil, or_false] at hu; rcases hu with rfl <;> rfl)
 refine pl_skip (w' := c5) (ys_store rfl rfl (d3 _ _ rfl Sz3)) ?_
 have h0 := h0.mt a9 hO same_
 have a0 := a0.ap a9 hO same_ (mem_r (mem_l (List.mem_singleton.2 rfl)))
 have a1 := a1.ap a9 hO same_ (mem_l (List.mem_singleton.2 rfl))
 have hC := hC.st a9 hO same_
 have hO := hO.ext a9
 have b0 : BoxV c5 a5 35 [(.int .i64 a_.1), (.slice none 0 0)] := b0
 refine c_nil (c_sr (pl_val (pq b3 1) (y_faddr rfl Fa24x1) (pl_val (.slice pa0 pn0 pc0) (y_load rfl ((box_load Ag22 Sz22 a0 [(.int .i64 a_.1)] [(.slice pa0 pn0 pc0)] [] rfl rfl (fun _ => rfl)) _ (Chg.refl _ _))) ?_)))
 obtain ⟨r7, d4, hs⟩ := bind_some hs
 refine pl_call Bd38 rfl (c_laws_toOpS (M := M) a_.2 h0 hO.fut d4) ?_
 rintro _ d9 ⟨a2, a3, a4, c6, rfl, a6, b1, d5⟩
 have h0 := h0.ext a6
 have a0 := a0.cn a6
 have a1 := a1.cn a6
 have b0 := b0.cn a6
 have hC := hC.ext a6
 have hO := Own.join0 hO a6 d5
 have hO := hO.perm (R := c6 ++ (([a5]) ++ (([b4]) ++ (([b3]) ++ ([]))))) (by simp)
 refine pl_val (pq a5 1) (y_faddr rfl Fa35x1) ?_
 obtain ⟨c7, d6, a7, b2⟩ := box_store (P := Try.prog) b0 [(.int .i64 a_.1)] [(.slice none 0 0)] [] [(.slice a2 a3 a4)] rfl rfl (by intro u hu; simp only [List.mem_cons, List.not_mem_nil, or_false] at hu; rcases hu with rfl <;> rfl)
 refine pl_skip (w' := c7) (ys_store rfl rfl (d6 _ _ rfl Sz33)) ?_
 have hO := hO.fr1
 have h0 := h0.mt a7 hO same_
 have a0 := a0.ap a7 hO same_ (mem_r (mem_r (mem_l (List.mem_singleton.2 rfl))))
 have a1 := a1.ap a7 hO same_ (mem_r (mem_l (List.mem_singleton.2 rfl)))
 have b1 := b1.ma a7 hO same_ (fun _ e => (mem_l (e)))
 have hC := hC.st a7 hO same_
 have hO := hO.ext a7
 have b2 : BoxV c7 a5 35 [(.int .i64 a_.1), (.slice a2 a3 a4)] := b2
 refine c_nil ?_
 have hO := hO.fr3
 have hO := hO.drop
 refine c_sr (pl_val (.agg #[(.int .i64 a_.1), (.slice a2 a3 a4)]) (y_load rfl ((box_load Ag35 Sz35 b2 [] [(.int .i64 a_.1), (.slice a2 a3 a4)] [] rfl rfl (fun h => nomatch h)) _ (Chg.refl _ _))) ?_)
 obtain ⟨c8, d7, b6, b8⟩ := box_store (P := Try.prog) a1 [] [(.int .i64 0), (.slice none 0 0)] [] [(.int .i64 a_.1), (.slice a2 a3 a4)] rfl rfl (by intro u hu; simp only [List.mem_cons, List.not_mem_nil, or_false] at hu; rcases hu with rfl | rfl <;> rfl)
 refine pl_skip (w' := c8) (ys_store rfl rfl (d7 _ _ rfl Sz35)) ?_
 have hO := hO.fr2
 have b2 := b2.ap b6 hO same_ (mem_l (List.mem_singleton.2 rfl))
 have b1 := b1.ma b6 hO same_ (fun _ e => (mem_r (mem_l (e))))
 have hC := hC.st b6 hO same_
 have hO := hO.ext b6
 have b8 : BoxV c8 b4 35 [(.int .i64 a_.1), (.slice a2 a3 a4)] := b8
 refine c_nil ?_
 have hO := hO.fr1
 have hO := hO.drop
 refine wp_ret ?_
 cases hs
 have hO := hO.drop
 exact ⟨_, b4, a2, a3, a4, c6, fr_ovl 12 ⟨rfl, trivial⟩, b8, hC, b1, hO.top⟩

theorem Rw25 : RowT Try.prog 25 43 1 [(.slice none 0 0)] := ⟨Try.underlying25, ⟨_, _, rfl, rfl, rfl, rfl, by decide⟩, rfl, by decide⟩

def k_laws_toIntSS (M : Nat → Prop) (w0 : World) (r : (List (List Int))) (a : Act) (w : World) : Prop :=
  ∃ (σ : Nat → Value) (ra0 : Option Addr) (rn0 rc0 : Nat) (rf0 : List Nat), a = fr 23 (ovl σ [(2, (.slice ra0 rn0 rc0))]) ∧ Chg [] w0 w ∧ (RT.os 43 (RT.os 3 (RT.int .i64))).val M w (.slice ra0 rn0 rc0) r rf0 ∧ Own (Nw w0 []) (fun _ => True) w (rf0 ++ ([]))
def s_laws_toIntSS (a_ : List (List Int)) : Option ((List (List Int))) :=
  (mks (a_.length : Int) ([] : List Int)).bind fun y3 =>
  (forC (S := (List (List Int))) (R := (List (List Int))) (fun k28 s26 =>
  (idx a_ k28).bind fun x34 =>
  (s_laws_toIntS x34).bind fun r39 =>
  (idx s26 k28).bind fun x41 =>
  some (.nx (List.set s26 (Int.toNat k28) r39))) 0 (a_.length : Int) y3).bind fun o30 => after o30 (fun r_ => some r_) (fun s26 =>
  some s26)
set_option maxHeartbeats 4000000 in
theorem c_laws_toIntSS {M : Nat → Prop} {w : World} {pa0 : Option Addr} {pn0 pc0 : Nat} (a_ : List (List Int)) (h0 : (RT.rs (RT.rs ri)).val M w (.slice pa0 pn0 pc0) a_ ([])) (hM : ∀ g, w.heap.size ≤ g → M g) {r : (List (List Int))} (hs : s_laws_toIntSS a_ = some r) :
    Gives Try.prog 27 [(.slice pa0 pn0 pc0)] w (fun v w' => ∃ (ra0 : Option Addr) (rn0 rc0 : Nat) (rf0 : List Nat), v = (.slice ra0 rn0 rc0) ∧ Chg [] w w' ∧ (RT.os 43 (RT.os 3 ri)).val M w' (.slice ra0 rn0 rc0) r rf0 ∧ Own (Nw w []) (fun _ => True) w' (rf0 ++ ([]))) := by
 refine calls_fr Try.func27 rfl Try.ntmps27 (Nat.le_of_ble_eq_true rfl) ?_
 have hO := Own.start (N := Nw w []) hM Nw.fut
 have hC := Chg.refl [] w
 unfold s_laws_toIntSS at hs
 refine wp_mono (Q := KPost (k_laws_toIntSS M w r)) ?_ (fun e a b8 h => ?_)
 rotate_left
 ·cases e
  case ret =>
   obtain ⟨σ, ra0, rn0, rc0, rf0, rfl, hrest⟩ := h
   exact ret1x Try.results27 (res_tmp rfl) ⟨ra0, rn0, rc0, rf0, rfl, hrest⟩
  all_goals exact (h : False).elim
 refine c_sr (ax rfl (c_nil (c_sr (ms rfl (pl_val _ (y_len' Sl25 (rs_len h0) rfl) ?_)))))
 obtain ⟨y3, b9, hs⟩ := bind_some hs
 obtain ⟨a1, a2, a3, c0, c1, c2, b0, c3, b1⟩ := mk_os (M := M) (w := w) (r := (RT.os 3 ri)) Rw25 b9 (fun _ _ => (os_unval os_nil))
 refine pl_val (w' := c0) (.slice a1 a2 a3) (y_make rfl rfl c2) ?_
 have h0 := h0.ext b0
 have hC := hC.ext b0
 have hO := hO.new b0 c3 (os_nodup b1) b1.fpl
 refine ax rfl (c_nil (c_seq (c_sr (ai rfl (c_nil ?_)))))
 obtain ⟨o30, c4, hs⟩ := bind_some hs
 refine wp_block (wp_forC (id := 0) (a_.length : Int) (I := fun k28 s26 a a0 => ∃ (σ : Nat → Value) (a4 : List Nat), a = fr 23 (ovl σ [(0, (.slice pa0 pn0 pc0)), (3, (.slice a1 a2 a3)), (4, (.int .i64 k28))]) ∧ Chg [] w a0 ∧ Own (Nw w []) M a0 (a4 ++ []) ∧ (RT.rs (RT.rs ri)).val M a0 (.slice pa0 pn0 pc0) a_ ([]) ∧ (RT.os 43 (RT.os 3 ri)).val M a0 (.slice a1 a2 a3) s26 a4) (J := fun s26 a a0 => ∃ (σ : Nat → Value) (a8 : List Nat), a = fr 23 (ovl σ [(3, (.slice a1 a2 a3))]) ∧ Chg [] w a0 ∧ Own (Nw w []) M a0 (a8 ++ []) ∧ (RT.rs (RT.rs ri)).val M a0 (.slice pa0 pn0 pc0) a_ ([]) ∧ (RT.os 43 (RT.os 3 ri)).val M a0 (.slice a1 a2 a3) s26 a8) (K := (k_laws_toIntSS M w)) ?_ ?_ 0 y3 o30 _ _ ?_ c4 ?_)
 ·rintro k28 s26 a a0 ⟨σ, a4, rfl, hC, hO, h0, a5⟩ hlt
  refine c_seq (c_sr (mi rfl (ms rfl (pl_val _ (y_len' Sl25 (rs_len h0) rfl) (pl_val _ (y_lss rfl rfl) (c_nil (c_condF (cb (decide_eq_false hlt)) (wp_exit ?_))))))))
  exact ⟨rfl, _, a4, fr_ovl 23 ⟨rfl, trivial⟩, hC, hO, h0, a5⟩
 ·rintro k28 s26 o30 a a0 ⟨σ, a4, rfl, hC, hO, h0, a5⟩ hlt hw hs
  refine c_seq (c_sr (mi rfl (ms rfl (pl_val _ (y_len' Sl25 (rs_len h0) rfl) (pl_val _ (y_lss rfl rfl) (c_nil (c_condT (cb (decide_eq_true hlt)) (wp_skip (c_seq (wp_block (c_region (ms rfl (mi rfl (ms rfl (mi rfl ?_)))))))))))))))
  obtain ⟨x34, c5, hs⟩ := bind_some hs
  obtain ⟨c6, c7, c8, b2⟩ := rs_idx Sl25 Sz43 h0 c5
  refine pl_val _ (c8 _ _ _ _ _ _ _ _ _ rfl rfl) ?_
  obtain ⟨f0, c9, a6⟩ := at_load Ag43 Sz43 (fun _ => rfl) b2
  obtain ⟨d0, d1, d2, rfl⟩ := rs_sl a6
  refine pl_val (.slice d0 d1 d2) (y_load rfl (c9 _ (Chg.refl _ _))) ?_
  obtain ⟨r39, d3, hs⟩ := bind_some hs
  refine pl_call Bd20 rfl (c_laws_toIntS (M := M) x34 a6 hO.fut d3) ?_
  rintro _ f1 ⟨d4, d5, d6, b3, rfl, a7, d7, d8⟩
  have h0 := h0.ext a7
  have a5 := a5.ext a7
  have a6 := a6.ext a7
  have b2 := at_ext b2 a7
  have hC := hC.ext a7
  have hO := Own.join0 hO a7 d8
  have hO := hO.perm (R := b3 ++ (a4 ++ ([]))) (by simp)
  obtain ⟨x41, d9, hs⟩ := bind_some hs
  obtain ⟨b6, f2, b7, e0, e1, e2, e3⟩ := os_idx Sl25 Sz43 a5 d9
  have f3 := own_row (Frz.os Frz.int) e2 e3
  refine pl_val _ (e1 _ _ _ _ _ _ _ _ _ rfl rfl) ?_
  have hO := hO.fr1
  obtain ⟨e4, e5, e6, a9, e7, b4⟩ := os_store (P := Try.prog) (c' := [(.slice d4 d5 d6)]) b7 a5 e0 (fun g hg => hO.inM g (os_block a5 g (by simpa using hg))) (os_unval d7) (hO.drop.perm (R := b3 ++ ([])) (by simp)).nd (fun g hg hq => hO.apart g hq (by simp only [List.mem_append, List.not_mem_nil, false_or, or_false] at hg ⊢; simp [hg])) (fun _ h => .inl h)
  have b5 : ∀ q ∈ [b6], q ∈ a4 := fun q hq => os_block a5 q (by rw [b7]; exact hq)
  refine pl_skip (w' := e4) (ys_store rfl rfl (e6 _ _ rfl Sz43)) ?_
  have hO := hO.fr1
  have hO := hO.fr1
  have h0 := h0.mt a9 hO b5
  have a6 := a6.mt a9 hO b5
  have hC := hC.st a9 hO b5
  have hO := hO.perm (R := a4 ++ (b3 ++ ([]))) (by simp)
  have hO := hO.eat a9 (fun q hq => (e7 q hq).elim .inl (fun h => .inr (.inl h))) (os_nodup b4) b4.fpl
  refine c_nil (c_region (mi rfl (pl_val (.int .i64 (w64 (k28 + 1))) (y_add rfl rfl) (ai rfl (c_nil ?_)))))
  cases hs
  exact ⟨_, e5, fr_ovl 23 ⟨rfl, rfl, congrArg (Value.int .i64) hw, trivial⟩, hC, hO, h0, b4⟩
 ·skip
  exact ⟨_, c1, fr_ovl 23 ⟨rfl, rfl, rfl, trivial⟩, hC, hO, h0, b1⟩
 cases o30 with
 | nx _ => exact True.intro
 | rt r_ =>
  have hs := after_rt hs
  intro e8 b8 hK
  cases hs
  exact hK
 | br s26 =>
  have hs := after_br hs
  rintro e8 a0 ⟨σ, a8, rfl, hC, hO, h0, e9⟩
  refine c_sr (ms rfl (ax rfl (c_nil (wp_ret ?_))))
  cases hs
  exact ⟨_, a1, a2, a3, a8, fr_ovl 23 ⟨rfl, trivial⟩, hC, e9, hO.top⟩

def k_spec_l1In (M : Nat → Prop) (w0 : World) (r : Bool) (a : Act) (w : World) : Prop :=
  ∃ (σ : Nat → Value) , a = fr 15 (ovl σ [(6, (.bool r))]) ∧ Chg [] w0 w
def s_spec_l1In (x_ : Int) (a_ : Int) (b : Int) : Option (Bool) :=
  (bif (decide (a_ ≤ x_)) then some (decide (x_ ≤ b)) else some false)
set_option maxHeartbeats 4000000 in
theorem c_spec_l1In {M : Nat → Prop} {w : World}  (x_ : Int) (a_ : Int) (b : Int)  (hM : ∀ g, w.heap.size ≤ g → M g) {r : Bool} (hs : s_spec_l1In x_ a_ b = some r) :
    Gives Try.prog 65 [(.int .i64 x_), (.int .i64 a_), (.int .i64 b)] w (fun v w' => v = (.bool r) ∧ Chg [] w w') := by
 refine calls_fr Try.func65 rfl Try.ntmps65 (Nat.le_of_ble_eq_true rfl) ?_
 have hO := Own.start (N := Nw w []) hM Nw.fut
 have hC := Chg.refl [] w
 unfold s_spec_l1In at hs
 refine wp_mono (Q := KPost (k_spec_l1In M w r)) ?_ (fun e a a1 h => ?_)
 rotate_left
 ·cases e
  case ret =>
   obtain ⟨σ, rfl, hrest⟩ := h
   exact ret1x Try.results65 (res_tmp rfl) ⟨rfl, hrest⟩
  all_goals exact (h : False).elim
 refine c_sr (ab rfl (c_nil (c_sr (mi rfl (mi rfl (pl_val _ (y_geq rfl rfl) (mb rfl ?_)))))))
 rcases bif_some hs with ⟨a0, hs⟩ | ⟨a0, hs⟩
 ·skip
  refine pl_yes (.int .i64 x_) (tg := 10) (by kernel_rfl) (cb a0) (y_move rfl) (pl_yes (.int .i64 b) (tg := 10) (by kernel_rfl) (cb a0) (y_move rfl) (pl_yes (.bool (decide (x_ ≤ b))) (tg := 10) (by kernel_rfl) (cb a0) (y_leq rfl rfl) (pl_val (.bool (decide (x_ ≤ b))) (y_pick_t (cb a0) rfl) (ab rfl (c_nil (wp_ret ?_))))))
  cases hs
  exact ⟨_, fr_ovl 15 ⟨rfl, trivial⟩, hC⟩
 refine pl_not (tg := 10) (by kernel_rfl) (cb a0) (pl_not (tg := 10) (by kernel_rfl) (cb a0) (pl_not (tg := 10) (by kernel_rfl) (cb a0) (pl_val (.bool false) (y_pick_f (cb a0) rfl) (ab rfl (c_nil (wp_ret ?_))))))
 cases hs
 exact ⟨_, fr_ovl 15 ⟨rfl, trivial⟩, hC⟩

def k_spec_l2Pow (M : Nat → Prop) (w0 : World) (r : Int) (a : Act) (w : World) : Prop :=
  ∃ (σ : Nat → Value) , a = fr 14 (ovl σ [(4, (.int .i64 r))]) ∧ Chg [] w0 w
def s_spec_l2Pow (n : Int) (k : Int) : Option (Int) :=
  (iter (S := Int × Int) (R := Int) (fun s2 =>
  (bif (decide (0 < s2.1)) then some (.nx (w64 (s2.1 - 1), w64 (s2.2 * n))) else some (.br (s2.1, s2.2)))) FU (k, 1)).bind fun o6 => after o6 (fun r_ => some r_) (fun s2 =>
  some s2.2)
set_option maxHeartbeats 4000000 in
theorem c_spec_l2Pow {M : Nat → Prop} {w : World}  (n : Int) (k : Int)  (hM : ∀ g, w.heap.size ≤ g → M g) {r : Int} (hs : s_spec_l2Pow n k = some r) :
    Gives Try.prog 81 [(.int .i64 n), (.int .i64 k)] w (fun v w' => v = (.int .i64 r) ∧ Chg [] w w') := by
 refine calls_fr Try.func81 rfl Try.ntmps81 (Nat.le_of_ble_eq_true rfl) ?_
 have hO := Own.start (N := Nw w []) hM Nw.fut
 have hC := Chg.refl [] w
 unfold s_spec_l2Pow at hs
 refine wp_mono (Q := KPost (k_spec_l2Pow M w r)) ?_ (fun e a a2 h => ?_)
 rotate_left
 ·cases e
  case ret =>
   obtain ⟨σ, rfl, hrest⟩ := h
   exact ret1x Try.results81 (res_tmp rfl) ⟨rfl, hrest⟩
  all_goals exact (h : False).elim
 refine c_sr (ai rfl (c_nil (c_sr (ai rfl (c_nil (c_seq ?_))))))
 obtain ⟨o6, a3, hs⟩ := bind_some hs
 refine wp_block (wp_iter (id := 0) (I := fun s2 a a0 => ∃ (σ : Nat → Value), a = fr 14 (ovl σ [(0, (.int .i64 n)), (1, (.int .i64 s2.1)), (5, (.int .i64 s2.2))]) ∧ Chg [] w a0 ∧ Own (Nw w []) M a0 ([])) (J := fun s2 a a0 => ∃ (σ : Nat → Value), a = fr 14 (ovl σ [(5, (.int .i64 s2.2))]) ∧ Chg [] w a0 ∧ Own (Nw w []) M a0 ([])) (K := (k_spec_l2Pow M w)) ?_ FU (k, 1) o6 _ _ ?_ a3 ?_)
 ·rintro s2 o6 a a0 ⟨σ, rfl, hC, hO⟩ hs
  refine c_seq (c_sr (mi rfl (pl_val _ (y_gtr rfl rfl) (c_nil ?_))))
  rcases bif_some hs with ⟨a1, hs⟩ | ⟨a1, hs⟩
  ·refine c_condT (cb a1) (wp_skip (c_seq (wp_block (c_region (mi rfl (mi rfl (pl_val (.int .i64 (w64 (s2.2 * n))) (y_mul rfl rfl) (ai rfl (c_nil (c_region (mi rfl (pl_val (.int .i64 (w64 (s2.1 - 1))) (y_sub rfl rfl) (ai rfl (c_nil ?_))))))))))))))
   cases hs
   exact ⟨_, fr_ovl 14 ⟨rfl, rfl, rfl, trivial⟩, hC, hO⟩
  refine c_condF (cb a1) (wp_exit ?_)
  cases hs
  exact ⟨rfl, _, fr_ovl 14 ⟨rfl, trivial⟩, hC, hO⟩
 ·skip
  exact ⟨_, fr_ovl 14 ⟨rfl, rfl, rfl, trivial⟩, hC, hO⟩
 cases o6 with
 | nx _ => exact True.intro
 | rt r_ =>
  have hs := after_rt hs
  intro a4 a2 hK
  cases hs
  exact hK
 | br s2 =>
  have hs := after_br hs
  rintro a4 a0 ⟨σ, rfl, hC, hO⟩
  refine c_sr (mi rfl (ai rfl (c_nil (wp_ret ?_))))
  cases hs
  exact ⟨_, fr_ovl 14 ⟨rfl, trivial⟩, hC⟩

theorem Mx : Try.prog.follows .mixedOrders = true := by kernel_rfl

theorem Bd65 : Bodied Try.prog 65 := bodied Try.func65 (by kernel_rfl) rfl

theorem Bd81 : Bodied Try.prog 81 := bodied Try.func81 (by kernel_rfl) rfl

def k_spec_l2Op (M : Nat → Prop) (w0 : World) (r : Bool) (a : Act) (w : World) : Prop :=
  ∃ (σ : Nat → Value) , a = fr 36 (ovl σ [(4, (.bool r))]) ∧ Chg [] w0 w
def s_spec_l2Op (n : Int) (op : Int × (List Int)) : Option (Bool) :=
  ((s_spec_l1In op.1 0 3).bind fun r8 =>
  (bif (!r8) then some true else (s_spec_l2Pow n op.1).bind fun r11 =>
  some ((op.2.length : Int) != r11))).bind fun s3 =>
  (bif s3 then some false else (forC (S := Unit) (R := Bool) (fun k24 s22 =>
  (idx op.2 k24).bind fun x28 =>
  (s_spec_l1In x28 0 (w64 (n - 1))).bind fun r31 =>
  (bif (!r31) then some (.rt false) else some (.nx ()))) 0 (op.2.length : Int) ()).bind fun o26 => after o26 (fun r_ => some r_) (fun s22 =>
  some true))
set_option maxHeartbeats 4000000 in
theorem c_spec_l2Op {M : Nat → Prop} {w : World} {pa0 : Option Addr} {pn0 pc0 : Nat} (n : Int) (op : Int × (List Int)) (h0 : (RT.rs ri).val M w (.slice pa0 pn0 pc0) op.2 ([])) (hM : ∀ g, w.heap.size ≤ g → M g) {r : Bool} (hs : s_spec_l2Op n op = some r) :
    Gives Try.prog 66 [(.int .i64 n), (.agg #[(.int .i64 op.1), (.slice pa0 pn0 pc0)])] w (fun v w' => v = (.bool r) ∧ Chg [] w w') := by
 refine calls_fr Try.func66 rfl Try.ntmps66 (Nat.le_of_ble_eq_true rfl) ?_
 have hO := Own.start (N := Nw w []) hM Nw.fut
 have hC := Chg.refl [] w
 unfold s_spec_l2Op at hs
 refine wp_mono (Q := KPost (k_spec_l2Op M w r)) ?_ (fun e a c0 h => ?_)
 rotate_left
 ·cases e
  case ret =>
   obtain ⟨σ, rfl, hrest⟩ := h
   exact ret1x Try.results66 (res_tmp rfl) ⟨rfl, hrest⟩
  all_goals exact (h : False).elim
 refine c_sr ?_
 obtain ⟨a9, a2, c1, b7, b3, a0⟩ := new_block w [(.int .i64 op.1), (.slice pa0 pn0 pc0)] 89
 refine pl_val (w' := a9) (pq a2 0) (y_box rfl (by rw [c1, b7]; kernel_rfl)) ?_
 have h0 := h0.ext b3
 have hC := hC.ext b3
 have hO := hO.new1 b3 b7 a0.lt
 refine ab rfl (c_nil (c_seq (c_seq ?_)))
 obtain ⟨s3, c2, hs⟩ := bind_some hs
 refine c_mid (I := fun a b8 => ∃ (σ : Nat → Value), a = fr 36 (ovl σ [(0, (.int .i64 n)), (3, (pq a2 0)), (4, (.bool false)), (19, (.bool s3))]) ∧ Chg [] a9 b8) ?_ ?_
 ·replace hs := c2
  have hMid := Chg.refl [] a9
  refine x_start [] Mx rfl ?_
  have a8 := Chg.drew a9
  generalize World.drew a9 = c3 at a8 ⊢
  have h0 := h0.ext a8
  have a0 := a0.cn a8
  have hMid := hMid.ext a8
  have hC := hC.ext a8
  have hO := hO.ext a8
  have hS := Chg.refl [] c3
  refine x_p 0 (pq a2 0) rfl (by kernel_rfl)  (fun _ => y_faddr rfl Fa89x0) (fun _ => hS) (x_l 1 (.int .i64 op.1) rfl (by kernel_rfl)  (fun w' hw' => y_load rfl ((box_load Ag3 Sz3 a0 [] [(.int .i64 op.1)] [(.slice pa0 pn0 pc0)] rfl rfl (fun _ => rfl)) w' hw')) hS (x_one (i := 2) (by kernel_rfl) ?_))
  obtain ⟨r8, c4, hs⟩ := bind_some hs
  refine xk_call (b := false) rfl  Bd65 rfl (c_spec_l1In (M := M) op.1 0 3  hO.fut c4) rfl (by rintro _ _ _ ⟨rfl, a4⟩; exact hS.ext a4) ?_
  rintro _ d1 ⟨rfl, a4⟩
  have h0 := h0.ext a4
  have a0 := a0.cn a4
  have hMid := hMid.ext a4
  have hC := hC.ext a4
  have hO := hO.ext a4
  have hS := hS.ext a4
  refine x_p 3 (.bool (!r8)) rfl (by kernel_rfl)  (fun _ => y_not rfl) (fun _ => hS) (x_p 4 (.bool (!r8)) rfl (by kernel_rfl)  (fun _ => y_move rfl) (fun _ => hS) ?_)
  rcases bif_some hs with ⟨a1, hs⟩ | ⟨a1, hs⟩
  ·skip
   refine x_pn 5 rfl (by kernel_rfl) (tg := 10) (by kernel_rfl) (cb a1) (fun _ => hS) (x_pn 6 rfl (by kernel_rfl) (tg := 10) (by kernel_rfl) (cb a1) (fun _ => hS) (x_pn 7 rfl (by kernel_rfl) (tg := 10) (by kernel_rfl) (cb a1) (fun _ => hS) (x_pn 8 rfl (by kernel_rfl) (tg := 10) (by kernel_rfl) (cb a1) (fun _ => hS) (x_pn 9 rfl (by kernel_rfl) (tg := 10) (by kernel_rfl) (cb a1) (fun _ => hS) (x_pn 10 rfl (by kernel_rfl) (tg := 10) (by kernel_rfl) (cb a1) (fun _ => hS) (x_pn 11 rfl (by kernel_rfl) (tg := 10) (by kernel_rfl) (cb a1) (fun _ => hS) (x_pn 12 rfl (by kernel_rfl) (tg := 10) (by kernel_rfl) (cb a1) (fun _ => hS) (x_p 13 (.bool true) rfl (by kernel_rfl)  (fun _ => y_pick_t (cb a1) rfl) (fun _ => hS) (x_end (by kernel_rfl) ?_)))))))))
   clear hS
   cases hs
   exact ⟨_, fr_ovl 36 ⟨rfl, rfl, rfl, rfl, trivial⟩, hMid⟩
  refine x_py 5 (pq a2 1) rfl (by kernel_rfl) (tg := 10) (by kernel_rfl) (cb a1) (fun _ => y_faddr rfl Fa89x1) (fun _ => hS) (x_py 8 (.int .i64 n) rfl (by kernel_rfl) (tg := 10) (by kernel_rfl) (cb a1) (fun _ => y_move rfl) (fun _ => hS) (x_py 9 (pq a2 0) rfl (by kernel_rfl) (tg := 10) (by kernel_rfl) (cb a1) (fun _ => y_faddr rfl Fa89x0) (fun _ => hS) (x_two (i := 6) (j := 10) (by kernel_rfl) ?_ ?_)))
  ·skip
   refine xk_valy (b := false) (.slice pa0 pn0 pc0) rfl (tg := 10) (by kernel_rfl) (cb a1) (y_load rfl ((box_load Ag43 Sz43 a0 [(.int .i64 op.1)] [(.slice pa0 pn0 pc0)] [] rfl rfl (fun _ => rfl)) _ (Chg.refl _ _))) rfl (fun _ => hS) (x_py 7 (.int .i64 (op.2.length : Int)) rfl (by kernel_rfl) (tg := 10) (by kernel_rfl) (cb a1) (fun _ => y_len' Sl43 (rs_len h0) rfl) (fun _ => hS) (x_one (i := 10) (by kernel_rfl) (xk_valy (b := false) (.int .i64 op.1) rfl (tg := 10) (by kernel_rfl) (cb a1) (y_load rfl ((box_load Ag3 Sz3 a0 [] [(.int .i64 op.1)] [(.slice pa0 pn0 pc0)] rfl rfl (fun _ => rfl)) _ (Chg.refl _ _))) rfl (fun _ => hS) (x_one (i := 11) (by kernel_rfl) ?_))))
   obtain ⟨r11, b0, hs⟩ := bind_some hs
   refine xk_cally (b := false) rfl (tg := 10) (by kernel_rfl) (cb a1) Bd81 rfl (c_spec_l2Pow (M := M) n op.1  hO.fut b0) rfl (by rintro _ _ _ ⟨rfl, a5⟩; exact hS.ext a5) ?_
   rintro _ d2 ⟨rfl, a5⟩
   have h0 := h0.ext a5
   have a0 := a0.cn a5
   have hMid := hMid.ext a5
   have hC := hC.ext a5
   have hO := hO.ext a5
   have hS := hS.ext a5
   refine x_py 12 (.bool ((op.2.length : Int) != r11)) rfl (by kernel_rfl) (tg := 10) (by kernel_rfl) (cb a1) (fun _ => y_neq rfl rfl) (fun _ => hS) (x_p 13 (.bool ((op.2.length : Int) != r11)) rfl (by kernel_rfl)  (fun _ => y_pick_f (cb a1) rfl) (fun _ => hS) (x_end (by kernel_rfl) ?_))
   clear hS
   cases hs
   exact ⟨_, fr_ovl 36 ⟨rfl, rfl, rfl, rfl, trivial⟩, hMid⟩
  ·skip
   refine xk_valy (b := false) (.int .i64 op.1) rfl (tg := 10) (by kernel_rfl) (cb a1) (y_load rfl ((box_load Ag3 Sz3 a0 [] [(.int .i64 op.1)] [(.slice pa0 pn0 pc0)] rfl rfl (fun _ => rfl)) _ (Chg.refl _ _))) rfl (fun _ => hS) (x_two (i := 6) (j := 11) (by kernel_rfl) ?_ ?_)
   ·skip
    refine xk_valy (b := false) (.slice pa0 pn0 pc0) rfl (tg := 10) (by kernel_rfl) (cb a1) (y_load rfl ((box_load Ag43 Sz43 a0 [(.int .i64 op.1)] [(.slice pa0 pn0 pc0)] [] rfl rfl (fun _ => rfl)) _ (Chg.refl _ _))) rfl (fun _ => hS) (x_py 7 (.int .i64 (op.2.length : Int)) rfl (by kernel_rfl) (tg := 10) (by kernel_rfl) (cb a1) (fun _ => y_len' Sl43 (rs_len h0) rfl) (fun _ => hS) (x_one (i := 11) (by kernel_rfl) ?_))
    obtain ⟨r11, b0, hs⟩ := bind_some hs
    refine xk_cally (b := false) rfl (tg := 10) (by kernel_rfl) (cb a1) Bd81 rfl (c_spec_l2Pow (M := M) n op.1  hO.fut b0) rfl (by rintro _ _ _ ⟨rfl, a6⟩; exact hS.ext a6) ?_
    rintro _ d3 ⟨rfl, a6⟩
    have h0 := h0.ext a6
    have a0 := a0.cn a6
    have hMid := hMid.ext a6
    have hC := hC.ext a6
    have hO := hO.ext a6
    have hS := hS.ext a6
    refine x_py 12 (.bool ((op.2.length : Int) != r11)) rfl (by kernel_rfl) (tg := 10) (by kernel_rfl) (cb a1) (fun _ => y_neq rfl rfl) (fun _ => hS) (x_p 13 (.bool ((op.2.length : Int) != r11)) rfl (by kernel_rfl)  (fun _ => y_pick_f (cb a1) rfl) (fun _ => hS) (x_end (by kernel_rfl) ?_))
    clear hS
    cases hs
    exact ⟨_, fr_ovl 36 ⟨rfl, rfl, rfl, rfl, trivial⟩, hMid⟩
   ·skip
    obtain ⟨r11, b0, hs⟩ := bind_some hs
    refine xk_cally (b := false) rfl (tg := 10) (by kernel_rfl) (cb a1) Bd81 rfl (c_spec_l2Pow (M := M) n op.1  hO.fut b0) rfl (by rintro _ _ _ ⟨rfl, a7⟩; exact hS.ext a7) ?_
    rintro _ d4 ⟨rfl, a7⟩
    have h0 := h0.ext a7
    have a0 := a0.cn a7
    have hMid := hMid.ext a7
    have hC := hC.ext a7
    have hO := hO.ext a7
    have hS := hS.ext a7
    refine x_one (i := 6) (by kernel_rfl) (xk_valy (b := false) (.slice pa0 pn0 pc0) rfl (tg := 10) (by kernel_rfl) (cb a1) (y_load rfl ((box_load Ag43 Sz43 a0 [(.int .i64 op.1)] [(.slice pa0 pn0 pc0)] [] rfl rfl (fun _ => rfl)) _ (Chg.refl _ _))) rfl (fun _ => hS) (x_py 7 (.int .i64 (op.2.length : Int)) rfl (by kernel_rfl) (tg := 10) (by kernel_rfl) (cb a1) (fun _ => y_len' Sl43 (rs_len h0) rfl) (fun _ => hS) (x_py 12 (.bool ((op.2.length : Int) != r11)) rfl (by kernel_rfl) (tg := 10) (by kernel_rfl) (cb a1) (fun _ => y_neq rfl rfl) (fun _ => hS) (x_p 13 (.bool ((op.2.length : Int) != r11)) rfl (by kernel_rfl)  (fun _ => y_pick_f (cb a1) rfl) (fun _ => hS) (x_end (by kernel_rfl) ?_)))))
    clear hS
    cases hs
    exact ⟨_, fr_ovl 36 ⟨rfl, rfl, rfl, rfl, trivial⟩, hMid⟩
 rintro b9 b8 ⟨σ, rfl, b2⟩
 have h0 := h0.ext b2
 have a0 := a0.cn b2
 have hC := hC.ext b2
 have hO := hO.ext b2
 rcases bif_some hs with ⟨b4, hs⟩ | ⟨b4, hs⟩
 ·refine c_condT (cb b4) (c_sr (ab rfl (c_nil (wp_ret ?_))))
  cases hs
  exact ⟨_, fr_ovl 36 ⟨rfl, trivial⟩, hC⟩
 refine c_condF (cb b4) (wp_skip (c_seq (c_sr (ai rfl (c_nil ?_)))))
 obtain ⟨o26, c5, hs⟩ := bind_some hs
 refine wp_block (wp_forC (id := 0) (op.2.length : Int) (I := fun k24 s22 a a3 => ∃ (σ : Nat → Value), a = fr 36 (ovl σ [(0, (.int .i64 n)), (3, (pq a2 0)), (5, (.int .i64 k24))]) ∧ Chg [] w a3 ∧ Own (Nw w []) M a3 (([a2]) ++ []) ∧ (RT.rs ri).val M a3 (.slice pa0 pn0 pc0) op.2 ([]) ∧ BoxV a3 a2 89 [(.int .i64 op.1), (.slice pa0 pn0 pc0)]) (J := fun s22 a a3 => ∃ (σ : Nat → Value), a = fr 36 (ovl σ []) ∧ Chg [] w a3 ∧ Own (Nw w []) M a3 (([a2]) ++ []) ∧ (RT.rs ri).val M a3 (.slice pa0 pn0 pc0) op.2 ([]) ∧ BoxV a3 a2 89 [(.int .i64 op.1), (.slice pa0 pn0 pc0)]) (K := (k_spec_l2Op M w)) ?_ ?_ 0 () o26 _ _ ?_ c5 ?_)
 ·rintro k24 s22 a a3 ⟨σ, rfl, hC, hO, h0, a0⟩ hlt
  refine c_seq (c_sr (mi rfl (pl_val (pq a2 1) (y_faddr rfl Fa89x1) (pl_val (.slice pa0 pn0 pc0) (y_load rfl ((box_load Ag43 Sz43 a0 [(.int .i64 op.1)] [(.slice pa0 pn0 pc0)] [] rfl rfl (fun _ => rfl)) _ (Chg.refl _ _))) (pl_val _ (y_len' Sl43 (rs_len h0) rfl) (pl_val _ (y_lss rfl rfl) (c_nil (c_condF (cb (decide_eq_false hlt)) (wp_exit ?_)))))))))
  exact ⟨rfl, _, fr_ovl 36 trivial, hC, hO, h0, a0⟩
 ·rintro k24 s22 o26 a a3 ⟨σ, rfl, hC, hO, h0, a0⟩ hlt hw hs
  refine c_seq (c_sr (mi rfl (pl_val (pq a2 1) (y_faddr rfl Fa89x1) (pl_val (.slice pa0 pn0 pc0) (y_load rfl ((box_load Ag43 Sz43 a0 [(.int .i64 op.1)] [(.slice pa0 pn0 pc0)] [] rfl rfl (fun _ => rfl)) _ (Chg.refl _ _))) (pl_val _ (y_len' Sl43 (rs_len h0) rfl) (pl_val _ (y_lss rfl rfl) (c_nil (c_condT (cb (decide_eq_true hlt)) (wp_skip (c_seq (wp_block (c_sr (pl_val (pq a2 1) (y_faddr rfl Fa89x1) (pl_val (.slice pa0 pn0 pc0) (y_load rfl ((box_load Ag43 Sz43 a0 [(.int .i64 op.1)] [(.slice pa0 pn0 pc0)] [] rfl rfl (fun _ => rfl)) _ (Chg.refl _ _))) (mi rfl ?_)))))))))))))))
  obtain ⟨x28, c6, hs⟩ := bind_some hs
  obtain ⟨c7, c8, c9, b5⟩ := rs_idx Sl43 Sz3 h0 c6
  refine pl_val _ (c9 _ _ _ _ _ _ _ _ _ rfl rfl) (pl_val (.int .i64 x28) (y_load rfl ((at_load_int Ag3 Sz3 b5) _ (Chg.refl _ _))) (mi rfl (pl_val (.int .i64 (w64 (n - 1))) (y_sub rfl rfl) ?_)))
  obtain ⟨r31, d0, hs⟩ := bind_some hs
  refine pl_call Bd65 rfl (c_spec_l1In (M := M) x28 0 (w64 (n - 1))  hO.fut d0) ?_
  rintro _ d5 ⟨rfl, b1⟩
  have h0 := h0.ext b1
  have a0 := a0.cn b1
  have b5 := at_ext b5 b1
  have hC := hC.ext b1
  have hO := hO.ext b1
  refine pl_val _ (y_not rfl) (c_nil ?_)
  rcases bif_some hs with ⟨b6, hs⟩ | ⟨b6, hs⟩
  ·refine c_condT (cb b6) (c_sr (ab rfl (c_nil (wp_ret ?_))))
   cases hs
   exact ⟨_, fr_ovl 36 ⟨rfl, trivial⟩, hC⟩
  refine c_condF (cb b6) (wp_skip (c_region (mi rfl (pl_val (.int .i64 (w64 (k24 + 1))) (y_add rfl rfl) (ai rfl (c_nil ?_))))))
  cases hs
  exact ⟨_, fr_ovl 36 ⟨rfl, rfl, congrArg (Value.int .i64) hw, trivial⟩, hC, hO, h0, a0⟩
 ·skip
  exact ⟨_, fr_ovl 36 ⟨rfl, rfl, rfl, trivial⟩, hC, hO, h0, a0⟩
 cases o26 with
 | nx _ => exact True.intro
 | rt r_ =>
  have hs := after_rt hs
  intro b9 c0 hK
  cases hs
  exact hK
 | br s22 =>
  have hs := after_br hs
  rintro b9 a3 ⟨σ, rfl, hC, hO, h0, a0⟩
  refine c_sr (ab rfl (c_nil (wp_ret ?_)))
  cases hs
  exact ⟨_, fr_ovl 36 ⟨rfl, trivial⟩, hC⟩

theorem Ag33 : AggT Try.prog 33 false := fun _ => by kernel_rfl

theorem Bd66 : Bodied Try.prog 66 := bodied Try.func66 (by kernel_rfl) rfl

def k_spec_l2Good (M : Nat → Prop) (w0 : World) (r : Bool) (a : Act) (w : World) : Prop :=
  ∃ (σ : Nat → Value) , a = fr 30 (ovl σ [(2, (.bool r))]) ∧ Chg [] w0 w
def s_spec_l2Good (a_ : Int × (List (Int × (List Int)))) : Option (Bool) :=
  ((s_spec_l1In a_.1 1 8).bind fun r7 =>
  (bif (!r7) then some true else some (decide (4 < (a_.2.length : Int))))).bind fun s3 =>
  (bif s3 then some false else (forC (S := Unit) (R := Bool) (fun k20 s18 =>
  (idx a_.2 k20).bind fun x25 =>
  (s_spec_l2Op a_.1 (x25.1, x25.2)).bind fun r30 =>
  (bif (!r30) then some (.rt false) else some (.nx ()))) 0 (a_.2.length : Int) ()).bind fun o22 => after o22 (fun r_ => some r_) (fun s18 =>
  some true))
set_option maxHeartbeats 4000000 in
theorem c_spec_l2Good {M : Nat → Prop} {w : World} {pa0 : Option Addr} {pn0 pc0 : Nat} (a_ : Int × (List (Int × (List Int)))) (h0 : (RT.rs (RT.pr ri (RT.rs ri))).val M w (.slice pa0 pn0 pc0) a_.2 ([])) (hM : ∀ g, w.heap.size ≤ g → M g) {r : Bool} (hs : s_spec_l2Good a_ = some r) :
    Gives Try.prog 35 [(.agg #[(.int .i64 a_.1), (.slice pa0 pn0 pc0)])] w (fun v w' => v = (.bool r) ∧ Chg [] w w') := by
 refine calls_fr Try.func35 rfl Try.ntmps35 (Nat.le_of_ble_eq_true rfl) ?_
 have hO := Own.start (N := Nw w []) hM Nw.fut
 have hC := Chg.refl [] w
 unfold s_spec_l2Good at hs
 refine wp_mono (Q := KPost (k_spec_l2Good M w r)) ?_ (fun e a b7 h => ?_)
 rotate_left
 ·cases e
  case ret =>
   obtain ⟨σ, rfl, hrest⟩ := h
   exact ret1x Try.results35 (res_tmp rfl) ⟨rfl, hrest⟩
  all_goals exact (h : False).elim
 refine c_sr ?_
 obtain ⟨a8, a2, b8, b4, a9, a0⟩ := new_block w [(.int .i64 a_.1), (.slice pa0 pn0 pc0)] 35
 refine pl_val (w' := a8) (pq a2 0) (y_box rfl (by rw [b8, b4]; kernel_rfl)) ?_
 have h0 := h0.ext a9
 have hC := hC.ext a9
 have hO := hO.new1 a9 b4 a0.lt
 refine ab rfl (c_nil (c_seq (c_seq ?_)))
 obtain ⟨s3, b9, hs⟩ := bind_some hs
 refine c_mid (I := fun a b5 => ∃ (σ : Nat → Value), a = fr 30 (ovl σ [(1, (pq a2 0)), (2, (.bool false)), (13, (.bool s3))]) ∧ Chg [] a8 b5) ?_ ?_
 ·replace hs := b9
  have hMid := Chg.refl [] a8
  refine c_region (pl_val (pq a2 0) (y_faddr rfl Fa35x0) (pl_val (.int .i64 a_.1) (y_load rfl ((box_load Ag3 Sz3 a0 [] [(.int .i64 a_.1)] [(.slice pa0 pn0 pc0)] rfl rfl (fun _ => rfl)) _ (Chg.refl _ _))) ?_))
  obtain ⟨r7, c0, hs⟩ := bind_some hs
  refine pl_call Bd65 rfl (c_spec_l1In (M := M) a_.1 1 8  hO.fut c0) ?_
  rintro _ d6 ⟨rfl, a5⟩
  have h0 := h0.ext a5
  have a0 := a0.cn a5
  have hMid := hMid.ext a5
  have hC := hC.ext a5
  have hO := hO.ext a5
  refine pl_val _ (y_not rfl) (mb rfl ?_)
  rcases bif_some hs with ⟨a3, hs⟩ | ⟨a3, hs⟩
  ·skip
   refine pl_not (tg := 8) (by kernel_rfl) (cb a3) (pl_not (tg := 8) (by kernel_rfl) (cb a3) (pl_not (tg := 8) (by kernel_rfl) (cb a3) (pl_not (tg := 8) (by kernel_rfl) (cb a3) (pl_val (.bool true) (y_pick_t (cb a3) rfl) (c_nil ?_)))))
   cases hs
   exact ⟨_, fr_ovl 30 ⟨rfl, rfl, rfl, trivial⟩, hMid⟩
  refine pl_yes (pq a2 1) (tg := 8) (by kernel_rfl) (cb a3) (y_faddr rfl Fa35x1) (pl_yes (.slice pa0 pn0 pc0) (tg := 8) (by kernel_rfl) (cb a3) (y_load rfl ((box_load Ag33 Sz33 a0 [(.int .i64 a_.1)] [(.slice pa0 pn0 pc0)] [] rfl rfl (fun _ => rfl)) _ (Chg.refl _ _))) (pl_yes (.int .i64 (a_.2.length : Int)) (tg := 8) (by kernel_rfl) (cb a3) (y_len' Sl33 (rs_len h0) rfl) (pl_yes (.bool (decide (4 < (a_.2.length : Int)))) (tg := 8) (by kernel_rfl) (cb a3) (y_gtr rfl rfl) (pl_val (.bool (decide (4 < (a_.2.length : Int)))) (y_pick_f (cb a3) rfl) (c_nil ?_)))))
  cases hs
  exact ⟨_, fr_ovl 30 ⟨rfl, rfl, rfl, trivial⟩, hMid⟩
 rintro b6 b5 ⟨σ, rfl, a7⟩
 have h0 := h0.ext a7
 have a0 := a0.cn a7
 have hC := hC.ext a7
 have hO := hO.ext a7
 rcases bif_some hs with ⟨b0, hs⟩ | ⟨b0, hs⟩
 ·refine c_condT (cb b0) (c_sr (ab rfl (c_nil (wp_ret ?_))))
  cases hs
  exact ⟨_, fr_ovl 30 ⟨rfl, trivial⟩, hC⟩
 refine c_condF (cb b0) (wp_skip (c_seq (c_sr (ai rfl (c_nil ?_)))))
 obtain ⟨o22, c1, hs⟩ := bind_some hs
 refine wp_block (wp_forC (id := 0) (a_.2.length : Int) (I := fun k20 s18 a a1 => ∃ (σ : Nat → Value), a = fr 30 (ovl σ [(1, (pq a2 0)), (3, (.int .i64 k20))]) ∧ Chg [] w a1 ∧ Own (Nw w []) M a1 (([a2]) ++ []) ∧ (RT.rs (RT.pr ri (RT.rs ri))).val M a1 (.slice pa0 pn0 pc0) a_.2 ([]) ∧ BoxV a1 a2 35 [(.int .i64 a_.1), (.slice pa0 pn0 pc0)]) (J := fun s18 a a1 => ∃ (σ : Nat → Value), a = fr 30 (ovl σ []) ∧ Chg [] w a1 ∧ Own (Nw w []) M a1 (([a2]) ++ []) ∧ (RT.rs (RT.pr ri (RT.rs ri))).val M a1 (.slice pa0 pn0 pc0) a_.2 ([]) ∧ BoxV a1 a2 35 [(.int .i64 a_.1), (.slice pa0 pn0 pc0)]) (K := (k_spec_l2Good M w)) ?_ ?_ 0 () o22 _ _ ?_ c1 ?_)
 ·rintro k20 s18 a a1 ⟨σ, rfl, hC, hO, h0, a0⟩ hlt
  refine c_seq (c_sr (mi rfl (pl_val (pq a2 1) (y_faddr rfl Fa35x1) (pl_val (.slice pa0 pn0 pc0) (y_load rfl ((box_load Ag33 Sz33 a0 [(.int .i64 a_.1)] [(.slice pa0 pn0 pc0)] [] rfl rfl (fun _ => rfl)) _ (Chg.refl _ _))) (pl_val _ (y_len' Sl33 (rs_len h0) rfl) (pl_val _ (y_lss rfl rfl) (c_nil (c_condF (cb (decide_eq_false hlt)) (wp_exit ?_)))))))))
  exact ⟨rfl, _, fr_ovl 30 trivial, hC, hO, h0, a0⟩
 ·rintro k20 s18 o22 a a1 ⟨σ, rfl, hC, hO, h0, a0⟩ hlt hw hs
  refine c_seq (c_sr (mi rfl (pl_val (pq a2 1) (y_faddr rfl Fa35x1) (pl_val (.slice pa0 pn0 pc0) (y_load rfl ((box_load Ag33 Sz33 a0 [(.int .i64 a_.1)] [(.slice pa0 pn0 pc0)] [] rfl rfl (fun _ => rfl)) _ (Chg.refl _ _))) (pl_val _ (y_len' Sl33 (rs_len h0) rfl) (pl_val _ (y_lss rfl rfl) (c_nil (c_condT (cb (decide_eq_true hlt)) (wp_skip (c_seq (wp_block (c_seq (x_start [] Mx rfl ?_)))))))))))))
  have a6 := Chg.drew a1
  generalize World.drew a1 = c2 at a6 ⊢
  have h0 := h0.ext a6
  have a0 := a0.cn a6
  have hC := hC.ext a6
  have hO := hO.ext a6
  have hS := Chg.refl [] c2
  refine x_p 0 (pq a2 0) rfl (by kernel_rfl)  (fun _ => y_faddr rfl Fa35x0) (fun _ => hS) (x_l 1 (.int .i64 a_.1) rfl (by kernel_rfl)  (fun w' hw' => y_load rfl ((box_load Ag3 Sz3 a0 [] [(.int .i64 a_.1)] [(.slice pa0 pn0 pc0)] rfl rfl (fun _ => rfl)) w' hw')) hS (x_p 2 (pq a2 1) rfl (by kernel_rfl)  (fun _ => y_faddr rfl Fa35x1) (fun _ => hS) (x_l 3 (.slice pa0 pn0 pc0) rfl (by kernel_rfl)  (fun w' hw' => y_load rfl ((box_load Ag33 Sz33 a0 [(.int .i64 a_.1)] [(.slice pa0 pn0 pc0)] [] rfl rfl (fun _ => rfl)) w' hw')) hS (x_p 4 (.int .i64 k20) rfl (by kernel_rfl)  (fun _ => y_move rfl) (fun _ => hS) ?_))))
  obtain ⟨x25, c3, hs⟩ := bind_some hs
  obtain ⟨c4, c5, c6, b1⟩ := rs_idx Sl33 Sz89 h0 c3
  refine x_p 5 (pq c4 c5) rfl (by kernel_rfl)  (fun _ => c6 _ _ _ _ _ _ _ _ _ rfl rfl) (fun _ => hS) ?_
  obtain ⟨d7, c7, c8⟩ := at_load Ag89 Sz89 (by intro h; cases h) b1
  obtain ⟨d8, rfl, c9⟩ := c8
  obtain ⟨d9, e0, rfl, d0, d1⟩ := pr_open c9
  obtain rfl := int_rel d0
  obtain ⟨d2, d3, d4, rfl, b2⟩ := rs_rel d1
  refine x_l 6 (.agg #[(.int .i64 x25.1), (.slice d2 d3 d4)]) rfl (by kernel_rfl)  (fun w' hw' => y_load rfl (c7 w' hw')) hS (x_one (i := 7) (by kernel_rfl) ?_)
  obtain ⟨r30, d5, hs⟩ := bind_some hs
  refine xk_call (b := false) rfl  Bd66 rfl (c_spec_l2Op (M := M) a_.1 (x25.1, x25.2) b2 hO.fut d5) rfl (by rintro _ _ _ ⟨rfl, a4⟩; exact hS.ext a4) ?_
  rintro _ e1 ⟨rfl, a4⟩
  have h0 := h0.ext a4
  have a0 := a0.cn a4
  have b2 := b2.ext a4
  have b1 := at_ext b1 a4
  have hC := hC.ext a4
  have hO := hO.ext a4
  have hS := hS.ext a4
  refine x_p 8 (.bool (!r30)) rfl (by kernel_rfl)  (fun _ => y_not rfl) (fun _ => hS) (x_end (by kernel_rfl) ?_)
  clear hS
  rcases bif_some hs with ⟨b3, hs⟩ | ⟨b3, hs⟩
  ·refine c_condT (cb b3) (c_sr (ab rfl (c_nil (wp_ret ?_))))
   cases hs
   exact ⟨_, fr_ovl 30 ⟨rfl, trivial⟩, hC⟩
  refine c_condF (cb b3) (wp_skip (c_region (mi rfl (pl_val (.int .i64 (w64 (k20 + 1))) (y_add rfl rfl) (ai rfl (c_nil ?_))))))
  cases hs
  exact ⟨_, fr_ovl 30 ⟨rfl, congrArg (Value.int .i64) hw, trivial⟩, hC, hO, h0, a0⟩
 ·skip
  exact ⟨_, fr_ovl 30 ⟨rfl, rfl, trivial⟩, hC, hO, h0, a0⟩
 cases o22 with
 | nx _ => exact True.intro
 | rt r_ =>
  have hs := after_rt hs
  intro b6 b7 hK
  cases hs
  exact hK
 | br s18 =>
  have hs := after_br hs
  rintro b6 a1 ⟨σ, rfl, hC, hO, h0, a0⟩
  refine c_sr (ab rfl (c_nil (wp_ret ?_)))
  cases hs
  exact ⟨_, fr_ovl 30 ⟨rfl, trivial⟩, hC⟩

def k_spec_l2Elements (M : Nat → Prop) (w0 : World) (r : Bool) (a : Act) (w : World) : Prop :=
  ∃ (σ : Nat → Value) , a = fr 20 (ovl σ [(4, (.bool r))]) ∧ Chg [] w0 w
def s_spec_l2Elements (n : Int) (list : List Int) : Option (Bool) :=
  (forC (S := Unit) (R := Bool) (fun k9 s7 =>
  (idx list k9).bind fun x13 =>
  (s_spec_l1In x13 0 (w64 (n - 1))).bind fun r16 =>
  (bif (!r16) then some (.rt false) else some (.nx ()))) 0 (list.length : Int) ()).bind fun o11 => after o11 (fun r_ => some r_) (fun s7 =>
  some true)
set_option maxHeartbeats 4000000 in
theorem c_spec_l2Elements {M : Nat → Prop} {w : World} {pa0 : Option Addr} {pn0 pc0 : Nat} (n : Int) (list : List Int) (h0 : (RT.rs ri).val M w (.slice pa0 pn0 pc0) list ([])) (hM : ∀ g, w.heap.size ≤ g → M g) {r : Bool} (hs : s_spec_l2Elements n list = some r) :
    Gives Try.prog 116 [(.int .i64 n), (.slice pa0 pn0 pc0)] w (fun v w' => v = (.bool r) ∧ Chg [] w w') := by
 refine calls_fr Try.func116 rfl Try.ntmps116 (Nat.le_of_ble_eq_true rfl) ?_
 have hO := Own.start (N := Nw w []) hM Nw.fut
 have hC := Chg.refl [] w
 unfold s_spec_l2Elements at hs
 refine wp_mono (Q := KPost (k_spec_l2Elements M w r)) ?_ (fun e a a4 h => ?_)
 rotate_left
 ·cases e
  case ret =>
   obtain ⟨σ, rfl, hrest⟩ := h
   exact ret1x Try.results116 (res_tmp rfl) ⟨rfl, hrest⟩
  all_goals exact (h : False).elim
 refine c_sr (ab rfl (c_nil (c_seq (c_sr (ai rfl (c_nil ?_))))))
 obtain ⟨o11, a5, hs⟩ := bind_some hs
 refine wp_block (wp_forC (id := 0) (list.length : Int) (I := fun k9 s7 a a0 => ∃ (σ : Nat → Value), a = fr 20 (ovl σ [(0, (.int .i64 n)), (1, (.slice pa0 pn0 pc0)), (5, (.int .i64 k9))]) ∧ Chg [] w a0 ∧ Own (Nw w []) M a0 ([]) ∧ (RT.rs ri).val M a0 (.slice pa0 pn0 pc0) list ([])) (J := fun s7 a a0 => ∃ (σ : Nat → Value), a = fr 20 (ovl σ []) ∧ Chg [] w a0 ∧ Own (Nw w []) M a0 ([]) ∧ (RT.rs ri).val M a0 (.slice pa0 pn0 pc0) list ([])) (K := (k_spec_l2Elements M w)) ?_ ?_ 0 () o11 _ _ ?_ a5 ?_)
 ·rintro k9 s7 a a0 ⟨σ, rfl, hC, hO, h0⟩ hlt
  refine c_seq (c_sr (mi rfl (ms rfl (pl_val _ (y_len' Sl43 (rs_len h0) rfl) (pl_val _ (y_lss rfl rfl) (c_nil (c_condF (cb (decide_eq_false hlt)) (wp_exit ?_))))))))
  exact ⟨rfl, _, fr_ovl 20 trivial, hC, hO, h0⟩
 ·rintro k9 s7 o11 a a0 ⟨σ, rfl, hC, hO, h0⟩ hlt hw hs
  refine c_seq (c_sr (mi rfl (ms rfl (pl_val _ (y_len' Sl43 (rs_len h0) rfl) (pl_val _ (y_lss rfl rfl) (c_nil (c_condT (cb (decide_eq_true hlt)) (wp_skip (c_seq (wp_block (c_sr (ms rfl (mi rfl ?_)))))))))))))
  obtain ⟨x13, a6, hs⟩ := bind_some hs
  obtain ⟨a7, a8, a9, a2⟩ := rs_idx Sl43 Sz3 h0 a6
  refine pl_val _ (a9 _ _ _ _ _ _ _ _ _ rfl rfl) (pl_val (.int .i64 x13) (y_load rfl ((at_load_int Ag3 Sz3 a2) _ (Chg.refl _ _))) (mi rfl (pl_val (.int .i64 (w64 (n - 1))) (y_sub rfl rfl) ?_)))
  obtain ⟨r16, b0, hs⟩ := bind_some hs
  refine pl_call Bd65 rfl (c_spec_l1In (M := M) x13 0 (w64 (n - 1))  hO.fut b0) ?_
  rintro _ b2 ⟨rfl, a1⟩
  have h0 := h0.ext a1
  have a2 := at_ext a2 a1
  have hC := hC.ext a1
  have hO := hO.ext a1
  refine pl_val _ (y_not rfl) (c_nil ?_)
  rcases bif_some hs with ⟨a3, hs⟩ | ⟨a3, hs⟩
  ·refine c_condT (cb a3) (c_sr (ab rfl (c_nil (wp_ret ?_))))
   cases hs
   exact ⟨_, fr_ovl 20 ⟨rfl, trivial⟩, hC⟩
  refine c_condF (cb a3) (wp_skip (c_region (mi rfl (pl_val (.int .i64 (w64 (k9 + 1))) (y_add rfl rfl) (ai rfl (c_nil ?_))))))
  cases hs
  exact ⟨_, fr_ovl 20 ⟨rfl, rfl, congrArg (Value.int .i64) hw, trivial⟩, hC, hO, h0⟩
 ·skip
  exact ⟨_, fr_ovl 20 ⟨rfl, rfl, rfl, trivial⟩, hC, hO, h0⟩
 cases o11 with
 | nx _ => exact True.intro
 | rt r_ =>
  have hs := after_rt hs
  intro b1 a4 hK
  cases hs
  exact hK
 | br s7 =>
  have hs := after_br hs
  rintro b1 a0 ⟨σ, rfl, hC, hO, h0⟩
  refine c_sr (ab rfl (c_nil (wp_ret ?_)))
  cases hs
  exact ⟨_, fr_ovl 20 ⟨rfl, trivial⟩, hC⟩

theorem Bd116 : Bodied Try.prog 116 := bodied Try.func116 (by kernel_rfl) rfl

def k_spec_l8Tuple (M : Nat → Prop) (w0 : World) (r : Bool) (a : Act) (w : World) : Prop :=
  ∃ (σ : Nat → Value) , a = fr 16 (ovl σ [(6, (.bool r))]) ∧ Chg [] w0 w
def s_spec_l8Tuple (n : Int) (k : Int) (t : List Int) : Option (Bool) :=
  (bif ((t.length : Int) == k) then (s_spec_l2Elements n t).bind fun r4 =>
  some r4 else some false)
set_option maxHeartbeats 4000000 in
theorem c_spec_l8Tuple {M : Nat → Prop} {w : World} {pa0 : Option Addr} {pn0 pc0 : Nat} (n : Int) (k : Int) (t : List Int) (h0 : (RT.rs ri).val M w (.slice pa0 pn0 pc0) t ([])) (hM : ∀ g, w.heap.size ≤ g → M g) {r : Bool} (hs : s_spec_l8Tuple n k t = some r) :
    Gives Try.prog 106 [(.int .i64 n), (.int .i64 k), (.slice pa0 pn0 pc0)] w (fun v w' => v = (.bool r) ∧ Chg [] w w') := by
 refine calls_fr Try.func106 rfl Try.ntmps106 (Nat.le_of_ble_eq_true rfl) ?_
 have hO := Own.start (N := Nw w []) hM Nw.fut
 have hC := Chg.refl [] w
 unfold s_spec_l8Tuple at hs
 refine wp_mono (Q := KPost (k_spec_l8Tuple M w r)) ?_ (fun e a a3 h => ?_)
 rotate_left
 ·cases e
  case ret =>
   obtain ⟨σ, rfl, hrest⟩ := h
   exact ret1x Try.results106 (res_tmp rfl) ⟨rfl, hrest⟩
  all_goals exact (h : False).elim
 refine c_sr (ab rfl (c_nil (c_sr (ms rfl (pl_val _ (y_len' Sl43 (rs_len h0) rfl) (mi rfl (pl_val (.bool ((t.length : Int) == k)) (y_eql rfl rfl) (mb rfl ?_))))))))
 rcases bif_some hs with ⟨a0, hs⟩ | ⟨a0, hs⟩
 ·skip
  refine pl_yes (.int .i64 n) (tg := 11) (by kernel_rfl) (cb a0) (y_move rfl) (pl_yes (.slice pa0 pn0 pc0) (tg := 11) (by kernel_rfl) (cb a0) (y_move rfl) ?_)
  obtain ⟨r4, a2, hs⟩ := bind_some hs
  refine pl_cally (tg := 11) (by kernel_rfl) (cb a0) Bd116 rfl (c_spec_l2Elements (M := M) n t h0 hO.fut a2) ?_
  rintro _ a4 ⟨rfl, a1⟩
  have h0 := h0.ext a1
  have hC := hC.ext a1
  have hO := hO.ext a1
  refine pl_val (.bool r4) (y_pick_t (cb a0) rfl) (ab rfl (c_nil (wp_ret ?_)))
  cases hs
  exact ⟨_, fr_ovl 16 ⟨rfl, trivial⟩, hC⟩
 refine pl_not (tg := 11) (by kernel_rfl) (cb a0) (pl_not (tg := 11) (by kernel_rfl) (cb a0) (pl_not (tg := 11) (by kernel_rfl) (cb a0) (pl_val (.bool false) (y_pick_f (cb a0) rfl) (ab rfl (c_nil (wp_ret ?_))))))
 cases hs
 exact ⟨_, fr_ovl 16 ⟨rfl, trivial⟩, hC⟩

theorem Bd106 : Bodied Try.prog 106 := bodied Try.func106 (by kernel_rfl) rfl

def k_spec_l8Tuples (M : Nat → Prop) (w0 : World) (r : Bool) (a : Act) (w : World) : Prop :=
  ∃ (σ : Nat → Value) , a = fr 24 (ovl σ [(6, (.bool r))]) ∧ Chg [] w0 w
def s_spec_l8Tuples (n : Int) (k : Int) (list : List (List Int)) : Option (Bool) :=
  (forC (S := Unit) (R := Bool) (fun k11 s9 =>
  (idx list k11).bind fun x15 =>
  (s_spec_l8Tuple n k x15).bind fun r20 =>
  (bif (!r20) then some (.rt false) else some (.nx ()))) 0 (list.length : Int) ()).bind fun o13 => after o13 (fun r_ => some r_) (fun s9 =>
  (s_spec_l1In k 1 64).bind fun r23 =>
  some r23)
set_option maxHeartbeats 4000000 in
theorem c_spec_l8Tuples {M : Nat → Prop} {w : World} {pa0 : Option Addr} {pn0 pc0 : Nat} (n : Int) (k : Int) (list : List (List Int)) (h0 : (RT.rs (RT.rs ri)).val M w (.slice pa0 pn0 pc0) list ([])) (hM : ∀ g, w.heap.size ≤ g → M g) {r : Bool} (hs : s_spec_l8Tuples n k list = some r) :
    Gives Try.prog 93 [(.int .i64 n), (.int .i64 k), (.slice pa0 pn0 pc0)] w (fun v w' => v = (.bool r) ∧ Chg [] w w') := by
 refine calls_fr Try.func93 rfl Try.ntmps93 (Nat.le_of_ble_eq_true rfl) ?_
 have hO := Own.start (N := Nw w []) hM Nw.fut
 have hC := Chg.refl [] w
 unfold s_spec_l8Tuples at hs
 refine wp_mono (Q := KPost (k_spec_l8Tuples M w r)) ?_ (fun e a a6 h => ?_)
 rotate_left
 ·cases e
  case ret =>
   obtain ⟨σ, rfl, hrest⟩ := h
   exact ret1x Try.results93 (res_tmp rfl) ⟨rfl, hrest⟩
  all_goals exact (h : False).elim
 refine c_sr (ab rfl (c_nil (c_seq (c_sr (ai rfl (c_nil ?_))))))
 obtain ⟨o13, a7, hs⟩ := bind_some hs
 refine wp_block (wp_forC (id := 0) (list.length : Int) (I := fun k11 s9 a a0 => ∃ (σ : Nat → Value), a = fr 24 (ovl σ [(0, (.int .i64 n)), (1, (.int .i64 k)), (2, (.slice pa0 pn0 pc0)), (7, (.int .i64 k11))]) ∧ Chg [] w a0 ∧ Own (Nw w []) M a0 ([]) ∧ (RT.rs (RT.rs ri)).val M a0 (.slice pa0 pn0 pc0) list ([])) (J := fun s9 a a0 => ∃ (σ : Nat → Value), a = fr 24 (ovl σ [(1, (.int .i64 k))]) ∧ Chg [] w a0 ∧ Own (Nw w []) M a0 ([]) ∧ (RT.rs (RT.rs ri)).val M a0 (.slice pa0 pn0 pc0) list ([])) (K := (k_spec_l8Tuples M w)) ?_ ?_ 0 () o13 _ _ ?_ a7 ?_)
 ·rintro k11 s9 a a0 ⟨σ, rfl, hC, hO, h0⟩ hlt
  refine c_seq (c_sr (mi rfl (ms rfl (pl_val _ (y_len' Sl25 (rs_len h0) rfl) (pl_val _ (y_lss rfl rfl) (c_nil (c_condF (cb (decide_eq_false hlt)) (wp_exit ?_))))))))
  exact ⟨rfl, _, fr_ovl 24 ⟨rfl, trivial⟩, hC, hO, h0⟩
 ·rintro k11 s9 o13 a a0 ⟨σ, rfl, hC, hO, h0⟩ hlt hw hs
  refine c_seq (c_sr (mi rfl (ms rfl (pl_val _ (y_len' Sl25 (rs_len h0) rfl) (pl_val _ (y_lss rfl rfl) (c_nil (c_condT (cb (decide_eq_true hlt)) (wp_skip (c_seq (wp_block (c_sr (mi rfl (mi rfl (ms rfl (mi rfl ?_)))))))))))))))
  obtain ⟨x15, a8, hs⟩ := bind_some hs
  obtain ⟨a9, b0, b1, a3⟩ := rs_idx Sl25 Sz43 h0 a8
  refine pl_val _ (b1 _ _ _ _ _ _ _ _ _ rfl rfl) ?_
  obtain ⟨b9, b2, a2⟩ := at_load Ag43 Sz43 (fun _ => rfl) a3
  obtain ⟨b3, b4, b5, rfl⟩ := rs_sl a2
  refine pl_val (.slice b3 b4 b5) (y_load rfl (b2 _ (Chg.refl _ _))) ?_
  obtain ⟨r20, b6, hs⟩ := bind_some hs
  refine pl_call Bd106 rfl (c_spec_l8Tuple (M := M) n k x15 a2 hO.fut b6) ?_
  rintro _ c0 ⟨rfl, a1⟩
  have h0 := h0.ext a1
  have a2 := a2.ext a1
  have a3 := at_ext a3 a1
  have hC := hC.ext a1
  have hO := hO.ext a1
  refine pl_val _ (y_not rfl) (c_nil ?_)
  rcases bif_some hs with ⟨a4, hs⟩ | ⟨a4, hs⟩
  ·refine c_condT (cb a4) (c_sr (ab rfl (c_nil (wp_ret ?_))))
   cases hs
   exact ⟨_, fr_ovl 24 ⟨rfl, trivial⟩, hC⟩
  refine c_condF (cb a4) (wp_skip (c_region (mi rfl (pl_val (.int .i64 (w64 (k11 + 1))) (y_add rfl rfl) (ai rfl (c_nil ?_))))))
  cases hs
  exact ⟨_, fr_ovl 24 ⟨rfl, rfl, rfl, congrArg (Value.int .i64) hw, trivial⟩, hC, hO, h0⟩
 ·skip
  exact ⟨_, fr_ovl 24 ⟨rfl, rfl, rfl, rfl, trivial⟩, hC, hO, h0⟩
 cases o13 with
 | nx _ => exact True.intro
 | rt r_ =>
  have hs := after_rt hs
  intro b7 a6 hK
  cases hs
  exact hK
 | br s9 =>
  have hs := after_br hs
  rintro b7 a0 ⟨σ, rfl, hC, hO, h0⟩
  refine c_sr (mi rfl ?_)
  obtain ⟨r23, b8, hs⟩ := bind_some hs
  refine pl_call Bd65 rfl (c_spec_l1In (M := M) k 1 64  hO.fut b8) ?_
  rintro _ c1 ⟨rfl, a5⟩
  have h0 := h0.ext a5
  have hC := hC.ext a5
  have hO := hO.ext a5
  refine ab rfl (c_nil (wp_ret ?_))
  cases hs
  exact ⟨_, fr_ovl 24 ⟨rfl, trivial⟩, hC⟩

theorem Bd35 : Bodied Try.prog 35 := bodied Try.func35 (by kernel_rfl) rfl

theorem Bd93 : Bodied Try.prog 93 := bodied Try.func93 (by kernel_rfl) rfl

def k_spec_l8Gens (M : Nat → Prop) (w0 : World) (r : Bool) (a : Act) (w : World) : Prop :=
  ∃ (σ : Nat → Value) , a = fr 21 (ovl σ [(6, (.bool r))]) ∧ Chg [] w0 w
def s_spec_l8Gens (a_ : Int × (List (Int × (List Int)))) (k : Int) (gens : List (List Int)) : Option (Bool) :=
  (s_spec_l2Good (a_.1, a_.2)).bind fun r5 =>
  (bif r5 then (bif (decide ((gens.length : Int) ≤ 20)) then (s_spec_l8Tuples a_.1 k gens).bind fun r9 =>
  some r9 else some false) else some false)
set_option maxHeartbeats 4000000 in
theorem c_spec_l8Gens {M : Nat → Prop} {w : World} {pa0 : Option Addr} {pn0 pc0 : Nat} {pa1 : Option Addr} {pn1 pc1 : Nat} (a_ : Int × (List (Int × (List Int)))) (k : Int) (gens : List (List Int)) (h0 : (RT.rs (RT.pr ri (RT.rs ri))).val M w (.slice pa0 pn0 pc0) a_.2 ([])) (h1 : (RT.rs (RT.rs ri)).val M w (.slice pa1 pn1 pc1) gens ([])) (hM : ∀ g, w.heap.size ≤ g → M g) {r : Bool} (hs : s_spec_l8Gens a_ k gens = some r) :
    Gives Try.prog 52 [(.agg #[(.int .i64 a_.1), (.slice pa0 pn0 pc0)]), (.int .i64 k), (.slice pa1 pn1 pc1)] w (fun v w' => v = (.bool r) ∧ Chg [] w w') := by
 refine calls_fr Try.func52 rfl Try.ntmps52 (Nat.le_of_ble_eq_true rfl) ?_
 have hO := Own.start (N := Nw w []) hM Nw.fut
 have hC := Chg.refl [] w
 unfold s_spec_l8Gens at hs
 refine wp_mono (Q := KPost (k_spec_l8Gens M w r)) ?_ (fun e a b2 h => ?_)
 rotate_left
 ·cases e
  case ret =>
   obtain ⟨σ, rfl, hrest⟩ := h
   exact ret1x Try.results52 (res_tmp rfl) ⟨rfl, hrest⟩
  all_goals exact (h : False).elim
 refine c_sr ?_
 obtain ⟨a8, a6, a9, a7, a5, a2⟩ := new_block w [(.int .i64 a_.1), (.slice pa0 pn0 pc0)] 35
 refine pl_val (w' := a8) (pq a6 0) (y_box rfl (by rw [a9, a7]; kernel_rfl)) ?_
 have h0 := h0.ext a5
 have h1 := h1.ext a5
 have hC := hC.ext a5
 have hO := hO.new1 a5 a7 a2.lt
 refine ab rfl (c_nil (c_sr (pl_val (.agg #[(.int .i64 a_.1), (.slice pa0 pn0 pc0)]) (y_load rfl ((box_load Ag35 Sz35 a2 [] [(.int .i64 a_.1), (.slice pa0 pn0 pc0)] [] rfl rfl (fun h => nomatch h)) _ (Chg.refl _ _))) ?_)))
 obtain ⟨r5, b0, hs⟩ := bind_some hs
 refine pl_call Bd35 rfl (c_spec_l2Good (M := M) (a_.1, a_.2) h0 hO.fut b0) ?_
 rintro _ b3 ⟨rfl, a3⟩
 have h0 := h0.ext a3
 have h1 := h1.ext a3
 have a2 := a2.cn a3
 have hC := hC.ext a3
 have hO := hO.ext a3
 refine mb rfl ?_
 rcases bif_some hs with ⟨a1, hs⟩ | ⟨a1, hs⟩
 ·skip
  refine pl_yes (.slice pa1 pn1 pc1) (tg := 9) (by kernel_rfl) (cb a1) (y_move rfl) (pl_yes (.int .i64 (gens.length : Int)) (tg := 9) (by kernel_rfl) (cb a1) (y_len' Sl25 (rs_len h1) rfl) (pl_yes (.bool (decide ((gens.length : Int) ≤ 20))) (tg := 9) (by kernel_rfl) (cb a1) (y_leq rfl rfl) (pl_val (.bool (decide ((gens.length : Int) ≤ 20))) (y_pick_t (cb a1) rfl) (mb rfl ?_))))
  rcases bif_some hs with ⟨a0, hs⟩ | ⟨a0, hs⟩
  ·skip
   refine pl_yes (pq a6 0) (tg := 14) (by kernel_rfl) (cb a0) (y_faddr rfl Fa35x0) (pl_yes (.int .i64 a_.1) (tg := 14) (by kernel_rfl) (cb a0) (y_load rfl ((box_load Ag3 Sz3 a2 [] [(.int .i64 a_.1)] [(.slice pa0 pn0 pc0)] rfl rfl (fun _ => rfl)) _ (Chg.refl _ _))) (pl_yes (.int .i64 k) (tg := 14) (by kernel_rfl) (cb a0) (y_move rfl) (pl_yes (.slice pa1 pn1 pc1) (tg := 14) (by kernel_rfl) (cb a0) (y_move rfl) ?_)))
   obtain ⟨r9, b1, hs⟩ := bind_some hs
   refine pl_cally (tg := 14) (by kernel_rfl) (cb a0) Bd93 rfl (c_spec_l8Tuples (M := M) a_.1 k gens h1 hO.fut b1) ?_
   rintro _ b4 ⟨rfl, a4⟩
   have h0 := h0.ext a4
   have h1 := h1.ext a4
   have a2 := a2.cn a4
   have hC := hC.ext a4
   have hO := hO.ext a4
   refine pl_val (.bool r9) (y_pick_t (cb a0) rfl) (ab rfl (c_nil (wp_ret ?_)))
   cases hs
   exact ⟨_, fr_ovl 21 ⟨rfl, trivial⟩, hC⟩
  refine pl_not (tg := 14) (by kernel_rfl) (cb a0) (pl_not (tg := 14) (by kernel_rfl) (cb a0) (pl_not (tg := 14) (by kernel_rfl) (cb a0) (pl_not (tg := 14) (by kernel_rfl) (cb a0) (pl_not (tg := 14) (by kernel_rfl) (cb a0) (pl_val (.bool false) (y_pick_f (cb a0) rfl) (ab rfl (c_nil (wp_ret ?_))))))))
  cases hs
  exact ⟨_, fr_ovl 21 ⟨rfl, trivial⟩, hC⟩
 refine pl_not (tg := 9) (by kernel_rfl) (cb a1) (pl_not (tg := 9) (by kernel_rfl) (cb a1) (pl_not (tg := 9) (by kernel_rfl) (cb a1) (pl_val (.bool false) (y_pick_f (cb a1) rfl) (mb rfl (pl_not (tg := 14) (by kernel_rfl) (by rfl) (pl_not (tg := 14) (by kernel_rfl) (by rfl) (pl_not (tg := 14) (by kernel_rfl) (by rfl) (pl_not (tg := 14) (by kernel_rfl) (by rfl) (pl_not (tg := 14) (by kernel_rfl) (by rfl) (pl_val (.bool false) (y_pick_f (by rfl) rfl) (ab rfl (c_nil (wp_ret ?_)))))))))))))
 cases hs
 exact ⟨_, fr_ovl 21 ⟨rfl, trivial⟩, hC⟩

def k_spec_l1Most (M : Nat → Prop) (w0 : World) (r : Int) (a : Act) (w : World) : Prop :=
  ∃ (σ : Nat → Value) , a = fr 10 (ovl σ [(4, (.int .i64 r))]) ∧ Chg [] w0 w
def s_spec_l1Most (a_ : Int) (b : Int) : Option (Int) :=
  (bif (decide (b < a_)) then some a_ else some b)
set_option maxHeartbeats 4000000 in
theorem c_spec_l1Most {M : Nat → Prop} {w : World}  (a_ : Int) (b : Int)  (hM : ∀ g, w.heap.size ≤ g → M g) {r : Int} (hs : s_spec_l1Most a_ b = some r) :
    Gives Try.prog 107 [(.int .i64 a_), (.int .i64 b)] w (fun v w' => v = (.int .i64 r) ∧ Chg [] w w') := by
 refine calls_fr Try.func107 rfl Try.ntmps107 (Nat.le_of_ble_eq_true rfl) ?_
 have hO := Own.start (N := Nw w []) hM Nw.fut
 have hC := Chg.refl [] w
 unfold s_spec_l1Most at hs
 refine wp_mono (Q := KPost (k_spec_l1Most M w r)) ?_ (fun e a a1 h => ?_)
 rotate_left
 ·cases e
  case ret =>
   obtain ⟨σ, rfl, hrest⟩ := h
   exact ret1x Try.results107 (res_tmp rfl) ⟨rfl, hrest⟩
  all_goals exact (h : False).elim
 refine c_sr (ai rfl (c_nil (c_seq (c_sr (mi rfl (mi rfl (pl_val _ (y_gtr rfl rfl) (c_nil ?_))))))))
 rcases bif_some hs with ⟨a0, hs⟩ | ⟨a0, hs⟩
 ·refine c_condT (cb a0) (c_sr (mi rfl (ai rfl (c_nil (wp_ret ?_)))))
  cases hs
  exact ⟨_, fr_ovl 10 ⟨rfl, trivial⟩, hC⟩
 refine c_condF (cb a0) (wp_skip (c_sr (mi rfl (ai rfl (c_nil (wp_ret ?_))))))
 cases hs
 exact ⟨_, fr_ovl 10 ⟨rfl, trivial⟩, hC⟩

theorem Bd107 : Bodied Try.prog 107 := bodied Try.func107 (by kernel_rfl) rfl

def k_spec_l8Most (M : Nat → Prop) (w0 : World) (r : Int) (a : Act) (w : World) : Prop :=
  ∃ (σ : Nat → Value) , a = fr 25 (ovl σ [(2, (.int .i64 r))]) ∧ Chg [] w0 w
def s_spec_l8Most (a_ : Int × (List (Int × (List Int)))) : Option (Int) :=
  (forC (S := Int) (R := Int) (fun k10 s8 =>
  (idx a_.2 k10).bind fun x14 =>
  (s_spec_l1Most s8 x14.1).bind fun r18 =>
  some (.nx r18)) 0 (a_.2.length : Int) 0).bind fun o12 => after o12 (fun r_ => some r_) (fun s8 =>
  (bif (s8 == 3) then some 40 else (bif (s8 == 2) then some 200 else some 300)))
set_option maxHeartbeats 4000000 in
theorem c_spec_l8Most {M : Nat → Prop} {w : World} {pa0 : Option Addr} {pn0 pc0 : Nat} (a_ : Int × (List (Int × (List Int)))) (h0 : (RT.rs (RT.pr ri (RT.rs ri))).val M w (.slice pa0 pn0 pc0) a_.2 ([])) (hM : ∀ g, w.heap.size ≤ g → M g) {r : Int} (hs : s_spec_l8Most a_ = some r) :
    Gives Try.prog 69 [(.agg #[(.int .i64 a_.1), (.slice pa0 pn0 pc0)])] w (fun v w' => v = (.int .i64 r) ∧ Chg [] w w') := by
 refine calls_fr Try.func69 rfl Try.ntmps69 (Nat.le_of_ble_eq_true rfl) ?_
 have hO := Own.start (N := Nw w []) hM Nw.fut
 have hC := Chg.refl [] w
 unfold s_spec_l8Most at hs
 refine wp_mono (Q := KPost (k_spec_l8Most M w r)) ?_ (fun e a b2 h => ?_)
 rotate_left
 ·cases e
  case ret =>
   obtain ⟨σ, rfl, hrest⟩ := h
   exact ret1x Try.results69 (res_tmp rfl) ⟨rfl, hrest⟩
  all_goals exact (h : False).elim
 refine c_sr ?_
 obtain ⟨b3, a2, b4, a9, a4, a0⟩ := new_block w [(.int .i64 a_.1), (.slice pa0 pn0 pc0)] 35
 refine pl_val (w' := b3) (pq a2 0) (y_box rfl (by rw [b4, a9]; kernel_rfl)) ?_
 have h0 := h0.ext a4
 have hC := hC.ext a4
 have hO := hO.new1 a4 a9 a0.lt
 refine ai rfl (c_nil (c_sr (ai rfl (c_nil (c_seq (c_sr (ai rfl (c_nil ?_))))))))
 obtain ⟨o12, b5, hs⟩ := bind_some hs
 refine wp_block (wp_forC (id := 0) (a_.2.length : Int) (I := fun k10 s8 a a1 => ∃ (σ : Nat → Value), a = fr 25 (ovl σ [(1, (pq a2 0)), (3, (.int .i64 s8)), (4, (.int .i64 k10))]) ∧ Chg [] w a1 ∧ Own (Nw w []) M a1 (([a2]) ++ []) ∧ (RT.rs (RT.pr ri (RT.rs ri))).val M a1 (.slice pa0 pn0 pc0) a_.2 ([]) ∧ BoxV a1 a2 35 [(.int .i64 a_.1), (.slice pa0 pn0 pc0)]) (J := fun s8 a a1 => ∃ (σ : Nat → Value), a = fr 25 (ovl σ [(3, (.int .i64 s8))]) ∧ Chg [] w a1 ∧ Own (Nw w []) M a1 (([a2]) ++ []) ∧ (RT.rs (RT.pr ri (RT.rs ri))).val M a1 (.slice pa0 pn0 pc0) a_.2 ([]) ∧ BoxV a1 a2 35 [(.int .i64 a_.1), (.slice pa0 pn0 pc0)]) (K := (k_spec_l8Most M w)) ?_ ?_ 0 0 o12 _ _ ?_ b5 ?_)
 ·rintro k10 s8 a a1 ⟨σ, rfl, hC, hO, h0, a0⟩ hlt
  refine c_seq (c_sr (mi rfl (pl_val (pq a2 1) (y_faddr rfl Fa35x1) (pl_val (.slice pa0 pn0 pc0) (y_load rfl ((box_load Ag33 Sz33 a0 [(.int .i64 a_.1)] [(.slice pa0 pn0 pc0)] [] rfl rfl (fun _ => rfl)) _ (Chg.refl _ _))) (pl_val _ (y_len' Sl33 (rs_len h0) rfl) (pl_val _ (y_lss rfl rfl) (c_nil (c_condF (cb (decide_eq_false hlt)) (wp_exit ?_)))))))))
  exact ⟨rfl, _, fr_ovl 25 ⟨rfl, trivial⟩, hC, hO, h0, a0⟩
 ·rintro k10 s8 o12 a a1 ⟨σ, rfl, hC, hO, h0, a0⟩ hlt hw hs
  refine c_seq (c_sr (mi rfl (pl_val (pq a2 1) (y_faddr rfl Fa35x1) (pl_val (.slice pa0 pn0 pc0) (y_load rfl ((box_load Ag33 Sz33 a0 [(.int .i64 a_.1)] [(.slice pa0 pn0 pc0)] [] rfl rfl (fun _ => rfl)) _ (Chg.refl _ _))) (pl_val _ (y_len' Sl33 (rs_len h0) rfl) (pl_val _ (y_lss rfl rfl) (c_nil (c_condT (cb (decide_eq_true hlt)) (wp_skip (c_seq (wp_block (c_region (mi rfl (pl_val (pq a2 1) (y_faddr rfl Fa35x1) (pl_val (.slice pa0 pn0 pc0) (y_load rfl ((box_load Ag33 Sz33 a0 [(.int .i64 a_.1)] [(.slice pa0 pn0 pc0)] [] rfl rfl (fun _ => rfl)) _ (Chg.refl _ _))) (mi rfl ?_))))))))))))))))
  obtain ⟨x14, b6, hs⟩ := bind_some hs
  obtain ⟨b0, b1, b7, a5⟩ := rs_idx Sl33 Sz89 h0 b6
  refine pl_val _ (b7 _ _ _ _ _ _ _ _ _ rfl rfl) ?_
  obtain ⟨a6, _⟩ := pr_at a5
  refine pl_val (.pointer (some ⟨b0, b1 + 0, none⟩)) (y_faddr rfl Fa89x0) (pl_val (.int .i64 x14.1) (y_load rfl ((at_load_int Ag3 Sz3 a6) _ (Chg.refl _ _))) ?_)
  obtain ⟨r18, b8, hs⟩ := bind_some hs
  refine pl_call Bd107 rfl (c_spec_l1Most (M := M) s8 x14.1  hO.fut b8) ?_
  rintro _ c0 ⟨rfl, a3⟩
  have h0 := h0.ext a3
  have a0 := a0.cn a3
  have a5 := at_ext a5 a3
  have a6 := at_ext a6 a3
  have hC := hC.ext a3
  have hO := hO.ext a3
  refine ai rfl (c_nil (c_region (mi rfl (pl_val (.int .i64 (w64 (k10 + 1))) (y_add rfl rfl) (ai rfl (c_nil ?_))))))
  cases hs
  exact ⟨_, fr_ovl 25 ⟨rfl, rfl, congrArg (Value.int .i64) hw, trivial⟩, hC, hO, h0, a0⟩
 ·skip
  exact ⟨_, fr_ovl 25 ⟨rfl, rfl, rfl, trivial⟩, hC, hO, h0, a0⟩
 cases o12 with
 | nx _ => exact True.intro
 | rt r_ =>
  have hs := after_rt hs
  intro b9 b2 hK
  cases hs
  exact hK
 | br s8 =>
  have hs := after_br hs
  rintro b9 a1 ⟨σ, rfl, hC, hO, h0, a0⟩
  refine c_seq (c_sr (mi rfl (c_nil (wp_block (c_sr (pl_val (.bool (s8 == 3)) (y_eql rfl rfl) (ab rfl (c_nil ?_))))))))
  rcases bif_some hs with ⟨a7, hs⟩ | ⟨a7, hs⟩
  ·refine c_condT (cb a7) (c_sr (ai rfl (c_nil (wp_ret ?_))))
   cases hs
   exact ⟨_, fr_ovl 25 ⟨rfl, trivial⟩, hC⟩
  refine c_condF (cb a7) (c_sr (pl_val (.bool (s8 == 2)) (y_eql rfl rfl) (ab rfl (c_nil ?_))))
  rcases bif_some hs with ⟨a8, hs⟩ | ⟨a8, hs⟩
  ·refine c_condT (cb a8) (c_sr (ai rfl (c_nil (wp_ret ?_))))
   cases hs
   exact ⟨_, fr_ovl 25 ⟨rfl, trivial⟩, hC⟩
  refine c_condF (cb a8) (wp_skip (c_sr (ai rfl (c_nil (wp_ret ?_)))))
  cases hs
  exact ⟨_, fr_ovl 25 ⟨rfl, trivial⟩, hC⟩

def k_spec_l1Own (M : Nat → Prop) (w0 : World) (r : (List Int)) (a : Act) (w : World) : Prop :=
  ∃ (σ : Nat → Value) (ra0 : Option Addr) (rn0 rc0 : Nat) (rf0 : List Nat), a = fr 6 (ovl σ [(2, (.slice ra0 rn0 rc0))]) ∧ Chg [] w0 w ∧ (RT.os 3 (RT.int .i64)).val M w (.slice ra0 rn0 rc0) r rf0 ∧ Own (Nw w0 []) (fun _ => True) w (rf0 ++ ([]))
def s_spec_l1Own (l : List Int) : Option ((List Int)) :=
  (app ([]) l).bind fun y5 =>
  some y5
set_option maxHeartbeats 4000000 in
theorem c_spec_l1Own {M : Nat → Prop} {w : World} {pa0 : Option Addr} {pn0 pc0 : Nat} (l : List Int) (h0 : (RT.rs ri).val M w (.slice pa0 pn0 pc0) l ([])) (hM : ∀ g, w.heap.size ≤ g → M g) {r : (List Int)} (hs : s_spec_l1Own l = some r) :
    Gives Try.prog 54 [(.slice pa0 pn0 pc0)] w (fun v w' => ∃ (ra0 : Option Addr) (rn0 rc0 : Nat) (rf0 : List Nat), v = (.slice ra0 rn0 rc0) ∧ Chg [] w w' ∧ (RT.os 3 ri).val M w' (.slice ra0 rn0 rc0) r rf0 ∧ Own (Nw w []) (fun _ => True) w' (rf0 ++ ([]))) := by
 refine calls_fr Try.func54 rfl Try.ntmps54 (Nat.le_of_ble_eq_true rfl) ?_
 have hO := Own.start (N := Nw w []) hM Nw.fut
 have hC := Chg.refl [] w
 unfold s_spec_l1Own at hs
 refine wp_mono (Q := KPost (k_spec_l1Own M w r)) ?_ (fun e a b8 h => ?_)
 rotate_left
 ·cases e
  case ret =>
   obtain ⟨σ, ra0, rn0, rc0, rf0, rfl, hrest⟩ := h
   exact ret1x Try.results54 (res_tmp rfl) ⟨ra0, rn0, rc0, rf0, rfl, hrest⟩
  all_goals exact (h : False).elim
 refine c_sr (ax rfl (c_nil (c_sr ?_)))
 obtain ⟨a8, a1, b2, a9, a2, b0⟩ := new_block w [] 3
 refine pl_val (w' := a8) (.slice (some ⟨a1, 0, none⟩) 0 0) (y_bslice rfl (by rw [b2, a9]; kernel_rfl)) ?_
 have h0 := h0.ext a2
 have hC := hC.ext a2
 have hO := hO.new1 a2 a9 b0.lt
 have a0 := os_of_box (r := ri) (M := M) (css := []) (fps := []) (xs := ([] : List Int)) b0 trivial (Nat.zero_le _) (List.nodup_cons.2 ⟨(fun h => nomatch h), List.nodup_nil⟩)
 have a0 : (RT.os 3 ri).val M a8 (.slice (some ⟨a1, 0, none⟩) 0 0) [] [a1] := a0
 refine ms rfl ?_
 obtain ⟨y5, b3, hs⟩ := bind_some hs
 obtain ⟨a3, a4, a5, b4, b5, b6, a6, b7, a7⟩ := app_rs Rw43 b3 a0 h0 hO.inM
 have b1 := os_block a0
 refine pl_val (w' := b4) (.slice a3 a4 a5) (y_append rfl rfl (b6 _)) ?_
 have h0 := h0.mt a6 hO b1
 have hC := hC.st a6 hO b1
 have hO := hO.grow a6 b7 (os_nodup a7) a7.fpl
 refine ax rfl (c_nil (wp_ret ?_))
 cases hs
 exact ⟨_, a3, a4, a5, b5, fr_ovl 6 ⟨rfl, trivial⟩, hC, a7, hO.top⟩

def k_spec_l8Apply (M : Nat → Prop) (w0 : World) (r : (List Int)) (a : Act) (w : World) : Prop :=
  ∃ (σ : Nat → Value) (ra0 : Option Addr) (rn0 rc0 : Nat) (rf0 : List Nat), a = fr 50 (ovl σ [(8, (.slice ra0 rn0 rc0))]) ∧ Chg [] w0 w ∧ (RT.os 3 (RT.int .i64)).val M w (.slice ra0 rn0 rc0) r rf0 ∧ Own (Nw w0 []) (fun _ => True) w (rf0 ++ ([]))
def s_spec_l8Apply (a_ : Int × (List (Int × (List Int)))) (op : Int) (tuples : List (List Int)) (k : Int) : Option ((List Int)) :=
  (forC (S := (List Int)) (R := (List Int)) (fun k42 s40 =>
  (forC (S := Int) (R := (List Int)) (fun k59 s57 =>
  (idx tuples k59).bind fun x64 =>
  (idx x64 k42).bind fun x68 =>
  some (.nx (w64 ((w64 (s57 * a_.1)) + x68)))) 0 (tuples.length : Int) 0).bind fun o61 => after o61 (fun r_ => some (.rt r_)) (fun s57 =>
  (idx a_.2 op).bind fun x70 =>
  (idx x70.2 s57).bind fun x75 =>
  (app s40 ([x75])).bind fun y80 =>
  some (.nx y80))) 0 k ([])).bind fun o44 => after o44 (fun r_ => some r_) (fun s40 =>
  some s40)
set_option maxHeartbeats 4000000 in
theorem c_spec_l8Apply {M : Nat → Prop} {w : World} {pa0 : Option Addr} {pn0 pc0 : Nat} {pa1 : Option Addr} {pn1 pc1 : Nat} (a_ : Int × (List (Int × (List Int)))) (op : Int) (tuples : List (List Int)) (k : Int) (h0 : (RT.rs (RT.pr ri (RT.rs ri))).val M w (.slice pa0 pn0 pc0) a_.2 ([])) (h1 : (RT.rs (RT.rs ri)).val M w (.slice pa1 pn1 pc1) tuples ([])) (hM : ∀ g, w.heap.size ≤ g → M g) {r : (List Int)} (hs : s_spec_l8Apply a_ op tuples k = some r) :
    Gives Try.prog 70 [(.agg #[(.int .i64 a_.1), (.slice pa0 pn0 pc0)]), (.int .i64 op), (.slice pa1 pn1 pc1), (.int .i64 k)] w (fun v w' => ∃ (ra0 : Option Addr) (rn0 rc0 : Nat) (rf0 : List Nat), v = (.slice ra0 rn0 rc0) ∧ Chg [] w w' ∧ (RT.os 3 ri).val M w' (.slice ra0 rn0 rc0) r rf0 ∧ Own (Nw w []) (fun _ => True) w' (rf0 ++ ([]))) := by
 refine calls_fr Try.func70 rfl Try.ntmps70 (Nat.le_of_ble_eq_true rfl) ?_
 have hO := Own.start (N := Nw w []) hM Nw.fut
 have hC := Chg.refl [] w
 unfold s_spec_l8Apply at hs
 refine wp_mono (Q := KPost (k_spec_l8Apply M w r)) ?_ (fun e a d1 h => ?_)
 rotate_left
 ·cases e
  case ret =>
   obtain ⟨σ, ra0, rn0, rc0, rf0, rfl, hrest⟩ := h
   exact ret1x Try.results70 (res_tmp rfl) ⟨ra0, rn0, rc0, rf0, rfl, hrest⟩
  all_goals exact (h : False).elim
 refine c_sr ?_
 obtain ⟨d2, a3, e3, d3, b9, a0⟩ := new_block w [(.int .i64 a_.1), (.slice pa0 pn0 pc0)] 35
 refine pl_val (w' := d2) (pq a3 0) (y_box rfl (by rw [e3, d3]; kernel_rfl)) ?_
 have h0 := h0.ext b9
 have h1 := h1.ext b9
 have hC := hC.ext b9
 have hO := hO.new1 b9 d3 a0.lt
 refine ax rfl (c_nil (c_sr ?_))
 obtain ⟨d4, b1, e4, d5, b7, d6⟩ := new_block d2 [] 3
 refine pl_val (w' := d4) (.slice (some ⟨b1, 0, none⟩) 0 0) (y_bslice rfl (by rw [e4, d5]; kernel_rfl)) ?_
 have h0 := h0.ext b7
 have h1 := h1.ext b7
 have a0 := a0.cn b7
 have hC := hC.ext b7
 have hO := hO.new1 b7 d5 d6.lt
 have c1 := os_of_box (r := ri) (M := M) (css := []) (fps := []) (xs := ([] : List Int)) d6 trivial (Nat.zero_le _) (List.nodup_cons.2 ⟨(fun h => nomatch h), List.nodup_nil⟩)
 have c1 : (RT.os 3 ri).val M d4 (.slice (some ⟨b1, 0, none⟩) 0 0) [] [b1] := c1
 refine ax rfl (c_nil (c_seq (c_sr (ai rfl (c_nil ?_)))))
 obtain ⟨o44, e5, hs⟩ := bind_some hs
 refine wp_block (wp_forC (id := 0) k (I := fun k42 s40 a a2 => ∃ (σ : Nat → Value) (a5 : Option Addr) (a6 : Nat) (a7 : Nat) (a8 : List Nat), a = fr 50 (ovl σ [(1, (.int .i64 op)), (2, (.slice pa1 pn1 pc1)), (3, (.int .i64 k)), (4, (pq a3 0)), (9, (.slice a5 a6 a7)), (10, (.int .i64 k42))]) ∧ Chg [] w a2 ∧ Own (Nw w []) M a2 (a8 ++ (([a3]) ++ [])) ∧ (RT.rs (RT.pr ri (RT.rs ri))).val M a2 (.slice pa0 pn0 pc0) a_.2 ([]) ∧ (RT.rs (RT.rs ri)).val M a2 (.slice pa1 pn1 pc1) tuples ([]) ∧ BoxV a2 a3 35 [(.int .i64 a_.1), (.slice pa0 pn0 pc0)] ∧ (RT.os 3 ri).val M a2 (.slice a5 a6 a7) s40 a8) (J := fun s40 a a2 => ∃ (σ : Nat → Value) (b2 : Option Addr) (b3 : Nat) (b4 : Nat) (c0 : List Nat), a = fr 50 (ovl σ [(9, (.slice b2 b3 b4))]) ∧ Chg [] w a2 ∧ Own (Nw w []) M a2 (c0 ++ (([a3]) ++ [])) ∧ (RT.rs (RT.pr ri (RT.rs ri))).val M a2 (.slice pa0 pn0 pc0) a_.2 ([]) ∧ (RT.rs (RT.rs ri)).val M a2 (.slice pa1 pn1 pc1) tuples ([]) ∧ BoxV a2 a3 35 [(.int .i64 a_.1), (.slice pa0 pn0 pc0)] ∧ (RT.os 3 ri).val M a2 (.slice b2 b3 b4) s40 c0) (K := (k_spec_l8Apply M w)) ?_ ?_ 0 ([]) o44 _ _ ?_ e5 ?_)
 ·rintro k42 s40 a a2 ⟨σ, a5, a6, a7, a8, rfl, hC, hO, h0, h1, a0, a4⟩ hlt
  refine c_seq (c_sr (mi rfl (mi rfl (pl_val _ (y_lss rfl rfl) (c_nil (c_condF (cb (decide_eq_false hlt)) (wp_exit ?_)))))))
  have hO := hO.fr1
  have hO := hO.fr1
  exact ⟨rfl, _, a5, a6, a7, a8, fr_ovl 50 ⟨rfl, trivial⟩, hC, hO, h0, h1, a0, a4⟩
 ·rintro k42 s40 o44 a a2 ⟨σ, a5, a6, a7, a8, rfl, hC, hO, h0, h1, a0, a4⟩ hlt hw hs
  refine c_seq (c_sr (mi rfl (mi rfl (pl_val _ (y_lss rfl rfl) (c_nil (c_condT (cb (decide_eq_true hlt)) (wp_skip (c_seq (wp_block (c_sr (ai rfl (c_nil (c_seq (c_sr (ai rfl (c_nil ?_))))))))))))))))
  obtain ⟨o61, e6, hs⟩ := bind_some hs
  refine wp_block (wp_forC (id := 2) (tuples.length : Int) (I := fun k59 s57 a a1 => ∃ (σ : Nat → Value), a = fr 50 (ovl σ [(1, (.int .i64 op)), (2, (.slice pa1 pn1 pc1)), (3, (.int .i64 k)), (4, (pq a3 0)), (9, (.slice a5 a6 a7)), (10, (.int .i64 k42)), (11, (.int .i64 s57)), (12, (.int .i64 k59))]) ∧ Chg [] w a1 ∧ Own (Nw w []) M a1 (a8 ++ (([a3]) ++ [])) ∧ (RT.rs (RT.pr ri (RT.rs ri))).val M a1 (.slice pa0 pn0 pc0) a_.2 ([]) ∧ (RT.rs (RT.rs ri)).val M a1 (.slice pa1 pn1 pc1) tuples ([]) ∧ BoxV a1 a3 35 [(.int .i64 a_.1), (.slice pa0 pn0 pc0)] ∧ (RT.os 3 ri).val M a1 (.slice a5 a6 a7) s40 a8) (J := fun s57 a a1 => ∃ (σ : Nat → Value), a = fr 50 (ovl σ [(1, (.int .i64 op)), (2, (.slice pa1 pn1 pc1)), (3, (.int .i64 k)), (4, (pq a3 0)), (9, (.slice a5 a6 a7)), (10, (.int .i64 k42)), (11, (.int .i64 s57))]) ∧ Chg [] w a1 ∧ Own (Nw w []) M a1 (a8 ++ (([a3]) ++ [])) ∧ (RT.rs (RT.pr ri (RT.rs ri))).val M a1 (.slice pa0 pn0 pc0) a_.2 ([]) ∧ (RT.rs (RT.rs ri)).val M a1 (.slice pa1 pn1 pc1) tuples ([]) ∧ BoxV a1 a3 35 [(.int .i64 a_.1), (.slice pa0 pn0 pc0)] ∧ (RT.os 3 ri).val M a1 (.slice a5 a6 a7) s40 a8) (K := (k_spec_l8Apply M w)) ?_ ?_ 0 0 o61 _ _ ?_ e6 ?_)
  ·rintro k59 s57 a a1 ⟨σ, rfl, hC, hO, h0, h1, a0, a4⟩ hlt
   refine c_seq (c_sr (mi rfl (ms rfl (pl_val _ (y_len' Sl25 (rs_len h1) rfl) (pl_val _ (y_lss rfl rfl) (c_nil (c_condF (cb (decide_eq_false hlt)) (wp_exit ?_))))))))
   have hO := hO.fr1
   have hO := hO.fr1
   exact ⟨rfl, _, fr_ovl 50 ⟨rfl, rfl, rfl, rfl, rfl, rfl, rfl, trivial⟩, hC, hO, h0, h1, a0, a4⟩
  ·rintro k59 s57 o61 a a1 ⟨σ, rfl, hC, hO, h0, h1, a0, a4⟩ hlt hw hs
   refine c_seq (c_sr (mi rfl (ms rfl (pl_val _ (y_len' Sl25 (rs_len h1) rfl) (pl_val _ (y_lss rfl rfl) (c_nil (c_condT (cb (decide_eq_true hlt)) (wp_skip (c_seq (wp_block (x_start [] Mx rfl ?_)))))))))))
   have b0 := Chg.drew a1
   generalize World.drew a1 = e7 at b0 ⊢
   have h0 := h0.ext b0
   have h1 := h1.ext b0
   have a0 := a0.cn b0
   have a4 := a4.ext b0
   have hC := hC.ext b0
   have hO := hO.ext b0
   have hS := Chg.refl [] e7
   refine x_p 0 (.int .i64 s57) rfl (by kernel_rfl)  (fun _ => y_move rfl) (fun _ => hS) (x_p 1 (pq a3 0) rfl (by kernel_rfl)  (fun _ => y_faddr rfl Fa35x0) (fun _ => hS) (x_l 2 (.int .i64 a_.1) rfl (by kernel_rfl)  (fun w' hw' => y_load rfl ((box_load Ag3 Sz3 a0 [] [(.int .i64 a_.1)] [(.slice pa0 pn0 pc0)] rfl rfl (fun _ => rfl)) w' hw')) hS (x_p 3 (.int .i64 (w64 (s57 * a_.1))) rfl (by kernel_rfl)  (fun _ => y_mul rfl rfl) (fun _ => hS) (x_p 4 (.slice pa1 pn1 pc1) rfl (by kernel_rfl)  (fun _ => y_move rfl) (fun _ => hS) (x_p 5 (.int .i64 k59) rfl (by kernel_rfl)  (fun _ => y_move rfl) (fun _ => hS) ?_)))))
   obtain ⟨x64, e8, hs⟩ := bind_some hs
   obtain ⟨e9, f0, f1, f2⟩ := rs_idx Sl25 Sz43 h1 e8
   refine x_p 6 (pq e9 f0) rfl (by kernel_rfl)  (fun _ => f1 _ _ _ _ _ _ _ _ _ rfl rfl) (fun _ => hS) ?_
   obtain ⟨i2, f3, d7⟩ := at_load Ag43 Sz43 (fun _ => rfl) f2
   obtain ⟨f4, f5, f6, rfl⟩ := rs_sl d7
   refine x_l 7 (.slice f4 f5 f6) rfl (by kernel_rfl)  (fun w' hw' => y_load rfl (f3 w' hw')) hS (x_p 8 (.int .i64 k42) rfl (by kernel_rfl)  (fun _ => y_move rfl) (fun _ => hS) ?_)
   obtain ⟨x68, f7, hs⟩ := bind_some hs
   obtain ⟨f8, f9, g0, g1⟩ := rs_idx Sl43 Sz3 d7 f7
   refine x_p 9 (pq f8 f9) rfl (by kernel_rfl)  (fun _ => g0 _ _ _ _ _ _ _ _ _ rfl rfl) (fun _ => hS) (x_l 10 (.int .i64 x68) rfl (by kernel_rfl)  (fun w' hw' => y_load rfl ((at_load_int Ag3 Sz3 g1) w' hw')) hS (x_p 11 (.int .i64 (w64 ((w64 (s57 * a_.1)) + x68))) rfl (by kernel_rfl)  (fun _ => y_add rfl rfl) (fun _ => hS) (x_p 12 (.int .i64 (w64 ((w64 (s57 * a_.1)) + x68))) rfl (by kernel_rfl)  (fun _ => y_assign rfl) (fun _ => hS) (x_end (by kernel_rfl) ?_))))
   clear hS
   refine c_region (mi rfl (pl_val (.int .i64 (w64 (k59 + 1))) (y_add rfl rfl) (ai rfl (c_nil ?_))))
   cases hs
   have hO := hO.fr1
   have hO := hO.fr1
   exact ⟨_, fr_ovl 50 ⟨rfl, rfl, rfl, rfl, rfl, rfl, rfl, congrArg (Value.int .i64) hw, trivial⟩, hC, hO, h0, h1, a0, a4⟩
  ·skip
   have hO := hO.fr1
   have hO := hO.fr1
   exact ⟨_, fr_ovl 50 ⟨rfl, rfl, rfl, rfl, rfl, rfl, rfl, rfl, trivial⟩, hC, hO, h0, h1, a0, a4⟩
  cases o61 with
  | nx _ => exact True.intro
  | rt r_ =>
   have hs := after_rt hs
   intro c2 d1 hK
   cases hs
   exact hK
  | br s57 =>
   have hs := after_br hs
   rintro c2 a1 ⟨σ, rfl, hC, hO, h0, h1, a0, a4⟩
   refine c_region (ms rfl (pl_val (pq a3 1) (y_faddr rfl Fa35x1) (pl_val (.slice pa0 pn0 pc0) (y_load rfl ((box_load Ag33 Sz33 a0 [(.int .i64 a_.1)] [(.slice pa0 pn0 pc0)] [] rfl rfl (fun _ => rfl)) _ (Chg.refl _ _))) (mi rfl ?_))))
   obtain ⟨x70, g2, hs⟩ := bind_some hs
   obtain ⟨d8, d9, g3, c3⟩ := rs_idx Sl33 Sz89 h0 g2
   refine pl_val _ (g3 _ _ _ _ _ _ _ _ _ rfl rfl) ?_
   obtain ⟨_, g4⟩ := pr_at c3
   refine pl_val (.pointer (some ⟨d8, d9 + 1, none⟩)) (y_faddr rfl Fa89x1) ?_
   obtain ⟨i3, g5, b5⟩ := at_load Ag43 Sz43 (fun _ => rfl) g4
   obtain ⟨g6, g7, g8, rfl⟩ := rs_sl b5
   refine pl_val (.slice g6 g7 g8) (y_load rfl (g5 _ (Chg.refl _ _))) (mi rfl ?_)
   obtain ⟨x75, g9, hs⟩ := bind_some hs
   obtain ⟨h2, h3, h4, c4⟩ := rs_idx Sl43 Sz3 b5 g9
   refine pl_val _ (h4 _ _ _ _ _ _ _ _ _ rfl rfl) (pl_val (.int .i64 x75) (y_load rfl ((at_load_int Ag3 Sz3 c4) _ (Chg.refl _ _))) ?_)
   obtain ⟨e0, c5, h5, e1, a9, e2⟩ := new_block a1 [(.int .i64 x75)] 3
   refine pl_val (w' := e0) (.slice (some ⟨c5, 0, none⟩) 1 1) (y_bslice rfl (by rw [h5, e1]; kernel_rfl)) ?_
   have h0 := h0.ext a9
   have h1 := h1.ext a9
   have a0 := a0.cn a9
   have a4 := a4.ext a9
   have b5 := b5.ext a9
   have c3 := at_ext c3 a9
   have c4 := at_ext c4 a9
   have hC := hC.ext a9
   have hO := hO.new1 a9 e1 e2.lt
   have c6 := os_of_box (r := ri) (M := M) (css := [[(.int .i64 x75)]]) (fps := [([] : List Nat)]) (xs := ([x75] : List Int)) e2 ⟨⟨rfl, rfl⟩, trivial⟩ (Nat.le_of_ble_eq_true rfl) (List.nodup_cons.2 ⟨(fun h => nomatch h), List.nodup_nil⟩)
   have c6 : (RT.os 3 ri).val M e0 (.slice (some ⟨c5, 0, none⟩) 1 1) [x75] [c5] := c6
   obtain ⟨y80, h6, hs⟩ := bind_some hs
   have hO := hO.fr1
   obtain ⟨c7, c8, c9, h7, h8, h9, b6, i0, d0⟩ := app_os Rw43 h6 a4 c6 hO.inM (fun g hg hq => hO.apart g hq (mem_l hg))
   have b8 := os_block a4
   refine pl_val (w' := h7) (.slice c7 c8 c9) (y_append rfl rfl (h9 _)) ?_
   have hO := hO.fr1
   have hO := hO.fr1
   have h0 := h0.mt b6 hO b8
   have h1 := h1.mt b6 hO b8
   have a0 := a0.ap b6 hO b8 (mem_r (mem_l (List.mem_singleton.2 rfl)))
   have b5 := b5.mt b6 hO b8
   have hC := hC.st b6 hO b8
   have hO := hO.eat b6 i0 (os_nodup d0) d0.fpl
   refine ax rfl (c_nil (c_region (mi rfl (pl_val (.int .i64 (w64 (k42 + 1))) (y_add rfl rfl) (ai rfl (c_nil ?_))))))
   cases hs
   have hO := hO.fr1
   have hO := hO.fr1
   exact ⟨_, c7, c8, c9, h8, fr_ovl 50 ⟨rfl, rfl, rfl, rfl, rfl, congrArg (Value.int .i64) hw, trivial⟩, hC, hO, h0, h1, a0, d0⟩
 ·skip
  have hO := hO.fr1
  have hO := hO.fr1
  exact ⟨_, (some ⟨b1, 0, none⟩), 0, 0, ([b1]), fr_ovl 50 ⟨rfl, rfl, rfl, rfl, rfl, rfl, trivial⟩, hC, hO, h0, h1, a0, c1⟩
 cases o44 with
 | nx _ => exact True.intro
 | rt r_ =>
  have hs := after_rt hs
  intro c2 d1 hK
  cases hs
  exact hK
 | br s40 =>
  have hs := after_br hs
  rintro c2 a2 ⟨σ, b2, b3, b4, c0, rfl, hC, hO, h0, h1, a0, i1⟩
  refine c_sr (ms rfl (ax rfl (c_nil (wp_ret ?_))))
  cases hs
  have hO := hO.fr1
  have hO := hO.drop
  exact ⟨_, b2, b3, b4, c0, fr_ovl 50 ⟨rfl, trivial⟩, hC, i1, hO.top⟩

def k_spec_l3Less (M : Nat → Prop) (w0 : World) (r : Bool) (a : Act) (w : World) : Prop :=
  ∃ (σ : Nat → Value) , a = fr 30 (ovl σ [(4, (.bool r))]) ∧ Chg [] w0 w
def s_spec_l3Less (a_ : List Int) (b : List Int) : Option (Bool) :=
  (forC (S := Unit) (R := Bool) (fun k21 s19 =>
  (idx a_ k21).bind fun x31 =>
  (idx b k21).bind fun x33 =>
  (bif (x31 != x33) then (idx a_ k21).bind fun x37 =>
  (idx b k21).bind fun x39 =>
  some (.rt (decide (x37 < x39))) else some (.nx ()))) 0 (a_.length : Int) ()).bind fun o23 => after o23 (fun r_ => some r_) (fun s19 =>
  some false)
set_option maxHeartbeats 4000000 in
theorem c_spec_l3Less {M : Nat → Prop} {w : World} {pa0 : Option Addr} {pn0 pc0 : Nat} {pa1 : Option Addr} {pn1 pc1 : Nat} (a_ : List Int) (b : List Int) (h0 : (RT.rs ri).val M w (.slice pa0 pn0 pc0) a_ ([])) (h1 : (RT.rs ri).val M w (.slice pa1 pn1 pc1) b ([])) (hM : ∀ g, w.heap.size ≤ g → M g) {r : Bool} (hs : s_spec_l3Less a_ b = some r) :
    Gives Try.prog 85 [(.slice pa0 pn0 pc0), (.slice pa1 pn1 pc1)] w (fun v w' => v = (.bool r) ∧ Chg [] w w') := by
 refine calls_fr Try.func85 rfl Try.ntmps85 (Nat.le_of_ble_eq_true rfl) ?_
 have hO := Own.start (N := Nw w []) hM Nw.fut
 have hC := Chg.refl [] w
 unfold s_spec_l3Less at hs
 refine wp_mono (Q := KPost (k_spec_l3Less M w r)) ?_ (fun e a a7 h => ?_)
 rotate_left
 ·cases e
  case ret =>
   obtain ⟨σ, rfl, hrest⟩ := h
   exact ret1x Try.results85 (res_tmp rfl) ⟨rfl, hrest⟩
  all_goals exact (h : False).elim
 refine c_sr (ab rfl (c_nil (c_seq (c_sr (ai rfl (c_nil ?_))))))
 obtain ⟨o23, a8, hs⟩ := bind_some hs
 refine wp_block (wp_forC (id := 0) (a_.length : Int) (I := fun k21 s19 a a0 => ∃ (σ : Nat → Value), a = fr 30 (ovl σ [(0, (.slice pa0 pn0 pc0)), (1, (.slice pa1 pn1 pc1)), (5, (.int .i64 k21))]) ∧ Chg [] w a0 ∧ Own (Nw w []) M a0 ([]) ∧ (RT.rs ri).val M a0 (.slice pa0 pn0 pc0) a_ ([]) ∧ (RT.rs ri).val M a0 (.slice pa1 pn1 pc1) b ([])) (J := fun s19 a a0 => ∃ (σ : Nat → Value), a = fr 30 (ovl σ []) ∧ Chg [] w a0 ∧ Own (Nw w []) M a0 ([]) ∧ (RT.rs ri).val M a0 (.slice pa0 pn0 pc0) a_ ([]) ∧ (RT.rs ri).val M a0 (.slice pa1 pn1 pc1) b ([])) (K := (k_spec_l3Less M w)) ?_ ?_ 0 () o23 _ _ ?_ a8 ?_)
 ·rintro k21 s19 a a0 ⟨σ, rfl, hC, hO, h0, h1⟩ hlt
  refine c_seq (c_sr (mi rfl (ms rfl (pl_val _ (y_len' Sl43 (rs_len h0) rfl) (pl_val _ (y_lss rfl rfl) (c_nil (c_condF (cb (decide_eq_false hlt)) (wp_exit ?_))))))))
  exact ⟨rfl, _, fr_ovl 30 trivial, hC, hO, h0, h1⟩
 ·rintro k21 s19 o23 a a0 ⟨σ, rfl, hC, hO, h0, h1⟩ hlt hw hs
  refine c_seq (c_sr (mi rfl (ms rfl (pl_val _ (y_len' Sl43 (rs_len h0) rfl) (pl_val _ (y_lss rfl rfl) (c_nil (c_condT (cb (decide_eq_true hlt)) (wp_skip (c_seq (wp_block (c_seq (x_start [] Mx rfl ?_))))))))))))
  have a2 := Chg.drew a0
  generalize World.drew a0 = a3 at a2 ⊢
  have h0 := h0.ext a2
  have h1 := h1.ext a2
  have hC := hC.ext a2
  have hO := hO.ext a2
  have hS := Chg.refl [] a3
  refine x_p 0 (.slice pa0 pn0 pc0) rfl (by kernel_rfl)  (fun _ => y_move rfl) (fun _ => hS) (x_p 1 (.int .i64 k21) rfl (by kernel_rfl)  (fun _ => y_move rfl) (fun _ => hS) ?_)
  obtain ⟨x31, a9, hs⟩ := bind_some hs
  obtain ⟨b0, b1, b2, a4⟩ := rs_idx Sl43 Sz3 h0 a9
  refine x_p 2 (pq b0 b1) rfl (by kernel_rfl)  (fun _ => b2 _ _ _ _ _ _ _ _ _ rfl rfl) (fun _ => hS) (x_l 3 (.int .i64 x31) rfl (by kernel_rfl)  (fun w' hw' => y_load rfl ((at_load_int Ag3 Sz3 a4) w' hw')) hS (x_p 4 (.slice pa1 pn1 pc1) rfl (by kernel_rfl)  (fun _ => y_move rfl) (fun _ => hS) (x_p 5 (.int .i64 k21) rfl (by kernel_rfl)  (fun _ => y_move rfl) (fun _ => hS) ?_)))
  obtain ⟨x33, b3, hs⟩ := bind_some hs
  obtain ⟨b4, b5, b6, a5⟩ := rs_idx Sl43 Sz3 h1 b3
  refine x_p 6 (pq b4 b5) rfl (by kernel_rfl)  (fun _ => b6 _ _ _ _ _ _ _ _ _ rfl rfl) (fun _ => hS) (x_l 7 (.int .i64 x33) rfl (by kernel_rfl)  (fun w' hw' => y_load rfl ((at_load_int Ag3 Sz3 a5) w' hw')) hS (x_p 8 (.bool (x31 != x33)) rfl (by kernel_rfl)  (fun _ => y_neq rfl rfl) (fun _ => hS) (x_end (by kernel_rfl) ?_)))
  clear hS
  rcases bif_some hs with ⟨a6, hs⟩ | ⟨a6, hs⟩
  ·refine c_condT (cb a6) (c_seq (x_start [] Mx rfl ?_))
   have a1 := Chg.drew a3
   generalize World.drew a3 = b7 at a1 ⊢
   have h0 := h0.ext a1
   have h1 := h1.ext a1
   have a4 := at_ext a4 a1
   have a5 := at_ext a5 a1
   have hC := hC.ext a1
   have hO := hO.ext a1
   have hS := Chg.refl [] b7
   refine x_p 0 (.slice pa0 pn0 pc0) rfl (by kernel_rfl)  (fun _ => y_move rfl) (fun _ => hS) (x_p 1 (.int .i64 k21) rfl (by kernel_rfl)  (fun _ => y_move rfl) (fun _ => hS) ?_)
   obtain ⟨x37, b8, hs⟩ := bind_some hs
   obtain ⟨b9, c0, c1, c2⟩ := rs_idx Sl43 Sz3 h0 b8
   refine x_p 2 (pq b9 c0) rfl (by kernel_rfl)  (fun _ => c1 _ _ _ _ _ _ _ _ _ rfl rfl) (fun _ => hS) (x_l 3 (.int .i64 x37) rfl (by kernel_rfl)  (fun w' hw' => y_load rfl ((at_load_int Ag3 Sz3 c2) w' hw')) hS (x_p 4 (.slice pa1 pn1 pc1) rfl (by kernel_rfl)  (fun _ => y_move rfl) (fun _ => hS) (x_p 5 (.int .i64 k21) rfl (by kernel_rfl)  (fun _ => y_move rfl) (fun _ => hS) ?_)))
   obtain ⟨x39, c3, hs⟩ := bind_some hs
   obtain ⟨c4, c5, c6, c7⟩ := rs_idx Sl43 Sz3 h1 c3
   refine x_p 6 (pq c4 c5) rfl (by kernel_rfl)  (fun _ => c6 _ _ _ _ _ _ _ _ _ rfl rfl) (fun _ => hS) (x_l 7 (.int .i64 x39) rfl (by kernel_rfl)  (fun w' hw' => y_load rfl ((at_load_int Ag3 Sz3 c7) w' hw')) hS (x_p 8 (.bool (decide (x37 < x39))) rfl (by kernel_rfl)  (fun _ => y_lss rfl rfl) (fun _ => hS) (x_p 9 (.bool (decide (x37 < x39))) rfl (by kernel_rfl)  (fun _ => y_assign rfl) (fun _ => hS) (x_end (by kernel_rfl) ?_))))
   clear hS
   refine wp_ret ?_
   cases hs
   exact ⟨_, fr_ovl 30 ⟨rfl, trivial⟩, hC⟩
  refine c_condF (cb a6) (wp_skip (c_region (mi rfl (pl_val (.int .i64 (w64 (k21 + 1))) (y_add rfl rfl) (ai rfl (c_nil ?_))))))
  cases hs
  exact ⟨_, fr_ovl 30 ⟨rfl, rfl, congrArg (Value.int .i64) hw, trivial⟩, hC, hO, h0, h1⟩
 ·skip
  exact ⟨_, fr_ovl 30 ⟨rfl, rfl, rfl, trivial⟩, hC, hO, h0, h1⟩
 cases o23 with
 | nx _ => exact True.intro
 | rt r_ =>
  have hs := after_rt hs
  intro c8 a7 hK
  cases hs
  exact hK
 | br s19 =>
  have hs := after_br hs
  rintro c8 a0 ⟨σ, rfl, hC, hO, h0, h1⟩
  refine c_sr (ab rfl (c_nil (wp_ret ?_)))
  cases hs
  exact ⟨_, fr_ovl 30 ⟨rfl, trivial⟩, hC⟩

def k_spec_l1Same (M : Nat → Prop) (w0 : World) (r : Bool) (a : Act) (w : World) : Prop :=
  ∃ (σ : Nat → Value) , a = fr 26 (ovl σ [(4, (.bool r))]) ∧ Chg [] w0 w
def s_spec_l1Same (a_ : List Int) (b : List Int) : Option (Bool) :=
  (bif ((a_.length : Int) != (b.length : Int)) then some false else (forC (S := Unit) (R := Bool) (fun k12 s10 =>
  (idx a_ k12).bind fun x17 =>
  (idx b k12).bind fun x19 =>
  (bif (x17 != x19) then some (.rt false) else some (.nx ()))) 0 (a_.length : Int) ()).bind fun o14 => after o14 (fun r_ => some r_) (fun s10 =>
  some true))
set_option maxHeartbeats 4000000 in
theorem c_spec_l1Same {M : Nat → Prop} {w : World} {pa0 : Option Addr} {pn0 pc0 : Nat} {pa1 : Option Addr} {pn1 pc1 : Nat} (a_ : List Int) (b : List Int) (h0 : (RT.rs ri).val M w (.slice pa0 pn0 pc0) a_ ([])) (h1 : (RT.rs ri).val M w (.slice pa1 pn1 pc1) b ([])) (hM : ∀ g, w.heap.size ≤ g → M g) {r : Bool} (hs : s_spec_l1Same a_ b = some r) :
    Gives Try.prog 50 [(.slice pa0 pn0 pc0), (.slice pa1 pn1 pc1)] w (fun v w' => v = (.bool r) ∧ Chg [] w w') := by
 refine calls_fr Try.func50 rfl Try.ntmps50 (Nat.le_of_ble_eq_true rfl) ?_
 have hO := Own.start (N := Nw w []) hM Nw.fut
 have hC := Chg.refl [] w
 unfold s_spec_l1Same at hs
 refine wp_mono (Q := KPost (k_spec_l1Same M w r)) ?_ (fun e a a4 h => ?_)
 rotate_left
 ·cases e
  case ret =>
   obtain ⟨σ, rfl, hrest⟩ := h
   exact ret1x Try.results50 (res_tmp rfl) ⟨rfl, hrest⟩
  all_goals exact (h : False).elim
 refine c_sr (ab rfl (c_nil (c_seq (c_sr (ms rfl (pl_val _ (y_len' Sl43 (rs_len h0) rfl) (ms rfl (pl_val _ (y_len' Sl43 (rs_len h1) rfl) (pl_val (.bool ((a_.length : Int) != (b.length : Int))) (y_neq rfl rfl) (c_nil ?_))))))))))
 rcases bif_some hs with ⟨a2, hs⟩ | ⟨a2, hs⟩
 ·refine c_condT (cb a2) (c_sr (ab rfl (c_nil (wp_ret ?_))))
  cases hs
  exact ⟨_, fr_ovl 26 ⟨rfl, trivial⟩, hC⟩
 refine c_condF (cb a2) (wp_skip (c_seq (c_sr (ai rfl (c_nil ?_)))))
 obtain ⟨o14, a5, hs⟩ := bind_some hs
 refine wp_block (wp_forC (id := 0) (a_.length : Int) (I := fun k12 s10 a a0 => ∃ (σ : Nat → Value), a = fr 26 (ovl σ [(0, (.slice pa0 pn0 pc0)), (1, (.slice pa1 pn1 pc1)), (5, (.int .i64 k12))]) ∧ Chg [] w a0 ∧ Own (Nw w []) M a0 ([]) ∧ (RT.rs ri).val M a0 (.slice pa0 pn0 pc0) a_ ([]) ∧ (RT.rs ri).val M a0 (.slice pa1 pn1 pc1) b ([])) (J := fun s10 a a0 => ∃ (σ : Nat → Value), a = fr 26 (ovl σ []) ∧ Chg [] w a0 ∧ Own (Nw w []) M a0 ([]) ∧ (RT.rs ri).val M a0 (.slice pa0 pn0 pc0) a_ ([]) ∧ (RT.rs ri).val M a0 (.slice pa1 pn1 pc1) b ([])) (K := (k_spec_l1Same M w)) ?_ ?_ 0 () o14 _ _ ?_ a5 ?_)
 ·rintro k12 s10 a a0 ⟨σ, rfl, hC, hO, h0, h1⟩ hlt
  refine c_seq (c_sr (mi rfl (ms rfl (pl_val _ (y_len' Sl43 (rs_len h0) rfl) (pl_val _ (y_lss rfl rfl) (c_nil (c_condF (cb (decide_eq_false hlt)) (wp_exit ?_))))))))
  exact ⟨rfl, _, fr_ovl 26 trivial, hC, hO, h0, h1⟩
 ·rintro k12 s10 o14 a a0 ⟨σ, rfl, hC, hO, h0, h1⟩ hlt hw hs
  refine c_seq (c_sr (mi rfl (ms rfl (pl_val _ (y_len' Sl43 (rs_len h0) rfl) (pl_val _ (y_lss rfl rfl) (c_nil (c_condT (cb (decide_eq_true hlt)) (wp_skip (c_seq (wp_block (c_seq (x_start [] Mx rfl ?_))))))))))))
  have a1 := Chg.drew a0
  generalize World.drew a0 = a6 at a1 ⊢
  have h0 := h0.ext a1
  have h1 := h1.ext a1
  have hC := hC.ext a1
  have hO := hO.ext a1
  have hS := Chg.refl [] a6
  refine x_p 0 (.slice pa0 pn0 pc0) rfl (by kernel_rfl)  (fun _ => y_move rfl) (fun _ => hS) (x_p 1 (.int .i64 k12) rfl (by kernel_rfl)  (fun _ => y_move rfl) (fun _ => hS) ?_)
  obtain ⟨x17, a7, hs⟩ := bind_some hs
  obtain ⟨a8, a9, b0, b1⟩ := rs_idx Sl43 Sz3 h0 a7
  refine x_p 2 (pq a8 a9) rfl (by kernel_rfl)  (fun _ => b0 _ _ _ _ _ _ _ _ _ rfl rfl) (fun _ => hS) (x_l 3 (.int .i64 x17) rfl (by kernel_rfl)  (fun w' hw' => y_load rfl ((at_load_int Ag3 Sz3 b1) w' hw')) hS (x_p 4 (.slice pa1 pn1 pc1) rfl (by kernel_rfl)  (fun _ => y_move rfl) (fun _ => hS) (x_p 5 (.int .i64 k12) rfl (by kernel_rfl)  (fun _ => y_move rfl) (fun _ => hS) ?_)))
  obtain ⟨x19, b2, hs⟩ := bind_some hs
  obtain ⟨b3, b4, b5, b6⟩ := rs_idx Sl43 Sz3 h1 b2
  refine x_p 6 (pq b3 b4) rfl (by kernel_rfl)  (fun _ => b5 _ _ _ _ _ _ _ _ _ rfl rfl) (fun _ => hS) (x_l 7 (.int .i64 x19) rfl (by kernel_rfl)  (fun w' hw' => y_load rfl ((at_load_int Ag3 Sz3 b6) w' hw')) hS (x_p 8 (.bool (x17 != x19)) rfl (by kernel_rfl)  (fun _ => y_neq rfl rfl) (fun _ => hS) (x_end (by kernel_rfl) ?_)))
  clear hS
  rcases bif_some hs with ⟨a3, hs⟩ | ⟨a3, hs⟩
  ·refine c_condT (cb a3) (c_sr (ab rfl (c_nil (wp_ret ?_))))
   cases hs
   exact ⟨_, fr_ovl 26 ⟨rfl, trivial⟩, hC⟩
  refine c_condF (cb a3) (wp_skip (c_region (mi rfl (pl_val (.int .i64 (w64 (k12 + 1))) (y_add rfl rfl) (ai rfl (c_nil ?_))))))
  cases hs
  exact ⟨_, fr_ovl 26 ⟨rfl, rfl, congrArg (Value.int .i64) hw, trivial⟩, hC, hO, h0, h1⟩
 ·skip
  exact ⟨_, fr_ovl 26 ⟨rfl, rfl, rfl, trivial⟩, hC, hO, h0, h1⟩
 cases o14 with
 | nx _ => exact True.intro
 | rt r_ =>
  have hs := after_rt hs
  intro b7 a4 hK
  cases hs
  exact hK
 | br s10 =>
  have hs := after_br hs
  rintro b7 a0 ⟨σ, rfl, hC, hO, h0, h1⟩
  refine c_sr (ab rfl (c_nil (wp_ret ?_)))
  cases hs
  exact ⟨_, fr_ovl 26 ⟨rfl, trivial⟩, hC⟩

theorem Bd85 : Bodied Try.prog 85 := bodied Try.func85 (by kernel_rfl) rfl

theorem Bd50 : Bodied Try.prog 50 := bodied Try.func50 (by kernel_rfl) rfl

def k_spec_l8Find (M : Nat → Prop) (w0 : World) (r : Int × Bool) (a : Act) (w : World) : Prop :=
  ∃ (σ : Nat → Value) , a = fr 40 (ovl σ [(4, (.int .i64 r.1)), (5, (.bool r.2))]) ∧ Chg [] w0 w
def s_spec_l8Find (list : List (List Int)) (t : List Int) : Option (Int × Bool) :=
  (iter (S := Int × Int) (R := Int × Bool) (fun s11 =>
  (bif (decide (s11.1 < s11.2)) then (idx list (w64 (Int.tdiv (w64 (s11.1 + s11.2)) 2))).bind fun x18 =>
  (s_spec_l3Less x18 t).bind fun r23 =>
  (bif r23 then some (.nx (w64 ((w64 (Int.tdiv (w64 (s11.1 + s11.2)) 2)) + 1), s11.2)) else some (.nx (s11.1, w64 (Int.tdiv (w64 (s11.1 + s11.2)) 2)))) else some (.br (s11.1, s11.2)))) FU (0, (list.length : Int))).bind fun o15 => after o15 (fun r_ => some r_) (fun s11 =>
  (bif (decide (s11.1 < (list.length : Int))) then (idx list s11.1).bind fun x26 =>
  (s_spec_l1Same x26 t).bind fun r31 =>
  some (s11.1, r31) else some (s11.1, false)))
set_option maxHeartbeats 4000000 in
theorem c_spec_l8Find {M : Nat → Prop} {w : World} {pa0 : Option Addr} {pn0 pc0 : Nat} {pa1 : Option Addr} {pn1 pc1 : Nat} (list : List (List Int)) (t : List Int) (h0 : (RT.rs (RT.rs ri)).val M w (.slice pa0 pn0 pc0) list ([])) (h1 : (RT.rs ri).val M w (.slice pa1 pn1 pc1) t ([])) (hM : ∀ g, w.heap.size ≤ g → M g) {r : Int × Bool} (hs : s_spec_l8Find list t = some r) :
    Gives Try.prog 46 [(.slice pa0 pn0 pc0), (.slice pa1 pn1 pc1)] w (fun v w' => v = (.tuple #[(.int .i64 r.1), (.bool r.2)]) ∧ Chg [] w w') := by
 refine calls_fr Try.func46 rfl Try.ntmps46 (Nat.le_of_ble_eq_true rfl) ?_
 have hO := Own.start (N := Nw w []) hM Nw.fut
 have hC := Chg.refl [] w
 unfold s_spec_l8Find at hs
 refine wp_mono (Q := KPost (k_spec_l8Find M w r)) ?_ (fun e a b0 h => ?_)
 rotate_left
 ·cases e
  case ret =>
   obtain ⟨σ, rfl, hrest⟩ := h
   exact ret2x Try.results46 (res_tmp rfl) (res_tmp rfl) ⟨rfl, hrest⟩
  all_goals exact (h : False).elim
 refine c_sr (ai rfl (ab rfl (c_nil (c_sr (ms rfl (pl_val _ (y_len' Sl25 (rs_len h0) rfl) (ai rfl (ai rfl (c_nil (c_seq ?_))))))))))
 obtain ⟨o15, b1, hs⟩ := bind_some hs
 refine wp_block (wp_iter (id := 0) (I := fun s11 a a1 => ∃ (σ : Nat → Value), a = fr 40 (ovl σ [(0, (.slice pa0 pn0 pc0)), (1, (.slice pa1 pn1 pc1)), (6, (.int .i64 s11.1)), (7, (.int .i64 s11.2))]) ∧ Chg [] w a1 ∧ Own (Nw w []) M a1 ([]) ∧ (RT.rs (RT.rs ri)).val M a1 (.slice pa0 pn0 pc0) list ([]) ∧ (RT.rs ri).val M a1 (.slice pa1 pn1 pc1) t ([])) (J := fun s11 a a1 => ∃ (σ : Nat → Value), a = fr 40 (ovl σ [(0, (.slice pa0 pn0 pc0)), (1, (.slice pa1 pn1 pc1)), (6, (.int .i64 s11.1))]) ∧ Chg [] w a1 ∧ Own (Nw w []) M a1 ([]) ∧ (RT.rs (RT.rs ri)).val M a1 (.slice pa0 pn0 pc0) list ([]) ∧ (RT.rs ri).val M a1 (.slice pa1 pn1 pc1) t ([])) (K := (k_spec_l8Find M w)) ?_ FU (0, (list.length : Int)) o15 _ _ ?_ b1 ?_)
 ·rintro s11 o15 a a1 ⟨σ, rfl, hC, hO, h0, h1⟩ hs
  refine c_seq (c_sr (mi rfl (mi rfl (pl_val _ (y_lss rfl rfl) (c_nil ?_)))))
  rcases bif_some hs with ⟨a6, hs⟩ | ⟨a6, hs⟩
  ·refine c_condT (cb a6) (wp_skip (wp_block (c_sr (mi rfl (mi rfl (pl_val (.int .i64 (w64 (s11.1 + s11.2))) (y_add rfl rfl) (pl_val (.int .i64 (w64 (Int.tdiv (w64 (s11.1 + s11.2)) 2))) (y_quo rfl rfl (by decide)) (ai rfl (c_nil (c_sr (ms rfl (mi rfl ?_))))))))))))
   obtain ⟨x18, b2, hs⟩ := bind_some hs
   obtain ⟨b3, b4, b5, a7⟩ := rs_idx Sl25 Sz43 h0 b2
   refine pl_val _ (b5 _ _ _ _ _ _ _ _ _ rfl rfl) ?_
   obtain ⟨d1, b6, a4⟩ := at_load Ag43 Sz43 (fun _ => rfl) a7
   obtain ⟨b7, b8, b9, rfl⟩ := rs_sl a4
   refine pl_val (.slice b7 b8 b9) (y_load rfl (b6 _ (Chg.refl _ _))) (ms rfl ?_)
   obtain ⟨r23, c0, hs⟩ := bind_some hs
   refine pl_call Bd85 rfl (c_spec_l3Less (M := M) x18 t a4 h1 hO.fut c0) ?_
   rintro _ d2 ⟨rfl, a2⟩
   have h0 := h0.ext a2
   have h1 := h1.ext a2
   have a4 := a4.ext a2
   have a7 := at_ext a7 a2
   have hC := hC.ext a2
   have hO := hO.ext a2
   refine c_nil ?_
   rcases bif_some hs with ⟨a8, hs⟩ | ⟨a8, hs⟩
   ·refine c_condT (cb a8) (c_region (mi rfl (pl_val (.int .i64 (w64 ((w64 (Int.tdiv (w64 (s11.1 + s11.2)) 2)) + 1))) (y_add rfl rfl) (ai rfl (c_nil ?_)))))
    cases hs
    exact ⟨_, fr_ovl 40 ⟨rfl, rfl, rfl, rfl, trivial⟩, hC, hO, h0, h1⟩
   refine c_condF (cb a8) (c_region (mi rfl (ai rfl (c_nil ?_))))
   cases hs
   exact ⟨_, fr_ovl 40 ⟨rfl, rfl, rfl, rfl, trivial⟩, hC, hO, h0, h1⟩
  refine c_condF (cb a6) (wp_exit ?_)
  cases hs
  exact ⟨rfl, _, fr_ovl 40 ⟨rfl, rfl, rfl, trivial⟩, hC, hO, h0, h1⟩
 ·skip
  exact ⟨_, fr_ovl 40 ⟨rfl, rfl, rfl, rfl, trivial⟩, hC, hO, h0, h1⟩
 cases o15 with
 | nx _ => exact True.intro
 | rt r_ =>
  have hs := after_rt hs
  intro c1 b0 hK
  cases hs
  exact hK
 | br s11 =>
  have hs := after_br hs
  rintro c1 a1 ⟨σ, rfl, hC, hO, h0, h1⟩
  refine c_sr (mi rfl (mi rfl (ms rfl (pl_val _ (y_len' Sl25 (rs_len h0) rfl) (pl_val _ (y_lss rfl rfl) (mb rfl ?_))))))
  rcases bif_some hs with ⟨a0, hs⟩ | ⟨a0, hs⟩
  ·skip
   refine pl_yes (.slice pa0 pn0 pc0) (tg := 32) (by kernel_rfl) (cb a0) (y_move rfl) (pl_yes (.int .i64 s11.1) (tg := 32) (by kernel_rfl) (cb a0) (y_move rfl) ?_)
   obtain ⟨x26, c2, hs⟩ := bind_some hs
   obtain ⟨c3, c4, c5, a9⟩ := rs_idx Sl25 Sz43 h0 c2
   refine pl_yes (pq c3 c4) (tg := 32) (by kernel_rfl) (cb a0) (c5 _ _ _ _ _ _ _ _ _ rfl rfl) ?_
   obtain ⟨d3, c6, a5⟩ := at_load Ag43 Sz43 (fun _ => rfl) a9
   obtain ⟨c7, c8, c9, rfl⟩ := rs_sl a5
   refine pl_yes (.slice c7 c8 c9) (tg := 32) (by kernel_rfl) (cb a0) (y_load rfl (c6 _ (Chg.refl _ _))) (pl_yes (.slice pa1 pn1 pc1) (tg := 32) (by kernel_rfl) (cb a0) (y_move rfl) ?_)
   obtain ⟨r31, d0, hs⟩ := bind_some hs
   refine pl_cally (tg := 32) (by kernel_rfl) (cb a0) Bd50 rfl (c_spec_l1Same (M := M) x26 t a5 h1 hO.fut d0) ?_
   rintro _ d4 ⟨rfl, a3⟩
   have h0 := h0.ext a3
   have h1 := h1.ext a3
   have a5 := a5.ext a3
   have a9 := at_ext a9 a3
   have hC := hC.ext a3
   have hO := hO.ext a3
   refine pl_val (.bool r31) (y_pick_t (cb a0) rfl) (ai rfl (ab rfl (c_nil (wp_ret ?_))))
   cases hs
   exact ⟨_, fr_ovl 40 ⟨rfl, rfl, trivial⟩, hC⟩
  refine pl_not (tg := 32) (by kernel_rfl) (cb a0) (pl_not (tg := 32) (by kernel_rfl) (cb a0) (pl_not (tg := 32) (by kernel_rfl) (cb a0) (pl_not (tg := 32) (by kernel_rfl) (cb a0) (pl_not (tg := 32) (by kernel_rfl) (cb a0) (pl_not (tg := 32) (by kernel_rfl) (cb a0) (pl_val (.bool false) (y_pick_f (cb a0) rfl) (ai rfl (ab rfl (c_nil (wp_ret ?_))))))))))
  cases hs
  exact ⟨_, fr_ovl 40 ⟨rfl, rfl, trivial⟩, hC⟩

theorem Bd46 : Bodied Try.prog 46 := bodied Try.func46 (by kernel_rfl) rfl

def k_spec_l8Put (M : Nat → Prop) (w0 : World) (r : (List (List Int))) (a : Act) (w : World) : Prop :=
  ∃ (σ : Nat → Value) (ra0 : Option Addr) (rn0 rc0 : Nat), a = fr 27 (ovl σ [(4, (.slice ra0 rn0 rc0))]) ∧ Chg [] w0 w ∧ (RT.rs (RT.rs (RT.int .i64))).val (Past M w0 w) w (.slice ra0 rn0 rc0) r []
def s_spec_l8Put (list : List (List Int)) (t : List Int) : Option ((List (List Int))) :=
  (s_spec_l8Find list t).bind fun r4 =>
  (bif r4.2 then some list else (slc list 0 r4.1).bind fun y8 =>
  (slc list r4.1 (list.length : Int)).bind fun y11 =>
  (app ([]) y8).bind fun y17 =>
  (app y17 ([t])).bind fun y22 =>
  (app y22 y11).bind fun y25 =>
  some y25)
set_option maxHeartbeats 4000000 in
theorem c_spec_l8Put {M : Nat → Prop} {w : World} {pa0 : Option Addr} {pn0 pc0 : Nat} {pa1 : Option Addr} {pn1 pc1 : Nat} (list : List (List Int)) (t : List Int) (h0 : (RT.rs (RT.rs ri)).val M w (.slice pa0 pn0 pc0) list ([])) (h1 : (RT.rs ri).val M w (.slice pa1 pn1 pc1) t ([])) (hM : ∀ g, w.heap.size ≤ g → M g) {r : (List (List Int))} (hs : s_spec_l8Put list t = some r) :
    Gives Try.prog 71 [(.slice pa0 pn0 pc0), (.slice pa1 pn1 pc1)] w (fun v w' => ∃ (ra0 : Option Addr) (rn0 rc0 : Nat), v = (.slice ra0 rn0 rc0) ∧ Chg [] w w' ∧ (RT.rs (RT.rs ri)).val (Past M w w') w' (.slice ra0 rn0 rc0) r []) := by
 refine calls_fr Try.func71 rfl Try.ntmps71 (Nat.le_of_ble_eq_true rfl) ?_
 have hO := Own.start (N := Nw w []) hM Nw.fut
 have hC := Chg.refl [] w
 unfold s_spec_l8Put at hs
 refine wp_mono (Q := KPost (k_spec_l8Put M w r)) ?_ (fun e a q4 h => ?_)
 rotate_left
 ·cases e
  case ret =>
   obtain ⟨σ, ra0, rn0, rc0, rfl, hrest⟩ := h
   exact ret1x Try.results71 (res_tmp rfl) ⟨ra0, rn0, rc0, rfl, hrest⟩
  all_goals exact (h : False).elim
 refine c_sr (ax rfl (c_nil (c_sr (ms rfl (ms rfl ?_)))))
 obtain ⟨r4, j5, hs⟩ := bind_some hs
 refine pl_call Bd46 rfl (c_spec_l8Find (M := M) list t h0 h1 hO.fut j5) ?_
 rintro _ h6 ⟨rfl, d8⟩
 have h0 := h0.ext d8
 have h1 := h1.ext d8
 have hC := hC.ext d8
 have hO := hO.ext d8
 refine pl_val (.tuple #[(.int .i64 r4.1), (.bool r4.2)]) (y_move rfl) (pl_val (.int .i64 r4.1) (y_extract rfl (by kernel_rfl)) (pl_val (.bool r4.2) (y_extract rfl (by kernel_rfl)) (ai rfl (ab rfl (c_nil (c_seq (c_sr (mb rfl (c_nil ?_)))))))))
 rcases bif_some hs with ⟨f1, hs⟩ | ⟨f1, hs⟩
 ·refine c_condT (cb f1) (c_sr (ms rfl (ax rfl (c_nil (wp_ret ?_)))))
  cases hs
  exact ⟨_, pa0, pn0, pc0, fr_ovl 27 ⟨rfl, trivial⟩, hC, (Keeps.out Keeps.refl h0)⟩
 refine c_condF (cb f1) (wp_skip (c_seq (x_start [4, 7, 11] Mx rfl ?_)))
 have c3 := Chg.drew h6
 generalize World.drew h6 = f2 at c3 ⊢
 have h0 := h0.ext c3
 have h1 := h1.ext c3
 have hC := hC.ext c3
 have hO := hO.ext c3
 have hS := Chg.refl [] f2
 refine x_p 1 (.slice pa0 pn0 pc0) rfl (by kernel_rfl)  (fun _ => y_move rfl) (fun _ => hS) (x_p 2 (.int .i64 r4.1) rfl (by kernel_rfl)  (fun _ => y_move rfl) (fun _ => hS) ?_)
 obtain ⟨y8, j6, hs⟩ := bind_some hs
 obtain ⟨j7, j8, j9, a0, q5, k0, q6⟩ := rs_part Try.underlying25 Sz43 h0 j6
 refine x_p 3 (.slice j7 j8 j9) rfl (by kernel_rfl)  (fun _ => y_slice rfl rfl rfl (k0 rfl _)) (fun _ => hS) (x_p 5 (.slice pa1 pn1 pc1) rfl (by kernel_rfl)  (fun _ => y_move rfl) (fun _ => hS) (x_p 8 (.slice pa0 pn0 pc0) rfl (by kernel_rfl)  (fun _ => y_move rfl) (fun _ => hS) (x_p 9 (.int .i64 r4.1) rfl (by kernel_rfl)  (fun _ => y_move rfl) (fun _ => hS) ?_)))
 obtain ⟨y11, k1, hs⟩ := bind_some hs
 obtain ⟨k2, k3, k4, a1, q7, q8, k5⟩ := rs_part Try.underlying25 Sz43 h0 k1
 refine x_p 10 (.slice k2 k3 k4) rfl (by kernel_rfl)  (fun _ => y_slice rfl rfl rfl (k5 rfl _)) (fun _ => hS) (x_two (i := 0) (j := 6) (by kernel_rfl) ?_ ?_)
 ·skip
  obtain ⟨f3, f4, k6, h7, a5, h8⟩ := new_block f2 [] 43
  refine xk_val (w' := f3) (b := false) (.slice (some ⟨f4, 0, none⟩) 0 0) rfl  (y_bslice rfl (by rw [k6, h7]; kernel_rfl)) rfl (fun _ => hS.ext a5) ?_
  have h0 := h0.ext a5
  have h1 := h1.ext a5
  have a0 := a0.ext a5
  have a1 := a1.ext a5
  have hC := hC.ext a5
  have hO := hO.new1 a5 h7 h8.lt
  have b1 := os_of_box (r := (RT.os 3 ri)) (M := M) (css := []) (fps := []) (xs := ([] : List (List Int))) h8 trivial (Nat.zero_le _) (List.nodup_cons.2 ⟨(fun h => nomatch h), List.nodup_nil⟩)
  have b1 : (RT.os 43 (RT.os 3 ri)).val M f3 (.slice (some ⟨f4, 0, none⟩) 0 0) [] [f4] := b1
  have hS := hS.ext a5
  refine x_two (i := 4) (j := 6) (by kernel_rfl) ?_ ?_
  ·skip
   obtain ⟨b2, q9, d9, k7, hO, h9⟩ := os_inner (Frz.os Frz.int) b1 hO
   have h0 := h0.sub (M' := b2) d9
   have h1 := h1.sub (M' := b2) d9
   have a0 := a0.sub (M' := b2) d9
   have a1 := a1.sub (M' := b2) d9
   have hK := k7
   obtain ⟨y17, c4, hs⟩ := bind_some hs
   obtain ⟨k8, k9, l0, i0, r0, l1, b3, l2, b4⟩ := app_rs Rw25 c4 h9 a0 hO.inM
   have c5 := os_block h9
   refine xk_val (w' := i0) (b := true) (.slice k8 k9 l0) rfl  (y_append rfl rfl (l1 _)) rfl (fun h => nomatch h) ?_
   have h0 := h0.mt b3 hO c5
   have h1 := h1.mt b3 hO c5
   have a0 := a0.mt b3 hO c5
   have a1 := a1.mt b3 hO c5
   have hC := hC.st b3 hO c5
   have hO := hO.grow b3 l2 (os_nodup b4) b4.fpl
   refine x_one (i := 6) (by kernel_rfl) ?_
   obtain ⟨i1, f5, l3, i2, a7, i3⟩ := new_block i0 [(.slice pa1 pn1 pc1)] 43
   refine xk_val (w' := i1) (b := true) (.slice (some ⟨f5, 0, none⟩) 1 1) rfl  (y_bslice rfl (by rw [l3, i2]; kernel_rfl)) rfl (fun h => nomatch h) ?_
   have h0 := h0.ext a7
   have h1 := h1.ext a7
   have a0 := a0.ext a7
   have a1 := a1.ext a7
   have b4 := b4.ext a7
   have hC := hC.ext a7
   have hO := hO.new1 a7 i2 i3.lt
   have f6 := os_of_box (r := (RT.rs ri)) (M := b2) (css := [[(.slice pa1 pn1 pc1)]]) (fps := [([] : List Nat)]) (xs := ([t] : List (List Int))) i3 ⟨(rs_unval h1), trivial⟩ (Nat.le_of_ble_eq_true rfl) (List.nodup_cons.2 ⟨(fun h => nomatch h), List.nodup_nil⟩)
   have f6 : (RT.os 43 (RT.rs ri)).val b2 i1 (.slice (some ⟨f5, 0, none⟩) 1 1) [t] [f5] := f6
   refine x_one (i := 7) (by kernel_rfl) ?_
   obtain ⟨y22, c6, hs⟩ := bind_some hs
   have hO := hO.fr1
   obtain ⟨l4, l5, l6, l7, r1, l8, b5, l9, e0⟩ := app_os Rw25 c6 b4 f6 hO.inM (fun g hg hq => hO.apart g hq (mem_l hg))
   have c7 := os_block b4
   refine xk_val (w' := l7) (b := true) (.slice l4 l5 l6) rfl  (y_append rfl rfl (l8 _)) rfl (fun h => nomatch h) ?_
   have hO := hO.fr1
   have hO := hO.fr1
   have h0 := h0.mt b5 hO c7
   have h1 := h1.mt b5 hO c7
   have a0 := a0.mt b5 hO c7
   have a1 := a1.mt b5 hO c7
   have hC := hC.st b5 hO c7
   have hO := hO.eat b5 l9 (os_nodup e0) e0.fpl
   refine x_one (i := 11) (by kernel_rfl) ?_
   obtain ⟨y25, c8, hs⟩ := bind_some hs
   obtain ⟨f7, f8, f9, m0, r2, m1, b6, m2, g0⟩ := app_rs Rw25 c8 e0 a1 hO.inM
   have c9 := os_block e0
   refine xk_val (w' := m0) (b := true) (.slice f7 f8 f9) rfl  (y_append rfl rfl (m1 _)) rfl (fun h => nomatch h) ?_
   have h0 := h0.mt b6 hO c9
   have h1 := h1.mt b6 hO c9
   have a0 := a0.mt b6 hO c9
   have a1 := a1.mt b6 hO c9
   have hC := hC.st b6 hO c9
   have hO := hO.grow b6 m2 (os_nodup g0) g0.fpl
   refine x_p 12 (.slice f7 f8 f9) rfl (by kernel_rfl)  (fun _ => y_assign rfl) (fun h => nomatch h) (x_end (by kernel_rfl) ?_)
   clear hS
   refine wp_ret ?_
   cases hs
   obtain ⟨e1, r3, e2, m3, hO, m4⟩ := frz_own (Frz.os (Frz.rs Frz.int)) g0 hO
   have h0 := h0.sub (M' := e1) e2
   have h1 := h1.sub (M' := e1) e2
   have a0 := a0.sub (M' := e1) e2
   have a1 := a1.sub (M' := e1) e2
   have hK := hK.trans m3
   exact ⟨_, f7, f8, f9, fr_ovl 27 ⟨rfl, trivial⟩, hC, (Keeps.out hK m4)⟩
  ·skip
   obtain ⟨i4, g1, m5, i5, a2, i6⟩ := new_block f3 [(.slice pa1 pn1 pc1)] 43
   refine xk_val (w' := i4) (b := false) (.slice (some ⟨g1, 0, none⟩) 1 1) rfl  (y_bslice rfl (by rw [m5, i5]; kernel_rfl)) rfl (fun _ => hS.ext a2) ?_
   have h0 := h0.ext a2
   have h1 := h1.ext a2
   have a0 := a0.ext a2
   have a1 := a1.ext a2
   have b1 := b1.ext a2
   have hC := hC.ext a2
   have hO := hO.new1 a2 i5 i6.lt
   have a8 := os_of_box (r := (RT.rs ri)) (M := M) (css := [[(.slice pa1 pn1 pc1)]]) (fps := [([] : List Nat)]) (xs := ([t] : List (List Int))) i6 ⟨(rs_unval h1), trivial⟩ (Nat.le_of_ble_eq_true rfl) (List.nodup_cons.2 ⟨(fun h => nomatch h), List.nodup_nil⟩)
   have a8 : (RT.os 43 (RT.rs ri)).val M i4 (.slice (some ⟨g1, 0, none⟩) 1 1) [t] [g1] := a8
   have hS := hS.ext a2
   refine x_one (i := 4) (by kernel_rfl) ?_
   have hO := hO.fr1
   obtain ⟨d0, r5, d1, m6, hO, i7⟩ := os_inner (Frz.os Frz.int) b1 hO
   have h0 := h0.sub (M' := d0) d1
   have h1 := h1.sub (M' := d0) d1
   have a0 := a0.sub (M' := d0) d1
   have a1 := a1.sub (M' := d0) d1
   have a8 := a8.sub (M' := d0) d1
   have hK := m6
   obtain ⟨y17, c4, hs⟩ := bind_some hs
   obtain ⟨m7, m8, m9, n0, r6, n1, a9, n2, e3⟩ := app_rs Rw25 c4 i7 a0 hO.inM
   have b7 := os_block i7
   refine xk_val (w' := n0) (b := true) (.slice m7 m8 m9) rfl  (y_append rfl rfl (n1 _)) rfl (fun h => nomatch h) ?_
   have h0 := h0.mt a9 hO b7
   have h1 := h1.mt a9 hO b7
   have a0 := a0.mt a9 hO b7
   have a1 := a1.mt a9 hO b7
   have a8 := a8.ma a9 hO b7 (fun _ e => (mem_l (e)))
   have hC := hC.st a9 hO b7
   have hO := hO.grow a9 n2 (os_nodup e3) e3.fpl
   refine x_one (i := 7) (by kernel_rfl) ?_
   obtain ⟨y22, c6, hs⟩ := bind_some hs
   have hO := hO.fr1
   have hO := hO.fr1
   obtain ⟨n3, n4, n5, n6, r7, n7, b8, n8, e4⟩ := app_os Rw25 c6 e3 a8 hO.inM (fun g hg hq => hO.apart g hq (mem_l hg))
   have d2 := os_block e3
   refine xk_val (w' := n6) (b := true) (.slice n3 n4 n5) rfl  (y_append rfl rfl (n7 _)) rfl (fun h => nomatch h) ?_
   have hO := hO.fr1
   have hO := hO.fr1
   have h0 := h0.mt b8 hO d2
   have h1 := h1.mt b8 hO d2
   have a0 := a0.mt b8 hO d2
   have a1 := a1.mt b8 hO d2
   have hC := hC.st b8 hO d2
   have hO := hO.eat b8 n8 (os_nodup e4) e4.fpl
   refine x_one (i := 11) (by kernel_rfl) ?_
   obtain ⟨y25, c8, hs⟩ := bind_some hs
   obtain ⟨g2, g3, g4, n9, r8, o0, b9, o1, g5⟩ := app_rs Rw25 c8 e4 a1 hO.inM
   have d3 := os_block e4
   refine xk_val (w' := n9) (b := true) (.slice g2 g3 g4) rfl  (y_append rfl rfl (o0 _)) rfl (fun h => nomatch h) ?_
   have h0 := h0.mt b9 hO d3
   have h1 := h1.mt b9 hO d3
   have a0 := a0.mt b9 hO d3
   have a1 := a1.mt b9 hO d3
   have hC := hC.st b9 hO d3
   have hO := hO.grow b9 o1 (os_nodup g5) g5.fpl
   refine x_p 12 (.slice g2 g3 g4) rfl (by kernel_rfl)  (fun _ => y_assign rfl) (fun h => nomatch h) (x_end (by kernel_rfl) ?_)
   clear hS
   refine wp_ret ?_
   cases hs
   obtain ⟨e5, r9, e6, o2, hO, o3⟩ := frz_own (Frz.os (Frz.rs Frz.int)) g5 hO
   have h0 := h0.sub (M' := e5) e6
   have h1 := h1.sub (M' := e5) e6
   have a0 := a0.sub (M' := e5) e6
   have a1 := a1.sub (M' := e5) e6
   have hK := hK.trans o2
   exact ⟨_, g2, g3, g4, fr_ovl 27 ⟨rfl, trivial⟩, hC, (Keeps.out hK o3)⟩
 ·skip
  obtain ⟨g6, g7, o4, i9, a6, j0⟩ := new_block f2 [(.slice pa1 pn1 pc1)] 43
  refine xk_val (w' := g6) (b := false) (.slice (some ⟨g7, 0, none⟩) 1 1) rfl  (y_bslice rfl (by rw [o4, i9]; kernel_rfl)) rfl (fun _ => hS.ext a6) ?_
  have h0 := h0.ext a6
  have h1 := h1.ext a6
  have a0 := a0.ext a6
  have a1 := a1.ext a6
  have hC := hC.ext a6
  have hO := hO.new1 a6 i9 j0.lt
  have a3 := os_of_box (r := (RT.rs ri)) (M := M) (css := [[(.slice pa1 pn1 pc1)]]) (fps := [([] : List Nat)]) (xs := ([t] : List (List Int))) j0 ⟨(rs_unval h1), trivial⟩ (Nat.le_of_ble_eq_true rfl) (List.nodup_cons.2 ⟨(fun h => nomatch h), List.nodup_nil⟩)
  have a3 : (RT.os 43 (RT.rs ri)).val M g6 (.slice (some ⟨g7, 0, none⟩) 1 1) [t] [g7] := a3
  have hS := hS.ext a6
  refine x_one (i := 0) (by kernel_rfl) ?_
  obtain ⟨j1, g8, o5, j2, a4, j3⟩ := new_block g6 [] 43
  refine xk_val (w' := j1) (b := false) (.slice (some ⟨g8, 0, none⟩) 0 0) rfl  (y_bslice rfl (by rw [o5, j2]; kernel_rfl)) rfl (fun _ => hS.ext a4) ?_
  have h0 := h0.ext a4
  have h1 := h1.ext a4
  have a0 := a0.ext a4
  have a1 := a1.ext a4
  have a3 := a3.ext a4
  have hC := hC.ext a4
  have hO := hO.new1 a4 j2 j3.lt
  have g9 := os_of_box (r := (RT.os 3 ri)) (M := M) (css := []) (fps := []) (xs := ([] : List (List Int))) j3 trivial (Nat.zero_le _) (List.nodup_cons.2 ⟨(fun h => nomatch h), List.nodup_nil⟩)
  have g9 : (RT.os 43 (RT.os 3 ri)).val M j1 (.slice (some ⟨g8, 0, none⟩) 0 0) [] [g8] := g9
  have hS := hS.ext a4
  refine x_one (i := 4) (by kernel_rfl) ?_
  obtain ⟨d4, s0, d5, o6, hO, j4⟩ := os_inner (Frz.os Frz.int) g9 hO
  have h0 := h0.sub (M' := d4) d5
  have h1 := h1.sub (M' := d4) d5
  have a0 := a0.sub (M' := d4) d5
  have a1 := a1.sub (M' := d4) d5
  have a3 := a3.sub (M' := d4) d5
  have hK := o6
  obtain ⟨y17, c4, hs⟩ := bind_some hs
  obtain ⟨o7, o8, o9, p0, s1, p1, b0, p2, e7⟩ := app_rs Rw25 c4 j4 a0 hO.inM
  have c0 := os_block j4
  refine xk_val (w' := p0) (b := true) (.slice o7 o8 o9) rfl  (y_append rfl rfl (p1 _)) rfl (fun h => nomatch h) ?_
  have h0 := h0.mt b0 hO c0
  have h1 := h1.mt b0 hO c0
  have a0 := a0.mt b0 hO c0
  have a1 := a1.mt b0 hO c0
  have a3 := a3.ma b0 hO c0 (fun _ e => (mem_l (e)))
  have hC := hC.st b0 hO c0
  have hO := hO.grow b0 p2 (os_nodup e7) e7.fpl
  refine x_one (i := 7) (by kernel_rfl) ?_
  obtain ⟨y22, c6, hs⟩ := bind_some hs
  have hO := hO.fr1
  have hO := hO.fr1
  obtain ⟨p3, p4, p5, p6, s2, p7, c1, p8, e8⟩ := app_os Rw25 c6 e7 a3 hO.inM (fun g hg hq => hO.apart g hq (mem_l hg))
  have d6 := os_block e7
  refine xk_val (w' := p6) (b := true) (.slice p3 p4 p5) rfl  (y_append rfl rfl (p7 _)) rfl (fun h => nomatch h) ?_
  have hO := hO.fr1
  have hO := hO.fr1
  have h0 := h0.mt c1 hO d6
  have h1 := h1.mt c1 hO d6
  have a0 := a0.mt c1 hO d6
  have a1 := a1.mt c1 hO d6
  have hC := hC.st c1 hO d6
  have hO := hO.eat c1 p8 (os_nodup e8) e8.fpl
  refine x_one (i := 11) (by kernel_rfl) ?_
  obtain ⟨y25, c8, hs⟩ := bind_some hs
  obtain ⟨h2, h3, h4, p9, s3, q0, c2, q1, h5⟩ := app_rs Rw25 c8 e8 a1 hO.inM
  have d7 := os_block e8
  refine xk_val (w' := p9) (b := true) (.slice h2 h3 h4) rfl  (y_append rfl rfl (q0 _)) rfl (fun h => nomatch h) ?_
  have h0 := h0.mt c2 hO d7
  have h1 := h1.mt c2 hO d7
  have a0 := a0.mt c2 hO d7
  have a1 := a1.mt c2 hO d7
  have hC := hC.st c2 hO d7
  have hO := hO.grow c2 q1 (os_nodup h5) h5.fpl
  refine x_p 12 (.slice h2 h3 h4) rfl (by kernel_rfl)  (fun _ => y_assign rfl) (fun h => nomatch h) (x_end (by kernel_rfl) ?_)
  clear hS
  refine wp_ret ?_
  cases hs
  obtain ⟨e9, s4, f0, q2, hO, q3⟩ := frz_own (Frz.os (Frz.rs Frz.int)) h5 hO
  have h0 := h0.sub (M' := e9) f0
  have h1 := h1.sub (M' := e9) f0
  have a0 := a0.sub (M' := e9) f0
  have a1 := a1.sub (M' := e9) f0
  have hK := hK.trans q2
  exact ⟨_, h2, h3, h4, fr_ovl 27 ⟨rfl, trivial⟩, hC, (Keeps.out hK q3)⟩

def k_spec_l1Has (M : Nat → Prop) (w0 : World) (r : Bool) (a : Act) (w : World) : Prop :=
  ∃ (σ : Nat → Value) , a = fr 18 (ovl σ [(4, (.bool r))]) ∧ Chg [] w0 w
def s_spec_l1Has (l : List Int) (n : Int) : Option (Bool) :=
  (forC (S := Unit) (R := Bool) (fun k7 s5 =>
  (idx l k7).bind fun x11 =>
  (bif (x11 == n) then some (.rt true) else some (.nx ()))) 0 (l.length : Int) ()).bind fun o9 => after o9 (fun r_ => some r_) (fun s5 =>
  some false)
set_option maxHeartbeats 4000000 in
theorem c_spec_l1Has {M : Nat → Prop} {w : World} {pa0 : Option Addr} {pn0 pc0 : Nat} (l : List Int) (n : Int) (h0 : (RT.rs ri).val M w (.slice pa0 pn0 pc0) l ([])) (hM : ∀ g, w.heap.size ≤ g → M g) {r : Bool} (hs : s_spec_l1Has l n = some r) :
    Gives Try.prog 72 [(.slice pa0 pn0 pc0), (.int .i64 n)] w (fun v w' => v = (.bool r) ∧ Chg [] w w') := by
 refine calls_fr Try.func72 rfl Try.ntmps72 (Nat.le_of_ble_eq_true rfl) ?_
 have hO := Own.start (N := Nw w []) hM Nw.fut
 have hC := Chg.refl [] w
 unfold s_spec_l1Has at hs
 refine wp_mono (Q := KPost (k_spec_l1Has M w r)) ?_ (fun e a a2 h => ?_)
 rotate_left
 ·cases e
  case ret =>
   obtain ⟨σ, rfl, hrest⟩ := h
   exact ret1x Try.results72 (res_tmp rfl) ⟨rfl, hrest⟩
  all_goals exact (h : False).elim
 refine c_sr (ab rfl (c_nil (c_seq (c_sr (ai rfl (c_nil ?_))))))
 obtain ⟨o9, a3, hs⟩ := bind_some hs
 refine wp_block (wp_forC (id := 0) (l.length : Int) (I := fun k7 s5 a a0 => ∃ (σ : Nat → Value), a = fr 18 (ovl σ [(0, (.slice pa0 pn0 pc0)), (1, (.int .i64 n)), (5, (.int .i64 k7))]) ∧ Chg [] w a0 ∧ Own (Nw w []) M a0 ([]) ∧ (RT.rs ri).val M a0 (.slice pa0 pn0 pc0) l ([])) (J := fun s5 a a0 => ∃ (σ : Nat → Value), a = fr 18 (ovl σ []) ∧ Chg [] w a0 ∧ Own (Nw w []) M a0 ([]) ∧ (RT.rs ri).val M a0 (.slice pa0 pn0 pc0) l ([])) (K := (k_spec_l1Has M w)) ?_ ?_ 0 () o9 _ _ ?_ a3 ?_)
 ·rintro k7 s5 a a0 ⟨σ, rfl, hC, hO, h0⟩ hlt
  refine c_seq (c_sr (mi rfl (ms rfl (pl_val _ (y_len' Sl43 (rs_len h0) rfl) (pl_val _ (y_lss rfl rfl) (c_nil (c_condF (cb (decide_eq_false hlt)) (wp_exit ?_))))))))
  exact ⟨rfl, _, fr_ovl 18 trivial, hC, hO, h0⟩
 ·rintro k7 s5 o9 a a0 ⟨σ, rfl, hC, hO, h0⟩ hlt hw hs
  refine c_seq (c_sr (mi rfl (ms rfl (pl_val _ (y_len' Sl43 (rs_len h0) rfl) (pl_val _ (y_lss rfl rfl) (c_nil (c_condT (cb (decide_eq_true hlt)) (wp_skip (c_seq (wp_block (c_sr (ms rfl (mi rfl ?_)))))))))))))
  obtain ⟨x11, a4, hs⟩ := bind_some hs
  obtain ⟨a5, a6, a7, a8⟩ := rs_idx Sl43 Sz3 h0 a4
  refine pl_val _ (a7 _ _ _ _ _ _ _ _ _ rfl rfl) (pl_val (.int .i64 x11) (y_load rfl ((at_load_int Ag3 Sz3 a8) _ (Chg.refl _ _))) (mi rfl (pl_val (.bool (x11 == n)) (y_eql rfl rfl) (c_nil ?_))))
  rcases bif_some hs with ⟨a1, hs⟩ | ⟨a1, hs⟩
  ·refine c_condT (cb a1) (c_sr (ab rfl (c_nil (wp_ret ?_))))
   cases hs
   exact ⟨_, fr_ovl 18 ⟨rfl, trivial⟩, hC⟩
  refine c_condF (cb a1) (wp_skip (c_region (mi rfl (pl_val (.int .i64 (w64 (k7 + 1))) (y_add rfl rfl) (ai rfl (c_nil ?_))))))
  cases hs
  exact ⟨_, fr_ovl 18 ⟨rfl, rfl, congrArg (Value.int .i64) hw, trivial⟩, hC, hO, h0⟩
 ·skip
  exact ⟨_, fr_ovl 18 ⟨rfl, rfl, rfl, trivial⟩, hC, hO, h0⟩
 cases o9 with
 | nx _ => exact True.intro
 | rt r_ =>
  have hs := after_rt hs
  intro a9 a2 hK
  cases hs
  exact hK
 | br s5 =>
  have hs := after_br hs
  rintro a9 a0 ⟨σ, rfl, hC, hO, h0⟩
  refine c_sr (ab rfl (c_nil (wp_ret ?_)))
  cases hs
  exact ⟨_, fr_ovl 18 ⟨rfl, trivial⟩, hC⟩

def k_spec_l8Choose (M : Nat → Prop) (w0 : World) (r : (List (List Int))) (a : Act) (w : World) : Prop :=
  ∃ (σ : Nat → Value) (ra0 : Option Addr) (rn0 rc0 : Nat), a = fr 25 (ovl σ [(4, (.slice ra0 rn0 rc0))]) ∧ Chg [] w0 w ∧ (RT.rs (RT.rs (RT.int .i64))).val (Past M w0 w) w (.slice ra0 rn0 rc0) r []
def s_spec_l8Choose (line : List (List Int)) (numbers : List Int) : Option ((List (List Int))) :=
  (forC (S := (List (List Int))) (R := (List (List Int))) (fun k36 s34 =>
  (idx numbers k36).bind fun x46 =>
  (idx line x46).bind fun x48 =>
  (app s34 ([x48])).bind fun y55 =>
  some (.nx y55)) 0 (numbers.length : Int) ([])).bind fun o38 => after o38 (fun r_ => some r_) (fun s34 =>
  some s34)
set_option maxHeartbeats 4000000 in
theorem c_spec_l8Choose {M : Nat → Prop} {w : World} {pa0 : Option Addr} {pn0 pc0 : Nat} {pa1 : Option Addr} {pn1 pc1 : Nat} (line : List (List Int)) (numbers : List Int) (h0 : (RT.rs (RT.rs ri)).val M w (.slice pa0 pn0 pc0) line ([])) (h1 : (RT.rs ri).val M w (.slice pa1 pn1 pc1) numbers ([])) (hM : ∀ g, w.heap.size ≤ g → M g) {r : (List (List Int))} (hs : s_spec_l8Choose line numbers = some r) :
    Gives Try.prog 73 [(.slice pa0 pn0 pc0), (.slice pa1 pn1 pc1)] w (fun v w' => ∃ (ra0 : Option Addr) (rn0 rc0 : Nat), v = (.slice ra0 rn0 rc0) ∧ Chg [] w w' ∧ (RT.rs (RT.rs ri)).val (Past M w w') w' (.slice ra0 rn0 rc0) r []) := by
 refine calls_fr Try.func73 rfl Try.ntmps73 (Nat.le_of_ble_eq_true rfl) ?_
 have hO := Own.start (N := Nw w []) hM Nw.fut
 have hC := Chg.refl [] w
 unfold s_spec_l8Choose at hs
 refine wp_mono (Q := KPost (k_spec_l8Choose M w r)) ?_ (fun e a d8 h => ?_)
 rotate_left
 ·cases e
  case ret =>
   obtain ⟨σ, ra0, rn0, rc0, rfl, hrest⟩ := h
   exact ret1x Try.results73 (res_tmp rfl) ⟨ra0, rn0, rc0, rfl, hrest⟩
  all_goals exact (h : False).elim
 refine c_sr (ax rfl (c_nil (c_sr ?_)))
 obtain ⟨d1, b2, d9, d2, b5, d3⟩ := new_block w [] 43
 refine pl_val (w' := d1) (.slice (some ⟨b2, 0, none⟩) 0 0) (y_bslice rfl (by rw [d9, d2]; kernel_rfl)) ?_
 have h0 := h0.ext b5
 have h1 := h1.ext b5
 have hC := hC.ext b5
 have hO := hO.new1 b5 d2 d3.lt
 have b7 := os_of_box (r := (RT.os 3 ri)) (M := M) (css := []) (fps := []) (xs := ([] : List (List Int))) d3 trivial (Nat.zero_le _) (List.nodup_cons.2 ⟨(fun h => nomatch h), List.nodup_nil⟩)
 have b7 : (RT.os 43 (RT.os 3 ri)).val M d1 (.slice (some ⟨b2, 0, none⟩) 0 0) [] [b2] := b7
 refine ax rfl (c_nil (c_seq (c_sr (ai rfl (c_nil ?_)))))
 obtain ⟨b8, e0, d4, e1, hO, e2⟩ := os_inner (Frz.os Frz.int) b7 hO
 have h0 := h0.sub (M' := b8) d4
 have h1 := h1.sub (M' := b8) d4
 have hK := e1
 obtain ⟨o38, e3, hs⟩ := bind_some hs
 refine wp_block (wp_forC (id := 0) (numbers.length : Int) (I := fun k36 s34 a a0 => ∃ (σ : Nat → Value) (a1 : Nat → Prop) (a3 : Option Addr) (a4 : Nat) (a5 : Nat) (b3 : List Nat), a = fr 25 (ovl σ [(0, (.slice pa0 pn0 pc0)), (1, (.slice pa1 pn1 pc1)), (5, (.slice a3 a4 a5)), (6, (.int .i64 k36))]) ∧ Chg [] w a0 ∧ Own (Nw w []) a1 a0 (b3 ++ []) ∧ Keeps w M a1 ∧ (RT.rs (RT.rs ri)).val a1 a0 (.slice pa0 pn0 pc0) line ([]) ∧ (RT.rs ri).val a1 a0 (.slice pa1 pn1 pc1) numbers ([]) ∧ (RT.os 43 (RT.rs ri)).val a1 a0 (.slice a3 a4 a5) s34 b3) (J := fun s34 a a0 => ∃ (σ : Nat → Value) (a6 : Nat → Prop) (a7 : Option Addr) (a8 : Nat) (a9 : Nat) (b9 : List Nat), a = fr 25 (ovl σ [(5, (.slice a7 a8 a9))]) ∧ Chg [] w a0 ∧ Own (Nw w []) a6 a0 (b9 ++ []) ∧ Keeps w M a6 ∧ (RT.rs (RT.rs ri)).val a6 a0 (.slice pa0 pn0 pc0) line ([]) ∧ (RT.rs ri).val a6 a0 (.slice pa1 pn1 pc1) numbers ([]) ∧ (RT.os 43 (RT.rs ri)).val a6 a0 (.slice a7 a8 a9) s34 b9) (K := (k_spec_l8Choose M w)) ?_ ?_ 0 ([]) o38 _ _ ?_ e3 ?_)
 ·rintro k36 s34 a a0 ⟨σ, a1, a3, a4, a5, b3, rfl, hC, hO, hK, h0, h1, b0⟩ hlt
  refine c_seq (c_sr (mi rfl (ms rfl (pl_val _ (y_len' Sl43 (rs_len h1) rfl) (pl_val _ (y_lss rfl rfl) (c_nil (c_condF (cb (decide_eq_false hlt)) (wp_exit ?_))))))))
  exact ⟨rfl, _, a1, a3, a4, a5, b3, fr_ovl 25 ⟨rfl, trivial⟩, hC, hO, hK, h0, h1, b0⟩
 ·rintro k36 s34 o38 a a0 ⟨σ, a1, a3, a4, a5, b3, rfl, hC, hO, hK, h0, h1, b0⟩ hlt hw hs
  refine c_seq (c_sr (mi rfl (ms rfl (pl_val _ (y_len' Sl43 (rs_len h1) rfl) (pl_val _ (y_lss rfl rfl) (c_nil (c_condT (cb (decide_eq_true hlt)) (wp_skip (c_seq (wp_block (c_region (ms rfl (ms rfl (ms rfl (mi rfl ?_)))))))))))))))
  obtain ⟨x46, e4, hs⟩ := bind_some hs
  obtain ⟨e5, e6, e7, c0⟩ := rs_idx Sl43 Sz3 h1 e4
  refine pl_val _ (e7 _ _ _ _ _ _ _ _ _ rfl rfl) (pl_val (.int .i64 x46) (y_load rfl ((at_load_int Ag3 Sz3 c0) _ (Chg.refl _ _))) ?_)
  obtain ⟨x48, e8, hs⟩ := bind_some hs
  obtain ⟨e9, f0, f1, c1⟩ := rs_idx Sl25 Sz43 h0 e8
  refine pl_val _ (f1 _ _ _ _ _ _ _ _ _ rfl rfl) ?_
  obtain ⟨g3, f2, b1⟩ := at_load Ag43 Sz43 (fun _ => rfl) c1
  obtain ⟨c2, c3, c4, rfl⟩ := rs_sl b1
  refine pl_val (.slice c2 c3 c4) (y_load rfl (f2 _ (Chg.refl _ _))) ?_
  obtain ⟨d5, c5, f3, d6, a2, d7⟩ := new_block a0 [(.slice c2 c3 c4)] 43
  refine pl_val (w' := d5) (.slice (some ⟨c5, 0, none⟩) 1 1) (y_bslice rfl (by rw [f3, d6]; kernel_rfl)) ?_
  have h0 := h0.ext a2
  have h1 := h1.ext a2
  have b0 := b0.ext a2
  have b1 := b1.ext a2
  have c0 := at_ext c0 a2
  have c1 := at_ext c1 a2
  have hC := hC.ext a2
  have hO := hO.new1 a2 d6 d7.lt
  have c6 := os_of_box (r := (RT.rs ri)) (M := a1) (css := [[(.slice c2 c3 c4)]]) (fps := [([] : List Nat)]) (xs := ([x48] : List (List Int))) d7 ⟨(rs_unval b1), trivial⟩ (Nat.le_of_ble_eq_true rfl) (List.nodup_cons.2 ⟨(fun h => nomatch h), List.nodup_nil⟩)
  have c6 : (RT.os 43 (RT.rs ri)).val a1 d5 (.slice (some ⟨c5, 0, none⟩) 1 1) [x48] [c5] := c6
  obtain ⟨y55, f4, hs⟩ := bind_some hs
  have hO := hO.fr1
  obtain ⟨c7, c8, c9, f5, f6, f7, b4, f8, d0⟩ := app_os Rw25 f4 b0 c6 hO.inM (fun g hg hq => hO.apart g hq (mem_l hg))
  have b6 := os_block b0
  refine pl_val (w' := f5) (.slice c7 c8 c9) (y_append rfl rfl (f7 _)) ?_
  have hO := hO.fr1
  have hO := hO.fr1
  have h0 := h0.mt b4 hO b6
  have h1 := h1.mt b4 hO b6
  have b1 := b1.mt b4 hO b6
  have hC := hC.st b4 hO b6
  have hO := hO.eat b4 f8 (os_nodup d0) d0.fpl
  refine ax rfl (c_nil (c_region (mi rfl (pl_val (.int .i64 (w64 (k36 + 1))) (y_add rfl rfl) (ai rfl (c_nil ?_))))))
  cases hs
  exact ⟨_, a1, c7, c8, c9, f6, fr_ovl 25 ⟨rfl, rfl, rfl, congrArg (Value.int .i64) hw, trivial⟩, hC, hO, hK, h0, h1, d0⟩
 ·skip
  exact ⟨_, b8, (some ⟨b2, 0, none⟩), 0, 0, e0, fr_ovl 25 ⟨rfl, rfl, rfl, rfl, trivial⟩, hC, hO, hK, h0, h1, e2⟩
 cases o38 with
 | nx _ => exact True.intro
 | rt r_ =>
  have hs := after_rt hs
  intro f9 d8 hK
  cases hs
  exact hK
 | br s34 =>
  have hs := after_br hs
  rintro f9 a0 ⟨σ, a6, a7, a8, a9, b9, rfl, hC, hO, hK, h0, h1, g0⟩
  refine c_sr (ms rfl (ax rfl (c_nil (wp_ret ?_))))
  cases hs
  obtain ⟨g4, g5, g6, g1, hO, g2⟩ := frz_own (Frz.os (Frz.rs Frz.int)) g0 hO
  have hK := hK.trans g1
  exact ⟨_, a7, a8, a9, fr_ovl 25 ⟨rfl, trivial⟩, hC, (Keeps.out hK g2)⟩

theorem Bd54 : Bodied Try.prog 54 := bodied Try.func54 (by kernel_rfl) rfl

def k_spec_l8Next (M : Nat → Prop) (w0 : World) (r : (List Int) × Bool) (a : Act) (w : World) : Prop :=
  ∃ (σ : Nat → Value) (ra0 : Option Addr) (rn0 rc0 : Nat) (rf0 : List Nat), a = fr 37 (ovl σ [(4, (.slice ra0 rn0 rc0)), (5, (.bool r.2))]) ∧ Chg [] w0 w ∧ (RT.os 3 (RT.int .i64)).val M w (.slice ra0 rn0 rc0) r.1 rf0 ∧ Own (Nw w0 []) (fun _ => True) w (rf0 ++ ([]))
def s_spec_l8Next (list : List Int) (n : Int) : Option ((List Int) × Bool) :=
  (s_spec_l1Own list).bind fun r3 =>
  (iter (S := Int × (List Int)) (R := (List Int) × Bool) (fun s30 =>
  (bif (decide (0 ≤ s30.1)) then (idx s30.2 s30.1).bind fun x39 =>
  (bif (decide (x39 < (w64 (n - 1)))) then (idx s30.2 s30.1).bind fun x42 =>
  (idx s30.2 s30.1).bind fun x44 =>
  some (.rt (List.set s30.2 (Int.toNat s30.1) (w64 (x42 + 1)), true)) else (idx s30.2 s30.1).bind fun x47 =>
  some (.nx (w64 (s30.1 - 1), List.set s30.2 (Int.toNat s30.1) 0))) else some (.br (s30.1, s30.2)))) FU (w64 ((r3.length : Int) - 1), r3)).bind fun o34 => after o34 (fun r_ => some r_) (fun s30 =>
  some (s30.2, false))
set_option maxHeartbeats 4000000 in
theorem c_spec_l8Next {M : Nat → Prop} {w : World} {pa0 : Option Addr} {pn0 pc0 : Nat} (list : List Int) (n : Int) (h0 : (RT.rs ri).val M w (.slice pa0 pn0 pc0) list ([])) (hM : ∀ g, w.heap.size ≤ g → M g) {r : (List Int) × Bool} (hs : s_spec_l8Next list n = some r) :
    Gives Try.prog 74 [(.slice pa0 pn0 pc0), (.int .i64 n)] w (fun v w' => ∃ (ra0 : Option Addr) (rn0 rc0 : Nat) (rf0 : List Nat), v = (.tuple #[(.slice ra0 rn0 rc0), (.bool r.2)]) ∧ Chg [] w w' ∧ (RT.os 3 ri).val M w' (.slice ra0 rn0 rc0) r.1 rf0 ∧ Own (Nw w []) (fun _ => True) w' (rf0 ++ ([]))) := by
 refine calls_fr Try.func74 rfl Try.ntmps74 (Nat.le_of_ble_eq_true rfl) ?_
 have hO := Own.start (N := Nw w []) hM Nw.fut
 have hC := Chg.refl [] w
 unfold s_spec_l8Next at hs
 refine wp_mono (Q := KPost (k_spec_l8Next M w r)) ?_ (fun e a c0 h => ?_)
 rotate_left
 ·cases e
  case ret =>
   obtain ⟨σ, ra0, rn0, rc0, rf0, rfl, hrest⟩ := h
   exact ret2x Try.results74 (res_tmp rfl) (res_tmp rfl) ⟨ra0, rn0, rc0, rf0, rfl, hrest⟩
  all_goals exact (h : False).elim
 refine c_sr (ax rfl (ab rfl (c_nil (c_sr (ms rfl ?_)))))
 obtain ⟨r3, c1, hs⟩ := bind_some hs
 refine pl_call Bd54 rfl (c_spec_l1Own (M := M) list h0 hO.fut c1) ?_
 rintro _ f0 ⟨a0, a1, a2, b2, rfl, a7, b3, c2⟩
 have h0 := h0.ext a7
 have hC := hC.ext a7
 have hO := Own.join0 hO a7 c2
 have hO := hO.perm (R := b2 ++ ([])) (by simp)
 refine ax rfl (c_nil (c_seq (c_sr (ms rfl (pl_val _ (y_len' Sl43 (os_len b3) rfl) (pl_val (.int .i64 (w64 ((r3.length : Int) - 1))) (y_sub rfl rfl) (ai rfl (c_nil ?_))))))))
 obtain ⟨o34, c3, hs⟩ := bind_some hs
 refine wp_block (wp_iter (id := 0) (I := fun s30 a a4 => ∃ (σ : Nat → Value) (a5 : List Nat), a = fr 37 (ovl σ [(1, (.int .i64 n)), (6, (.slice a0 a1 a2)), (7, (.int .i64 s30.1))]) ∧ Chg [] w a4 ∧ Own (Nw w []) M a4 (a5 ++ []) ∧ (RT.os 3 ri).val M a4 (.slice a0 a1 a2) s30.2 a5) (J := fun s30 a a4 => ∃ (σ : Nat → Value) (a6 : List Nat), a = fr 37 (ovl σ [(6, (.slice a0 a1 a2))]) ∧ Chg [] w a4 ∧ Own (Nw w []) M a4 (a6 ++ []) ∧ (RT.os 3 ri).val M a4 (.slice a0 a1 a2) s30.2 a6) (K := (k_spec_l8Next M w)) ?_ FU (w64 ((r3.length : Int) - 1), r3) o34 _ _ ?_ c3 ?_)
 ·rintro s30 o34 a a4 ⟨σ, a5, rfl, hC, hO, a3⟩ hs
  refine c_seq (c_sr (mi rfl (pl_val _ (y_geq rfl rfl) (c_nil ?_))))
  rcases bif_some hs with ⟨a8, hs⟩ | ⟨a8, hs⟩
  ·refine c_condT (cb a8) (wp_skip (c_seq (wp_block (c_seq (c_sr (ms rfl (mi rfl ?_)))))))
   obtain ⟨x39, c4, hs⟩ := bind_some hs
   obtain ⟨c5, f1, f2, f3, c6, c7, f4⟩ := os_idx Sl43 Sz3 a3 c4
   refine pl_val _ (c6 _ _ _ _ _ _ _ _ _ rfl rfl) (pl_val (.int .i64 x39) (y_load rfl ((at_load_int Ag3 Sz3 c7) _ (Chg.refl _ _))) (mi rfl (pl_val (.int .i64 (w64 (n - 1))) (y_sub rfl rfl) (pl_val _ (y_lss rfl rfl) (c_nil ?_)))))
   rcases bif_some hs with ⟨a9, hs⟩ | ⟨a9, hs⟩
   ·refine c_condT (cb a9) (c_sr (ms rfl (mi rfl (ms rfl (mi rfl ?_)))))
    obtain ⟨x42, c8, hs⟩ := bind_some hs
    obtain ⟨c9, f5, f6, f7, d0, d1, f8⟩ := os_idx Sl43 Sz3 a3 c8
    refine pl_val _ (d0 _ _ _ _ _ _ _ _ _ rfl rfl) (pl_val (.int .i64 x42) (y_load rfl ((at_load_int Ag3 Sz3 d1) _ (Chg.refl _ _))) (pl_val (.int .i64 (w64 (x42 + 1))) (y_add rfl rfl) ?_))
    obtain ⟨x44, d2, hs⟩ := bind_some hs
    obtain ⟨b4, f9, b5, d3, d4, g0, g1⟩ := os_idx Sl43 Sz3 a3 d2
    refine pl_val _ (d4 _ _ _ _ _ _ _ _ _ rfl rfl) ?_
    obtain ⟨d5, d6, d7, b6, d8, b0⟩ := os_store (P := Try.prog) (c' := [(.int .i64 (w64 (x42 + 1)))]) b5 a3 d3 (fun g hg => hO.inM g (os_block a3 g (by simpa using hg))) ⟨rfl, rfl⟩ List.nodup_nil (fun _ h => nomatch h) (fun _ h => .inl h)
    have d9 : ∀ q ∈ [b4], q ∈ a5 := fun q hq => os_block a3 q (by rw [b5]; exact hq)
    refine pl_skip (w' := d5) (ys_store rfl rfl (d7 _ _ rfl Sz3)) ?_
    have hC := hC.st b6 hO d9
    have hO := hO.grow b6 (fun q hq => .inl ((d8 q hq).resolve_right (fun h => nomatch h))) (os_nodup b0) b0.fpl
    refine c_nil (c_sr (ms rfl (ax rfl (ab rfl (c_nil (wp_ret ?_))))))
    cases hs
    exact ⟨_, a0, a1, a2, d6, fr_ovl 37 ⟨rfl, rfl, trivial⟩, hC, b0, hO.top⟩
   refine c_condF (cb a9) (wp_skip (c_region (ms rfl (mi rfl ?_))))
   obtain ⟨x47, e0, hs⟩ := bind_some hs
   obtain ⟨b7, g2, b8, e1, e2, g3, g4⟩ := os_idx Sl43 Sz3 a3 e0
   refine pl_val _ (e2 _ _ _ _ _ _ _ _ _ rfl rfl) ?_
   obtain ⟨e3, e4, e5, b9, e6, b1⟩ := os_store (P := Try.prog) (c' := [(.int .i64 0)]) b8 a3 e1 (fun g hg => hO.inM g (os_block a3 g (by simpa using hg))) ⟨rfl, rfl⟩ List.nodup_nil (fun _ h => nomatch h) (fun _ h => .inl h)
   have e7 : ∀ q ∈ [b7], q ∈ a5 := fun q hq => os_block a3 q (by rw [b8]; exact hq)
   refine pl_skip (w' := e3) (ys_store rfl rfl (e5 _ _ rfl Sz3)) ?_
   have hC := hC.st b9 hO e7
   have hO := hO.grow b9 (fun q hq => .inl ((e6 q hq).resolve_right (fun h => nomatch h))) (os_nodup b1) b1.fpl
   refine c_nil (c_region (mi rfl (pl_val (.int .i64 (w64 (s30.1 - 1))) (y_sub rfl rfl) (ai rfl (c_nil ?_)))))
   cases hs
   exact ⟨_, e4, fr_ovl 37 ⟨rfl, rfl, rfl, trivial⟩, hC, hO, b1⟩
  refine c_condF (cb a8) (wp_exit ?_)
  cases hs
  exact ⟨rfl, _, a5, fr_ovl 37 ⟨rfl, trivial⟩, hC, hO, a3⟩
 ·skip
  exact ⟨_, b2, fr_ovl 37 ⟨rfl, rfl, rfl, trivial⟩, hC, hO, b3⟩
 cases o34 with
 | nx _ => exact True.intro
 | rt r_ =>
  have hs := after_rt hs
  intro e8 c0 hK
  cases hs
  exact hK
 | br s30 =>
  have hs := after_br hs
  rintro e8 a4 ⟨σ, a6, rfl, hC, hO, e9⟩
  refine c_sr (ms rfl (ax rfl (ab rfl (c_nil (wp_ret ?_)))))
  cases hs
  exact ⟨_, a0, a1, a2, a6, fr_ovl 37 ⟨rfl, rfl, trivial⟩, hC, e9, hO.top⟩

theorem Bd69 : Bodied Try.prog 69 := bodied Try.func69 (by kernel_rfl) rfl

theorem Bd70 : Bodied Try.prog 70 := bodied Try.func70 (by kernel_rfl) rfl

theorem Bd71 : Bodied Try.prog 71 := bodied Try.func71 (by kernel_rfl) rfl

theorem Bd72 : Bodied Try.prog 72 := bodied Try.func72 (by kernel_rfl) rfl

def k_spec_l8Choose__sh (M : Nat → Prop) (w0 : World) (r : (List (List Int))) (a : Act) (w : World) : Prop :=
  ∃ (σ : Nat → Value) (ra0 : Option Addr) (rn0 rc0 : Nat), a = fr 25 (ovl σ [(4, (.slice ra0 rn0 rc0))]) ∧ Chg [] w0 w ∧ (RT.rs (RT.rs (RT.int .i64))).val (Past M w0 w) w (.slice ra0 rn0 rc0) r []
def s_spec_l8Choose__sh (line : List (List Int)) (numbers : List Int) : Option ((List (List Int))) :=
  (forC (S := (List (List Int))) (R := (List (List Int))) (fun k36 s34 =>
  (idx numbers k36).bind fun x46 =>
  (idx line x46).bind fun x48 =>
  (app s34 ([x48])).bind fun y55 =>
  some (.nx y55)) 0 (numbers.length : Int) ([])).bind fun o38 => after o38 (fun r_ => some r_) (fun s34 =>
  some s34)
set_option maxHeartbeats 4000000 in
theorem c_spec_l8Choose__sh {M : Nat → Prop} {w : World} {pa0 : Option Addr} {pn0 pc0 : Nat} {pf0 : List Nat} {pa1 : Option Addr} {pn1 pc1 : Nat} (line : List (List Int)) (numbers : List Int) (h0 : (RT.os 43 (RT.rs ri)).val M w (.slice pa0 pn0 pc0) line pf0) (h1 : (RT.rs ri).val M w (.slice pa1 pn1 pc1) numbers ([])) (hM : ∀ g, w.heap.size ≤ g → M g) {r : (List (List Int))} (hs : s_spec_l8Choose__sh line numbers = some r) :
    Gives Try.prog 73 [(.slice pa0 pn0 pc0), (.slice pa1 pn1 pc1)] w (fun v w' => ∃ (ra0 : Option Addr) (rn0 rc0 : Nat), v = (.slice ra0 rn0 rc0) ∧ Chg [] w w' ∧ (RT.rs (RT.rs ri)).val (Past M w w') w' (.slice ra0 rn0 rc0) r []) := by
 refine calls_fr Try.func73 rfl Try.ntmps73 (Nat.le_of_ble_eq_true rfl) ?_
 have hO := Own.start (N := Nw w []) hM Nw.fut
 have d7 := h0.fpl
 have hC := Chg.refl [] w
 unfold s_spec_l8Choose__sh at hs
 refine wp_mono (Q := KPost (k_spec_l8Choose__sh M w r)) ?_ (fun e a d8 h => ?_)
 rotate_left
 ·cases e
  case ret =>
   obtain ⟨σ, ra0, rn0, rc0, rfl, hrest⟩ := h
   exact ret1x Try.results73 (res_tmp rfl) ⟨ra0, rn0, rc0, rfl, hrest⟩
  all_goals exact (h : False).elim
 refine c_sr (ax rfl (c_nil (c_sr ?_)))
 obtain ⟨d0, b2, d9, d1, b6, d2⟩ := new_block w [] 43
 refine pl_val (w' := d0) (.slice (some ⟨b2, 0, none⟩) 0 0) (y_bslice rfl (by rw [d9, d1]; kernel_rfl)) ?_
 have h0 := h0.ext b6
 have h1 := h1.ext b6
 have hC := hC.ext b6
 have hO := hO.new1 b6 d1 d2.lt
 have b7 := os_of_box (r := (RT.os 3 ri)) (M := M) (css := []) (fps := []) (xs := ([] : List (List Int))) d2 trivial (Nat.zero_le _) (List.nodup_cons.2 ⟨(fun h => nomatch h), List.nodup_nil⟩)
 have b7 : (RT.os 43 (RT.os 3 ri)).val M d0 (.slice (some ⟨b2, 0, none⟩) 0 0) [] [b2] := b7
 refine ax rfl (c_nil (c_seq (c_sr (ai rfl (c_nil ?_)))))
 obtain ⟨b8, e0, d3, e1, hO, e2⟩ := os_inner (Frz.os Frz.int) b7 hO
 have h0 := h0.sub (M' := b8) d3
 have h1 := h1.sub (M' := b8) d3
 have hK := e1
 obtain ⟨o38, e3, hs⟩ := bind_some hs
 refine wp_block (wp_forC (id := 0) (numbers.length : Int) (I := fun k36 s34 a a0 => ∃ (σ : Nat → Value) (a1 : Nat → Prop) (a3 : Option Addr) (a4 : Nat) (a5 : Nat) (b3 : List Nat), a = fr 25 (ovl σ [(0, (.slice pa0 pn0 pc0)), (1, (.slice pa1 pn1 pc1)), (5, (.slice a3 a4 a5)), (6, (.int .i64 k36))]) ∧ Chg [] w a0 ∧ Own (Nw w []) a1 a0 (b3 ++ []) ∧ Keeps w M a1 ∧ (RT.os 43 (RT.rs ri)).val a1 a0 (.slice pa0 pn0 pc0) line pf0 ∧ (RT.rs ri).val a1 a0 (.slice pa1 pn1 pc1) numbers ([]) ∧ (RT.os 43 (RT.rs ri)).val a1 a0 (.slice a3 a4 a5) s34 b3) (J := fun s34 a a0 => ∃ (σ : Nat → Value) (a6 : Nat → Prop) (a7 : Option Addr) (a8 : Nat) (a9 : Nat) (b9 : List Nat), a = fr 25 (ovl σ [(5, (.slice a7 a8 a9))]) ∧ Chg [] w a0 ∧ Own (Nw w []) a6 a0 (b9 ++ []) ∧ Keeps w M a6 ∧ (RT.os 43 (RT.rs ri)).val a6 a0 (.slice pa0 pn0 pc0) line pf0 ∧ (RT.rs ri).val a6 a0 (.slice pa1 pn1 pc1) numbers ([]) ∧ (RT.os 43 (RT.rs ri)).val a6 a0 (.slice a7 a8 a9) s34 b9) (K := (k_spec_l8Choose__sh M w)) ?_ ?_ 0 ([]) o38 _ _ ?_ e3 ?_)
 ·rintro k36 s34 a a0 ⟨σ, a1, a3, a4, a5, b3, rfl, hC, hO, hK, h0, h1, b0⟩ hlt
  refine c_seq (c_sr (mi rfl (ms rfl (pl_val _ (y_len' Sl43 (rs_len h1) rfl) (pl_val _ (y_lss rfl rfl) (c_nil (c_condF (cb (decide_eq_false hlt)) (wp_exit ?_))))))))
  exact ⟨rfl, _, a1, a3, a4, a5, b3, fr_ovl 25 ⟨rfl, trivial⟩, hC, hO, hK, h0, h1, b0⟩
 ·rintro k36 s34 o38 a a0 ⟨σ, a1, a3, a4, a5, b3, rfl, hC, hO, hK, h0, h1, b0⟩ hlt hw hs
  refine c_seq (c_sr (mi rfl (ms rfl (pl_val _ (y_len' Sl43 (rs_len h1) rfl) (pl_val _ (y_lss rfl rfl) (c_nil (c_condT (cb (decide_eq_true hlt)) (wp_skip (c_seq (wp_block (c_region (ms rfl (ms rfl (ms rfl (mi rfl ?_)))))))))))))))
  obtain ⟨x46, e4, hs⟩ := bind_some hs
  obtain ⟨e5, e6, e7, c0⟩ := rs_idx Sl43 Sz3 h1 e4
  refine pl_val _ (e7 _ _ _ _ _ _ _ _ _ rfl rfl) (pl_val (.int .i64 x46) (y_load rfl ((at_load_int Ag3 Sz3 c0) _ (Chg.refl _ _))) ?_)
  obtain ⟨x48, e8, hs⟩ := bind_some hs
  obtain ⟨e9, g4, g5, g6, f0, f1, g7⟩ := os_idx Sl25 Sz43 h0 e8
  have f2 := rd_row Rd.rs f1
  refine pl_val _ (f0 _ _ _ _ _ _ _ _ _ rfl rfl) ?_
  obtain ⟨g8, f3, b1⟩ := at_load Ag43 Sz43 (fun _ => rfl) f2
  obtain ⟨c1, c2, c3, rfl⟩ := rs_sl b1
  refine pl_val (.slice c1 c2 c3) (y_load rfl (f3 _ (Chg.refl _ _))) ?_
  obtain ⟨d4, c4, f4, d5, a2, d6⟩ := new_block a0 [(.slice c1 c2 c3)] 43
  refine pl_val (w' := d4) (.slice (some ⟨c4, 0, none⟩) 1 1) (y_bslice rfl (by rw [f4, d5]; kernel_rfl)) ?_
  have h0 := h0.ext a2
  have h1 := h1.ext a2
  have b0 := b0.ext a2
  have b1 := b1.ext a2
  have c0 := at_ext c0 a2
  have hC := hC.ext a2
  have hO := hO.new1 a2 d5 d6.lt
  have c5 := os_of_box (r := (RT.rs ri)) (M := a1) (css := [[(.slice c1 c2 c3)]]) (fps := [([] : List Nat)]) (xs := ([x48] : List (List Int))) d6 ⟨(rs_unval b1), trivial⟩ (Nat.le_of_ble_eq_true rfl) (List.nodup_cons.2 ⟨(fun h => nomatch h), List.nodup_nil⟩)
  have c5 : (RT.os 43 (RT.rs ri)).val a1 d4 (.slice (some ⟨c4, 0, none⟩) 1 1) [x48] [c4] := c5
  obtain ⟨y55, f5, hs⟩ := bind_some hs
  have hO := hO.fr1
  obtain ⟨c6, c7, c8, f6, f7, f8, b4, f9, c9⟩ := app_os Rw25 f5 b0 c5 hO.inM (fun g hg hq => hO.apart g hq (mem_l hg))
  have b5 := os_block b0
  refine pl_val (w' := f6) (.slice c6 c7 c8) (y_append rfl rfl (f8 _)) ?_
  have hO := hO.fr1
  have hO := hO.fr1
  have h0 := h0.mut b4 (fun g hg => hO.inM g (b5 g hg)) (fun g hg e => Nat.lt_irrefl _ (Nat.lt_of_lt_of_le (d7 g e) ((hO.inN g (b5 g hg)).resolve_left (fun h => nomatch h))))
  have h1 := h1.mt b4 hO b5
  have b1 := b1.mt b4 hO b5
  have hC := hC.st b4 hO b5
  have hO := hO.eat b4 f9 (os_nodup c9) c9.fpl
  refine ax rfl (c_nil (c_region (mi rfl (pl_val (.int .i64 (w64 (k36 + 1))) (y_add rfl rfl) (ai rfl (c_nil ?_))))))
  cases hs
  exact ⟨_, a1, c6, c7, c8, f7, fr_ovl 25 ⟨rfl, rfl, rfl, congrArg (Value.int .i64) hw, trivial⟩, hC, hO, hK, h0, h1, c9⟩
 ·skip
  exact ⟨_, b8, (some ⟨b2, 0, none⟩), 0, 0, e0, fr_ovl 25 ⟨rfl, rfl, rfl, rfl, trivial⟩, hC, hO, hK, h0, h1, e2⟩
 cases o38 with
 | nx _ => exact True.intro
 | rt r_ =>
  have hs := after_rt hs
  intro g0 d8 hK
  cases hs
  exact hK
 | br s34 =>
  have hs := after_br hs
  rintro g0 a0 ⟨σ, a6, a7, a8, a9, b9, rfl, hC, hO, hK, h0, h1, g1⟩
  refine c_sr (ms rfl (ax rfl (c_nil (wp_ret ?_))))
  cases hs
  obtain ⟨g9, h2, h3, g2, hO, g3⟩ := frz_own (Frz.os (Frz.rs Frz.int)) g1 hO
  have hK := hK.trans g2
  exact ⟨_, a7, a8, a9, fr_ovl 25 ⟨rfl, trivial⟩, hC, (Keeps.out hK g3)⟩

theorem Bd73 : Bodied Try.prog 73 := bodied Try.func73 (by kernel_rfl) rfl

theorem Bd74 : Bodied Try.prog 74 := bodied Try.func74 (by kernel_rfl) rfl

end Go.Proofs
