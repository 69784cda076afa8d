/- What functions of the program compute, as plain functions, and that a call gives just that. Conditions: those named in each theorem. -/
import Derived.Test.YtbicnacclhhlkaaGPtr
import Derived.Test.YtbicnacclhhlkaaRows
set_option linter.unusedVariables false
namespace Go.Proofs
open Go.G Go.RowKit
set_option maxRecDepth 100000

theorem Sl41 : SlT Try.prog 41 3 := Try.underlying41

def k_laws_szIntS (M : Nat → Prop) (w0 : World) (r : Int) (a : Act) (w : World) : Prop :=
  ∃ (σ : Nat → Value) , a = fr 12 (ovl σ [(4, (.int .i64 r))]) ∧ Chg [] w0 w
def s_laws_szIntS (a_ : List Int) (left : Int) : Option (Int) :=
  (bif (decide ((w64 (left - (a_.length : Int))) < 0)) then some (-1) else some (w64 (left - (a_.length : Int))))
set_option maxHeartbeats 4000000 in
theorem c_laws_szIntS {M : Nat → Prop} {w : World} {pa0 : Option Addr} {pn0 pc0 : Nat} (a_ : List Int) (left : Int) (h0 : (RT.rs (RT.int .i64)).val M w (.slice pa0 pn0 pc0) a_ ([])) (hM : ∀ g, w.heap.size ≤ g → M g) {r : Int} (hs : s_laws_szIntS a_ left = some r) :
    Gives Try.prog 74 [(.slice pa0 pn0 pc0), (.int .i64 left)] w (fun v w' => v = (.int .i64 r) ∧ Chg [] w w') := by
 refine calls_fr Try.func74 rfl Try.ntmps74 (Nat.le_of_ble_eq_true rfl) ?_
 have hO := Own.start (N := Nw w []) hM Nw.fut
 have hC := Chg.refl [] w
 unfold s_laws_szIntS at hs
 refine wp_mono (Q := KPost (k_laws_szIntS M w r)) ?_ (fun e a a1 h => ?_)
 rotate_left
 ·cases e
  case ret =>
   obtain ⟨σ, rfl, hrest⟩ := h
   exact ret1x Try.results74 (res_tmp rfl) ⟨rfl, hrest⟩
  all_goals exact (h : False).elim
 refine c_sr ?_
 refine pl_val (.int .i64 0) (y_assign rfl) ?_
 refine c_nil ?_
 refine c_sr ?_
 refine pl_val (.int .i64 left) (y_move rfl) ?_
 refine pl_val (.slice pa0 pn0 pc0) (y_move rfl) ?_
 refine pl_val (.int .i64 (a_.length : Int)) (y_len' Sl41 (rs_len h0) rfl) ?_
 refine pl_val (.int .i64 (w64 (left - (a_.length : Int)))) (y_sub rfl rfl) ?_
 refine pl_val (.int .i64 (w64 (left - (a_.length : Int)))) (y_assign rfl) ?_
 refine c_nil ?_
 refine c_seq ?_
 refine c_sr ?_
 refine pl_val (.int .i64 (w64 (left - (a_.length : Int)))) (y_move rfl) ?_
 refine pl_val (.bool (decide ((w64 (left - (a_.length : Int))) < 0))) (y_lss rfl rfl) ?_
 refine c_nil ?_
 rcases bif_some hs with ⟨a0, hs⟩ | ⟨a0, hs⟩
 ·refine c_condT (congrArg Value.bool a0) ?_
  refine c_sr ?_
  refine pl_val (.int .i64 (-1)) (y_assign rfl) ?_
  refine c_nil ?_
  refine wp_ret ?_
  cases hs
  exact ⟨_, fr_ovl 12 ⟨rfl, trivial⟩, hC⟩
 refine c_condF (congrArg Value.bool a0) ?_
 refine wp_skip ?_
 refine c_sr ?_
 refine pl_val (.int .i64 (w64 (left - (a_.length : Int)))) (y_move rfl) ?_
 refine pl_val (.int .i64 (w64 (left - (a_.length : Int)))) (y_assign rfl) ?_
 refine c_nil ?_
 refine wp_ret ?_
 cases hs
 exact ⟨_, fr_ovl 12 ⟨rfl, trivial⟩, hC⟩

theorem Sl47 : SlT Try.prog 47 41 := Try.underlying47

theorem Sz41 : SzT Try.prog 41 1 := ⟨_, rfl, rfl⟩

theorem Ag41 : AggT Try.prog 41 false := fun _ => by kernel_rfl

theorem Bd74 : Bodied Try.prog 74 := bodied Try.func74 (by kernel_rfl) rfl

def k_laws_szIntSS (M : Nat → Prop) (w0 : World) (r : Int) (a : Act) (w : World) : Prop :=
  ∃ (σ : Nat → Value) , a = fr 27 (ovl σ [(4, (.int .i64 r))]) ∧ Chg [] w0 w
def s_laws_szIntSS (a_ : List (List Int)) (left : Int) : Option (Int) :=
  (bif (decide ((w64 (left - (a_.length : Int))) < 0)) then some (-1) else (forC (S := Int) (R := Int) (fun k12 s10 =>
  (idx a_ k12).bind fun x16 =>
  (s_laws_szIntS x16 s10).bind fun r21 =>
  (bif (decide (r21 < 0)) then some (.rt (-1)) else some (.nx r21))) 0 (a_.length : Int) (w64 (left - (a_.length : Int)))).bind fun o14 => after o14 (fun r_ => some r_) (fun s10 =>
  some s10))
set_option maxHeartbeats 4000000 in
theorem c_laws_szIntSS {M : Nat → Prop} {w : World} {pa0 : Option Addr} {pn0 pc0 : Nat} (a_ : List (List Int)) (left : Int) (h0 : (RT.rs (RT.rs (RT.int .i64))).val M w (.slice pa0 pn0 pc0) a_ ([])) (hM : ∀ g, w.heap.size ≤ g → M g) {r : Int} (hs : s_laws_szIntSS a_ left = some r) :
    Gives Try.prog 106 [(.slice pa0 pn0 pc0), (.int .i64 left)] w (fun v w' => v = (.int .i64 r) ∧ Chg [] w w') := by
 refine calls_fr Try.func106 rfl Try.ntmps106 (Nat.le_of_ble_eq_true rfl) ?_
 have hO := Own.start (N := Nw w []) hM Nw.fut
 have hC := Chg.refl [] w
 unfold s_laws_szIntSS at hs
 refine wp_mono (Q := KPost (k_laws_szIntSS M w r)) ?_ (fun e a a5 h => ?_)
 rotate_left
 ·cases e
  case ret =>
   obtain ⟨σ, rfl, hrest⟩ := h
   exact ret1x Try.results106 (res_tmp rfl) ⟨rfl, hrest⟩
  all_goals exact (h : False).elim
 refine c_sr ?_
 refine pl_val (.int .i64 0) (y_assign rfl) ?_
 refine c_nil ?_
 refine c_sr ?_
 refine pl_val (.int .i64 left) (y_move rfl) ?_
 refine pl_val (.slice pa0 pn0 pc0) (y_move rfl) ?_
 refine pl_val (.int .i64 (a_.length : Int)) (y_len' Sl47 (rs_len h0) rfl) ?_
 refine pl_val (.int .i64 (w64 (left - (a_.length : Int)))) (y_sub rfl rfl) ?_
 refine pl_val (.int .i64 (w64 (left - (a_.length : Int)))) (y_assign rfl) ?_
 refine c_nil ?_
 refine c_seq ?_
 refine c_sr ?_
 refine pl_val (.int .i64 (w64 (left - (a_.length : Int)))) (y_move rfl) ?_
 refine pl_val (.bool (decide ((w64 (left - (a_.length : Int))) < 0))) (y_lss rfl rfl) ?_
 refine c_nil ?_
 rcases bif_some hs with ⟨a3, hs⟩ | ⟨a3, hs⟩
 ·refine c_condT (congrArg Value.bool a3) ?_
  refine c_sr ?_
  refine pl_val (.int .i64 (-1)) (y_assign rfl) ?_
  refine c_nil ?_
  refine wp_ret ?_
  cases hs
  exact ⟨_, fr_ovl 27 ⟨rfl, trivial⟩, hC⟩
 refine c_condF (congrArg Value.bool a3) ?_
 refine wp_skip ?_
 refine c_seq ?_
 refine c_sr ?_
 refine pl_val (.int .i64 0) (y_assign rfl) ?_
 refine c_nil ?_
 obtain ⟨o14, a6, hs⟩ := bind_some hs
 refine wp_block ?_
 refine wp_forC (id := 0) (a_.length : Int) (I := fun k12 s10 a a0 => ∃ (σ : Nat → Value), a = fr 27 (ovl σ [(0, (.slice pa0 pn0 pc0)), (1, (.int .i64 s10)), (5, (.int .i64 k12))]) ∧ Chg [] w a0 ∧ Own (Nw w []) M a0 ([]) ∧ (RT.rs (RT.rs (RT.int .i64))).val M a0 (.slice pa0 pn0 pc0) a_ ([])) (J := fun s10 a a0 => ∃ (σ : Nat → Value), a = fr 27 (ovl σ [(1, (.int .i64 s10))]) ∧ Chg [] w a0 ∧ Own (Nw w []) M a0 ([]) ∧ (RT.rs (RT.rs (RT.int .i64))).val M a0 (.slice pa0 pn0 pc0) a_ ([])) (K := (k_laws_szIntSS M w)) ?_ ?_ 0 (w64 (left - (a_.length : Int))) o14 _ _ ?_ a6 ?_
 ·rintro k12 s10 a a0 ⟨σ, rfl, hC, hO, h0⟩ hlt
  refine c_seq ?_
  refine c_sr ?_
  refine pl_val (.int .i64 k12) (y_move rfl) ?_
  refine pl_val (.slice pa0 pn0 pc0) (y_move rfl) ?_
  refine pl_val (.int .i64 (a_.length : Int)) (y_len' Sl47 (rs_len h0) rfl) ?_
  refine pl_val (.bool (decide (k12 < (a_.length : Int)))) (y_lss rfl rfl) ?_
  refine c_nil ?_
  refine c_condF (congrArg Value.bool (decide_eq_false hlt)) ?_
  refine wp_exit ?_
  exact ⟨rfl, _, fr_ovl 27 ⟨rfl, trivial⟩, hC, hO, h0⟩
 ·rintro k12 s10 o14 a a0 ⟨σ, rfl, hC, hO, h0⟩ hlt hw hs
  refine c_seq ?_
  refine c_sr ?_
  refine pl_val (.int .i64 k12) (y_move rfl) ?_
  refine pl_val (.slice pa0 pn0 pc0) (y_move rfl) ?_
  refine pl_val (.int .i64 (a_.length : Int)) (y_len' Sl47 (rs_len h0) rfl) ?_
  refine pl_val (.bool (decide (k12 < (a_.length : Int)))) (y_lss rfl rfl) ?_
  refine c_nil ?_
  refine c_condT (congrArg Value.bool (decide_eq_true hlt)) ?_
  refine wp_skip ?_
  refine c_seq ?_
  refine wp_block ?_
  refine c_sr ?_
  refine pl_val (.slice pa0 pn0 pc0) (y_move rfl) ?_
  refine pl_val (.int .i64 k12) (y_move rfl) ?_
  obtain ⟨x16, a7, hs⟩ := bind_some hs
  obtain ⟨a8, a9, b0, b1⟩ := rs_idx Sl47 Sz41 h0 a7
  refine pl_val (.pointer (some ⟨a8, a9, none⟩)) (b0 _ _ _ _ _ _ _ _ _ rfl rfl) ?_
  obtain ⟨b8, b2, a1⟩ := at_load Ag41 Sz41 (fun _ => rfl) b1
  obtain ⟨b3, b4, b5, rfl⟩ := rs_sl a1
  refine pl_val (.slice b3 b4 b5) (y_load rfl (b2 _ (Chg.refl _ _))) ?_
  refine pl_val (.int .i64 s10) (y_move rfl) ?_
  obtain ⟨r21, b6, hs⟩ := bind_some hs
  refine pl_call Bd74 rfl (c_laws_szIntS (M := M) x16 s10 a1 hO.fut b6) ?_
  rintro _ b9 ⟨rfl, a2⟩
  have h0 := h0.ext a2
  have a1 := a1.ext a2
  have hC := hC.ext a2
  have hO := hO.ext a2
  refine pl_val (.int .i64 r21) (y_assign rfl) ?_
  refine c_nil ?_
  refine c_sr ?_
  refine pl_val (.int .i64 r21) (y_move rfl) ?_
  refine pl_val (.bool (decide (r21 < 0))) (y_lss rfl rfl) ?_
  refine c_nil ?_
  rcases bif_some hs with ⟨a4, hs⟩ | ⟨a4, hs⟩
  ·refine c_condT (congrArg Value.bool a4) ?_
   refine c_sr ?_
   refine pl_val (.int .i64 (-1)) (y_assign rfl) ?_
   refine c_nil ?_
   refine wp_ret ?_
   cases hs
   exact ⟨_, fr_ovl 27 ⟨rfl, trivial⟩, hC⟩
  refine c_condF (congrArg Value.bool a4) ?_
  refine wp_skip ?_
  refine c_region ?_
  refine pl_val (.int .i64 k12) (y_move rfl) ?_
  refine pl_val (.int .i64 (w64 (k12 + 1))) (y_add rfl rfl) ?_
  refine pl_val (.int .i64 (w64 (k12 + 1))) (y_assign rfl) ?_
  refine c_nil ?_
  cases hs
  exact ⟨_, fr_ovl 27 ⟨rfl, rfl, congrArg (Value.int .i64) hw, trivial⟩, hC, hO, h0⟩
 ·skip
  exact ⟨_, fr_ovl 27 ⟨rfl, rfl, rfl, trivial⟩, hC, hO, h0⟩
 cases o14 with
 | nx _ => exact True.intro
 | rt r_ =>
  have hs := after_rt hs
  intro b7 a5 hK
  cases hs
  exact hK
 | br s10 =>
  have hs := after_br hs
  rintro b7 a0 ⟨σ, rfl, hC, hO, h0⟩
  refine c_sr ?_
  refine pl_val (.int .i64 s10) (y_move rfl) ?_
  refine pl_val (.int .i64 s10) (y_assign rfl) ?_
  refine c_nil ?_
  refine wp_ret ?_
  cases hs
  exact ⟨_, fr_ovl 27 ⟨rfl, trivial⟩, hC⟩

theorem Fa49x1 : ∀ (a : Addr) (w : World), (Instr.fieldAt 49 (.pointer (some a)) 1).run Try.prog w = .ok (.pointer (some (a.add 1))) w := fun _ _ => by kernel_rfl

theorem Ag47 : AggT Try.prog 47 false := fun _ => by kernel_rfl

theorem Sz47 : SzT Try.prog 47 1 := ⟨_, rfl, rfl⟩

theorem Bd106 : Bodied Try.prog 106 := bodied Try.func106 (by kernel_rfl) rfl

def k_laws_szRelation (M : Nat → Prop) (w0 : World) (r : Int) (a : Act) (w : World) : Prop :=
  ∃ (σ : Nat → Value) , a = fr 12 (ovl σ [(4, (.int .i64 r))]) ∧ Chg [] w0 w
def s_laws_szRelation (a_ : Int × (List (List Int))) (left : Int) : Option (Int) :=
  (s_laws_szIntSS a_.2 left).bind fun r4 =>
  (bif (decide (r4 < 0)) then some (-1) else some r4)
set_option maxHeartbeats 4000000 in
theorem c_laws_szRelation {M : Nat → Prop} {w : World} {pa0 : Option Addr} {pn0 pc0 : Nat} (a_ : Int × (List (List Int))) (left : Int) (h0 : (RT.rs (RT.rs (RT.int .i64))).val M w (.slice pa0 pn0 pc0) a_.2 ([])) (hM : ∀ g, w.heap.size ≤ g → M g) {r : Int} (hs : s_laws_szRelation a_ left = some r) :
    Gives Try.prog 55 [(.agg #[(.int .i64 a_.1), (.slice pa0 pn0 pc0)]), (.int .i64 left)] w (fun v w' => v = (.int .i64 r) ∧ Chg [] w w') := by
 refine calls_fr Try.func55 rfl Try.ntmps55 (Nat.le_of_ble_eq_true rfl) ?_
 have hO := Own.start (N := Nw w []) hM Nw.fut
 have hC := Chg.refl [] w
 unfold s_laws_szRelation at hs
 refine wp_mono (Q := KPost (k_laws_szRelation M w r)) ?_ (fun e a a9 h => ?_)
 rotate_left
 ·cases e
  case ret =>
   obtain ⟨σ, rfl, hrest⟩ := h
   exact ret1x Try.results55 (res_tmp rfl) ⟨rfl, hrest⟩
  all_goals exact (h : False).elim
 refine c_sr ?_
 obtain ⟨a6, a4, a7, a5, a2, a0⟩ := new_block w [(.int .i64 a_.1), (.slice pa0 pn0 pc0)] 49
 refine pl_val (w' := a6) (.pointer (some ⟨a4, 0, none⟩)) (y_box rfl (by rw [a7, a5]; kernel_rfl)) ?_
 have h0 := h0.ext a2
 have hC := hC.ext a2
 have hO := hO.new1 a2 a5 a0.lt
 refine pl_val (.int .i64 0) (y_assign rfl) ?_
 refine c_nil ?_
 refine c_sr ?_
 refine pl_val (.pointer (some ⟨a4, 1, none⟩)) (y_faddr rfl Fa49x1) ?_
 refine pl_val (.slice pa0 pn0 pc0) (y_load rfl ((box_load Ag47 Sz47 a0 [(.int .i64 a_.1)] [(.slice pa0 pn0 pc0)] [] rfl rfl (fun _ => rfl)) _ (Chg.refl _ _))) ?_
 refine pl_val (.int .i64 left) (y_move rfl) ?_
 obtain ⟨r4, a8, hs⟩ := bind_some hs
 refine pl_call Bd106 rfl (c_laws_szIntSS (M := M) a_.2 left h0 hO.fut a8) ?_
 rintro _ b0 ⟨rfl, a1⟩
 have h0 := h0.ext a1
 have a0 := a0.cn a1
 have hC := hC.ext a1
 have hO := hO.ext a1
 refine pl_val (.int .i64 r4) (y_assign rfl) ?_
 refine c_nil ?_
 have hO := hO.drop
 refine c_seq ?_
 refine c_sr ?_
 refine pl_val (.int .i64 r4) (y_move rfl) ?_
 refine pl_val (.bool (decide (r4 < 0))) (y_lss rfl rfl) ?_
 refine c_nil ?_
 rcases bif_some hs with ⟨a3, hs⟩ | ⟨a3, hs⟩
 ·refine c_condT (congrArg Value.bool a3) ?_
  refine c_sr ?_
  refine pl_val (.int .i64 (-1)) (y_assign rfl) ?_
  refine c_nil ?_
  refine wp_ret ?_
  cases hs
  exact ⟨_, fr_ovl 12 ⟨rfl, trivial⟩, hC⟩
 refine c_condF (congrArg Value.bool a3) ?_
 refine wp_skip ?_
 refine c_sr ?_
 refine pl_val (.int .i64 r4) (y_move rfl) ?_
 refine pl_val (.int .i64 r4) (y_assign rfl) ?_
 refine c_nil ?_
 refine wp_ret ?_
 cases hs
 exact ⟨_, fr_ovl 12 ⟨rfl, trivial⟩, hC⟩

theorem Fa51x0 : ∀ (a : Addr) (w : World), (Instr.fieldAt 51 (.pointer (some a)) 0).run Try.prog w = .ok (.pointer (some (a.add 0))) w := fun _ _ => by kernel_rfl

theorem Fa51x1 : ∀ (a : Addr) (w : World), (Instr.fieldAt 51 (.pointer (some a)) 1).run Try.prog w = .ok (.pointer (some (a.add 1))) w := fun _ _ => by kernel_rfl

theorem Ag49 : AggT Try.prog 49 true := fun _ => by kernel_rfl

theorem Sz49 : SzT Try.prog 49 2 := ⟨_, rfl, rfl⟩

theorem Bd55 : Bodied Try.prog 55 := bodied Try.func55 (by kernel_rfl) rfl

def k_laws_szConstraint (M : Nat → Prop) (w0 : World) (r : Int) (a : Act) (w : World) : Prop :=
  ∃ (σ : Nat → Value) , a = fr 18 (ovl σ [(4, (.int .i64 r))]) ∧ Chg [] w0 w
def s_laws_szConstraint (a_ : (List Int) × (Int × (List (List Int)))) (left : Int) : Option (Int) :=
  (s_laws_szIntS a_.1 left).bind fun r5 =>
  (bif (decide (r5 < 0)) then some (-1) else (s_laws_szRelation (a_.2.1, a_.2.2) r5).bind fun r8 =>
  (bif (decide (r8 < 0)) then some (-1) else some r8))
set_option maxHeartbeats 4000000 in
theorem c_laws_szConstraint {M : Nat → Prop} {w : World} {pa0 : Option Addr} {pn0 pc0 : Nat} {pa1 : Option Addr} {pn1 pc1 : Nat} (a_ : (List Int) × (Int × (List (List Int)))) (left : Int) (h0 : (RT.rs (RT.int .i64)).val M w (.slice pa0 pn0 pc0) a_.1 ([])) (h1 : (RT.rs (RT.rs (RT.int .i64))).val M w (.slice pa1 pn1 pc1) a_.2.2 ([])) (hM : ∀ g, w.heap.size ≤ g → M g) {r : Int} (hs : s_laws_szConstraint a_ left = some r) :
    Gives Try.prog 25 [(.agg #[(.slice pa0 pn0 pc0), (.int .i64 a_.2.1), (.slice pa1 pn1 pc1)]), (.int .i64 left)] w (fun v w' => v = (.int .i64 r) ∧ Chg [] w w') := by
 refine calls_fr Try.func25 rfl Try.ntmps25 (Nat.le_of_ble_eq_true rfl) ?_
 have hO := Own.start (N := Nw w []) hM Nw.fut
 have hC := Chg.refl [] w
 unfold s_laws_szConstraint at hs
 refine wp_mono (Q := KPost (k_laws_szConstraint M w r)) ?_ (fun e a b2 h => ?_)
 rotate_left
 ·cases e
  case ret =>
   obtain ⟨σ, rfl, hrest⟩ := h
   exact ret1x Try.results25 (res_tmp rfl) ⟨rfl, hrest⟩
  all_goals exact (h : False).elim
 refine c_sr ?_
 obtain ⟨a8, a4, a9, a7, a3, a0⟩ := new_block w [(.slice pa0 pn0 pc0), (.int .i64 a_.2.1), (.slice pa1 pn1 pc1)] 51
 refine pl_val (w' := a8) (.pointer (some ⟨a4, 0, none⟩)) (y_box rfl (by rw [a9, a7]; kernel_rfl)) ?_
 have h0 := h0.ext a3
 have h1 := h1.ext a3
 have hC := hC.ext a3
 have hO := hO.new1 a3 a7 a0.lt
 refine pl_val (.int .i64 0) (y_assign rfl) ?_
 refine c_nil ?_
 refine c_sr ?_
 refine pl_val (.pointer (some ⟨a4, 0, none⟩)) (y_faddr rfl Fa51x0) ?_
 refine pl_val (.slice pa0 pn0 pc0) (y_load rfl ((box_load Ag41 Sz41 a0 [] [(.slice pa0 pn0 pc0)] [(.int .i64 a_.2.1), (.slice pa1 pn1 pc1)] rfl rfl (fun _ => rfl)) _ (Chg.refl _ _))) ?_
 refine pl_val (.int .i64 left) (y_move rfl) ?_
 obtain ⟨r5, b0, hs⟩ := bind_some hs
 refine pl_call Bd74 rfl (c_laws_szIntS (M := M) a_.1 left h0 hO.fut b0) ?_
 rintro _ b3 ⟨rfl, a1⟩
 have h0 := h0.ext a1
 have h1 := h1.ext a1
 have a0 := a0.cn a1
 have hC := hC.ext a1
 have hO := hO.ext a1
 refine pl_val (.int .i64 r5) (y_assign rfl) ?_
 refine c_nil ?_
 refine c_seq ?_
 refine c_sr ?_
 refine pl_val (.int .i64 r5) (y_move rfl) ?_
 refine pl_val (.bool (decide (r5 < 0))) (y_lss rfl rfl) ?_
 refine c_nil ?_
 rcases bif_some hs with ⟨a5, hs⟩ | ⟨a5, hs⟩
 ·refine c_condT (congrArg Value.bool a5) ?_
  refine c_sr ?_
  refine pl_val (.int .i64 (-1)) (y_assign rfl) ?_
  refine c_nil ?_
  refine wp_ret ?_
  cases hs
  exact ⟨_, fr_ovl 18 ⟨rfl, trivial⟩, hC⟩
 refine c_condF (congrArg Value.bool a5) ?_
 refine wp_skip ?_
 refine c_sr ?_
 refine pl_val (.pointer (some ⟨a4, 1, none⟩)) (y_faddr rfl Fa51x1) ?_
 refine pl_val (.agg #[(.int .i64 a_.2.1), (.slice pa1 pn1 pc1)]) (y_load rfl ((box_load Ag49 Sz49 a0 [(.slice pa0 pn0 pc0)] [(.int .i64 a_.2.1), (.slice pa1 pn1 pc1)] [] rfl rfl (fun h => nomatch h)) _ (Chg.refl _ _))) ?_
 refine pl_val (.int .i64 r5) (y_move rfl) ?_
 obtain ⟨r8, b1, hs⟩ := bind_some hs
 refine pl_call Bd55 rfl (c_laws_szRelation (M := M) (a_.2.1, a_.2.2) r5 h1 hO.fut b1) ?_
 rintro _ b4 ⟨rfl, a2⟩
 have h0 := h0.ext a2
 have h1 := h1.ext a2
 have a0 := a0.cn a2
 have hC := hC.ext a2
 have hO := hO.ext a2
 refine pl_val (.int .i64 r8) (y_assign rfl) ?_
 refine c_nil ?_
 have hO := hO.drop
 refine c_seq ?_
 refine c_sr ?_
 refine pl_val (.int .i64 r8) (y_move rfl) ?_
 refine pl_val (.bool (decide (r8 < 0))) (y_lss rfl rfl) ?_
 refine c_nil ?_
 rcases bif_some hs with ⟨a6, hs⟩ | ⟨a6, hs⟩
 ·refine c_condT (congrArg Value.bool a6) ?_
  refine c_sr ?_
  refine pl_val (.int .i64 (-1)) (y_assign rfl) ?_
  refine c_nil ?_
  refine wp_ret ?_
  cases hs
  exact ⟨_, fr_ovl 18 ⟨rfl, trivial⟩, hC⟩
 refine c_condF (congrArg Value.bool a6) ?_
 refine wp_skip ?_
 refine c_sr ?_
 refine pl_val (.int .i64 r8) (y_move rfl) ?_
 refine pl_val (.int .i64 r8) (y_assign rfl) ?_
 refine c_nil ?_
 refine wp_ret ?_
 cases hs
 exact ⟨_, fr_ovl 18 ⟨rfl, trivial⟩, hC⟩

theorem Sl22 : SlT Try.prog 22 51 := Try.underlying22

theorem Sz51 : SzT Try.prog 51 3 := ⟨_, rfl, rfl⟩

theorem Ag51 : AggT Try.prog 51 true := fun _ => by kernel_rfl

theorem Bd25 : Bodied Try.prog 25 := bodied Try.func25 (by kernel_rfl) rfl

def k_laws_szConstraintS (M : Nat → Prop) (w0 : World) (r : Int) (a : Act) (w : World) : Prop :=
  ∃ (σ : Nat → Value) , a = fr 27 (ovl σ [(4, (.int .i64 r))]) ∧ Chg [] w0 w
def s_laws_szConstraintS (a_ : List ((List Int) × (Int × (List (List Int))))) (left : Int) : Option (Int) :=
  (bif (decide ((w64 (left - (a_.length : Int))) < 0)) then some (-1) else (forC (S := Int) (R := Int) (fun k13 s11 =>
  (idx a_ k13).bind fun x17 =>
  (s_laws_szConstraint (x17.1, (x17.2.1, x17.2.2)) s11).bind fun r23 =>
  (bif (decide (r23 < 0)) then some (.rt (-1)) else some (.nx r23))) 0 (a_.length : Int) (w64 (left - (a_.length : Int)))).bind fun o15 => after o15 (fun r_ => some r_) (fun s11 =>
  some s11))
set_option maxHeartbeats 4000000 in
theorem c_laws_szConstraintS {M : Nat → Prop} {w : World} {pa0 : Option Addr} {pn0 pc0 : Nat} (a_ : List ((List Int) × (Int × (List (List Int))))) (left : Int) (h0 : (RT.rs (RT.pr (RT.rs (RT.int .i64)) (RT.pr (RT.int .i64) (RT.rs (RT.rs (RT.int .i64)))))).val M w (.slice pa0 pn0 pc0) a_ ([])) (hM : ∀ g, w.heap.size ≤ g → M g) {r : Int} (hs : s_laws_szConstraintS a_ left = some r) :
    Gives Try.prog 46 [(.slice pa0 pn0 pc0), (.int .i64 left)] w (fun v w' => v = (.int .i64 r) ∧ Chg [] w w') := by
 refine calls_fr Try.func46 rfl Try.ntmps46 (Nat.le_of_ble_eq_true rfl) ?_
 have hO := Own.start (N := Nw w []) hM Nw.fut
 have hC := Chg.refl [] w
 unfold s_laws_szConstraintS at hs
 refine wp_mono (Q := KPost (k_laws_szConstraintS M w r)) ?_ (fun e a a6 h => ?_)
 rotate_left
 ·cases e
  case ret =>
   obtain ⟨σ, rfl, hrest⟩ := h
   exact ret1x Try.results46 (res_tmp rfl) ⟨rfl, hrest⟩
  all_goals exact (h : False).elim
 refine c_sr ?_
 refine pl_val (.int .i64 0) (y_assign rfl) ?_
 refine c_nil ?_
 refine c_sr ?_
 refine pl_val (.int .i64 left) (y_move rfl) ?_
 refine pl_val (.slice pa0 pn0 pc0) (y_move rfl) ?_
 refine pl_val (.int .i64 (a_.length : Int)) (y_len' Sl22 (rs_len h0) rfl) ?_
 refine pl_val (.int .i64 (w64 (left - (a_.length : Int)))) (y_sub rfl rfl) ?_
 refine pl_val (.int .i64 (w64 (left - (a_.length : Int)))) (y_assign rfl) ?_
 refine c_nil ?_
 refine c_seq ?_
 refine c_sr ?_
 refine pl_val (.int .i64 (w64 (left - (a_.length : Int)))) (y_move rfl) ?_
 refine pl_val (.bool (decide ((w64 (left - (a_.length : Int))) < 0))) (y_lss rfl rfl) ?_
 refine c_nil ?_
 rcases bif_some hs with ⟨a2, hs⟩ | ⟨a2, hs⟩
 ·refine c_condT (congrArg Value.bool a2) ?_
  refine c_sr ?_
  refine pl_val (.int .i64 (-1)) (y_assign rfl) ?_
  refine c_nil ?_
  refine wp_ret ?_
  cases hs
  exact ⟨_, fr_ovl 27 ⟨rfl, trivial⟩, hC⟩
 refine c_condF (congrArg Value.bool a2) ?_
 refine wp_skip ?_
 refine c_seq ?_
 refine c_sr ?_
 refine pl_val (.int .i64 0) (y_assign rfl) ?_
 refine c_nil ?_
 obtain ⟨o15, a7, hs⟩ := bind_some hs
 refine wp_block ?_
 refine wp_forC (id := 0) (a_.length : Int) (I := fun k13 s11 a a0 => ∃ (σ : Nat → Value), a = fr 27 (ovl σ [(0, (.slice pa0 pn0 pc0)), (1, (.int .i64 s11)), (5, (.int .i64 k13))]) ∧ Chg [] w a0 ∧ Own (Nw w []) M a0 ([]) ∧ (RT.rs (RT.pr (RT.rs (RT.int .i64)) (RT.pr (RT.int .i64) (RT.rs (RT.rs (RT.int .i64)))))).val M a0 (.slice pa0 pn0 pc0) a_ ([])) (J := fun s11 a a0 => ∃ (σ : Nat → Value), a = fr 27 (ovl σ [(1, (.int .i64 s11))]) ∧ Chg [] w a0 ∧ Own (Nw w []) M a0 ([]) ∧ (RT.rs (RT.pr (RT.rs (RT.int .i64)) (RT.pr (RT.int .i64) (RT.rs (RT.rs (RT.int .i64)))))).val M a0 (.slice pa0 pn0 pc0) a_ ([])) (K := (k_laws_szConstraintS M w)) ?_ ?_ 0 (w64 (left - (a_.length : Int))) o15 _ _ ?_ a7 ?_
 ·rintro k13 s11 a a0 ⟨σ, rfl, hC, hO, h0⟩ hlt
  refine c_seq ?_
  refine c_sr ?_
  refine pl_val (.int .i64 k13) (y_move rfl) ?_
  refine pl_val (.slice pa0 pn0 pc0) (y_move rfl) ?_
  refine pl_val (.int .i64 (a_.length : Int)) (y_len' Sl22 (rs_len h0) rfl) ?_
  refine pl_val (.bool (decide (k13 < (a_.length : Int)))) (y_lss rfl rfl) ?_
  refine c_nil ?_
  refine c_condF (congrArg Value.bool (decide_eq_false hlt)) ?_
  refine wp_exit ?_
  exact ⟨rfl, _, fr_ovl 27 ⟨rfl, trivial⟩, hC, hO, h0⟩
 ·rintro k13 s11 o15 a a0 ⟨σ, rfl, hC, hO, h0⟩ hlt hw hs
  refine c_seq ?_
  refine c_sr ?_
  refine pl_val (.int .i64 k13) (y_move rfl) ?_
  refine pl_val (.slice pa0 pn0 pc0) (y_move rfl) ?_
  refine pl_val (.int .i64 (a_.length : Int)) (y_len' Sl22 (rs_len h0) rfl) ?_
  refine pl_val (.bool (decide (k13 < (a_.length : Int)))) (y_lss rfl rfl) ?_
  refine c_nil ?_
  refine c_condT (congrArg Value.bool (decide_eq_true hlt)) ?_
  refine wp_skip ?_
  refine c_seq ?_
  refine wp_block ?_
  refine c_sr ?_
  refine pl_val (.slice pa0 pn0 pc0) (y_move rfl) ?_
  refine pl_val (.int .i64 k13) (y_move rfl) ?_
  obtain ⟨x17, a8, hs⟩ := bind_some hs
  obtain ⟨a9, b0, b1, b2⟩ := rs_idx Sl22 Sz51 h0 a8
  refine pl_val (.pointer (some ⟨a9, b0, none⟩)) (b1 _ _ _ _ _ _ _ _ _ rfl rfl) ?_
  obtain ⟨c8, b3, b4⟩ := at_load Ag51 Sz51 (by intro h; cases h) b2
  obtain ⟨c9, rfl, b5⟩ := b4
  obtain ⟨d0, d1, rfl, b6, b7⟩ := pr_open b5
  obtain ⟨b8, b9, c0, rfl, a3⟩ := rs_rel b6
  obtain ⟨d2, d3, rfl, c1, c2⟩ := pr_open b7
  obtain rfl := int_rel c1
  obtain ⟨c3, c4, c5, rfl, a4⟩ := rs_rel c2
  refine pl_val (.agg #[(.slice b8 b9 c0), (.int .i64 x17.2.1), (.slice c3 c4 c5)]) (y_load rfl (b3 _ (Chg.refl _ _))) ?_
  refine pl_val (.int .i64 s11) (y_move rfl) ?_
  obtain ⟨r23, c6, hs⟩ := bind_some hs
  refine pl_call Bd25 rfl (c_laws_szConstraint (M := M) (x17.1, (x17.2.1, x17.2.2)) s11 a3 a4 hO.fut c6) ?_
  rintro _ d4 ⟨rfl, a1⟩
  have h0 := h0.ext a1
  have a3 := a3.ext a1
  have a4 := a4.ext a1
  have hC := hC.ext a1
  have hO := hO.ext a1
  refine pl_val (.int .i64 r23) (y_assign rfl) ?_
  refine c_nil ?_
  refine c_sr ?_
  refine pl_val (.int .i64 r23) (y_move rfl) ?_
  refine pl_val (.bool (decide (r23 < 0))) (y_lss rfl rfl) ?_
  refine c_nil ?_
  rcases bif_some hs with ⟨a5, hs⟩ | ⟨a5, hs⟩
  ·refine c_condT (congrArg Value.bool a5) ?_
   refine c_sr ?_
   refine pl_val (.int .i64 (-1)) (y_assign rfl) ?_
   refine c_nil ?_
   refine wp_ret ?_
   cases hs
   exact ⟨_, fr_ovl 27 ⟨rfl, trivial⟩, hC⟩
  refine c_condF (congrArg Value.bool a5) ?_
  refine wp_skip ?_
  refine c_region ?_
  refine pl_val (.int .i64 k13) (y_move rfl) ?_
  refine pl_val (.int .i64 (w64 (k13 + 1))) (y_add rfl rfl) ?_
  refine pl_val (.int .i64 (w64 (k13 + 1))) (y_assign rfl) ?_
  refine c_nil ?_
  cases hs
  exact ⟨_, fr_ovl 27 ⟨rfl, rfl, congrArg (Value.int .i64) hw, trivial⟩, hC, hO, h0⟩
 ·skip
  exact ⟨_, fr_ovl 27 ⟨rfl, rfl, rfl, trivial⟩, hC, hO, h0⟩
 cases o15 with
 | nx _ => exact True.intro
 | rt r_ =>
  have hs := after_rt hs
  intro c7 a6 hK
  cases hs
  exact hK
 | br s11 =>
  have hs := after_br hs
  rintro c7 a0 ⟨σ, rfl, hC, hO, h0⟩
  refine c_sr ?_
  refine pl_val (.int .i64 s11) (y_move rfl) ?_
  refine pl_val (.int .i64 s11) (y_assign rfl) ?_
  refine c_nil ?_
  refine wp_ret ?_
  cases hs
  exact ⟨_, fr_ovl 27 ⟨rfl, trivial⟩, hC⟩

theorem Fa24x2 : ∀ (a : Addr) (w : World), (Instr.fieldAt 24 (.pointer (some a)) 2).run Try.prog w = .ok (.pointer (some (a.add 2))) w := fun _ _ => by kernel_rfl

theorem Ag22 : AggT Try.prog 22 false := fun _ => by kernel_rfl

theorem Sz22 : SzT Try.prog 22 1 := ⟨_, rfl, rfl⟩

theorem Bd46 : Bodied Try.prog 46 := bodied Try.func46 (by kernel_rfl) rfl

def k_laws_szNetwork (M : Nat → Prop) (w0 : World) (r : Int) (a : Act) (w : World) : Prop :=
  ∃ (σ : Nat → Value) , a = fr 12 (ovl σ [(4, (.int .i64 r))]) ∧ Chg [] w0 w
def s_laws_szNetwork (a_ : Int × Int × (List ((List Int) × (Int × (List (List Int)))))) (left : Int) : Option (Int) :=
  (s_laws_szConstraintS a_.2.2 left).bind fun r4 =>
  (bif (decide (r4 < 0)) then some (-1) else some r4)
set_option maxHeartbeats 4000000 in
theorem c_laws_szNetwork {M : Nat → Prop} {w : World} {pa0 : Option Addr} {pn0 pc0 : Nat} (a_ : Int × Int × (List ((List Int) × (Int × (List (List Int)))))) (left : Int) (h0 : (RT.rs (RT.pr (RT.rs (RT.int .i64)) (RT.pr (RT.int .i64) (RT.rs (RT.rs (RT.int .i64)))))).val M w (.slice pa0 pn0 pc0) a_.2.2 ([])) (hM : ∀ g, w.heap.size ≤ g → M g) {r : Int} (hs : s_laws_szNetwork a_ left = some r) :
    Gives Try.prog 11 [(.agg #[(.int .i64 a_.1), (.int .i64 a_.2.1), (.slice pa0 pn0 pc0)]), (.int .i64 left)] w (fun v w' => v = (.int .i64 r) ∧ Chg [] w w') := by
 refine calls_fr Try.func11 rfl Try.ntmps11 (Nat.le_of_ble_eq_true rfl) ?_
 have hO := Own.start (N := Nw w []) hM Nw.fut
 have hC := Chg.refl [] w
 unfold s_laws_szNetwork at hs
 refine wp_mono (Q := KPost (k_laws_szNetwork M w r)) ?_ (fun e a a9 h => ?_)
 rotate_left
 ·cases e
  case ret =>
   obtain ⟨σ, rfl, hrest⟩ := h
   exact ret1x Try.results11 (res_tmp rfl) ⟨rfl, hrest⟩
  all_goals exact (h : False).elim
 refine c_sr ?_
 obtain ⟨a6, a4, a7, a5, a2, a0⟩ := new_block w [(.int .i64 a_.1), (.int .i64 a_.2.1), (.slice pa0 pn0 pc0)] 24
 refine pl_val (w' := a6) (.pointer (some ⟨a4, 0, none⟩)) (y_box rfl (by rw [a7, a5]; kernel_rfl)) ?_
 have h0 := h0.ext a2
 have hC := hC.ext a2
 have hO := hO.new1 a2 a5 a0.lt
 refine pl_val (.int .i64 0) (y_assign rfl) ?_
 refine c_nil ?_
 refine c_sr ?_
 refine pl_val (.pointer (some ⟨a4, 2, none⟩)) (y_faddr rfl Fa24x2) ?_
 refine pl_val (.slice pa0 pn0 pc0) (y_load rfl ((box_load Ag22 Sz22 a0 [(.int .i64 a_.1), (.int .i64 a_.2.1)] [(.slice pa0 pn0 pc0)] [] rfl rfl (fun _ => rfl)) _ (Chg.refl _ _))) ?_
 refine pl_val (.int .i64 left) (y_move rfl) ?_
 obtain ⟨r4, a8, hs⟩ := bind_some hs
 refine pl_call Bd46 rfl (c_laws_szConstraintS (M := M) a_.2.2 left h0 hO.fut a8) ?_
 rintro _ b0 ⟨rfl, a1⟩
 have h0 := h0.ext a1
 have a0 := a0.cn a1
 have hC := hC.ext a1
 have hO := hO.ext a1
 refine pl_val (.int .i64 r4) (y_assign rfl) ?_
 refine c_nil ?_
 have hO := hO.drop
 refine c_seq ?_
 refine c_sr ?_
 refine pl_val (.int .i64 r4) (y_move rfl) ?_
 refine pl_val (.bool (decide (r4 < 0))) (y_lss rfl rfl) ?_
 refine c_nil ?_
 rcases bif_some hs with ⟨a3, hs⟩ | ⟨a3, hs⟩
 ·refine c_condT (congrArg Value.bool a3) ?_
  refine c_sr ?_
  refine pl_val (.int .i64 (-1)) (y_assign rfl) ?_
  refine c_nil ?_
  refine wp_ret ?_
  cases hs
  exact ⟨_, fr_ovl 12 ⟨rfl, trivial⟩, hC⟩
 refine c_condF (congrArg Value.bool a3) ?_
 refine wp_skip ?_
 refine c_sr ?_
 refine pl_val (.int .i64 r4) (y_move rfl) ?_
 refine pl_val (.int .i64 r4) (y_assign rfl) ?_
 refine c_nil ?_
 refine wp_ret ?_
 cases hs
 exact ⟨_, fr_ovl 12 ⟨rfl, trivial⟩, hC⟩

theorem Rw41 : RowT Try.prog 41 3 1 [(.int .i64 0)] := ⟨Try.underlying41, ⟨_, _, rfl, rfl, rfl, rfl, by decide⟩, rfl, by decide⟩

theorem Sz3 : SzT Try.prog 3 1 := ⟨_, rfl, rfl⟩

theorem Ag3 : AggT Try.prog 3 false := fun _ => by kernel_rfl

def k_laws_toIntS (M : Nat → Prop) (w0 : World) (r : (List Int)) (a : Act) (w : World) : Prop :=
  ∃ (σ : Nat → Value) (ra0 : Option Addr) (rn0 rc0 : Nat) (rf0 : List Nat), a = fr 22 (ovl σ [(2, (.slice ra0 rn0 rc0))]) ∧ Chg [] w0 w ∧ (RT.os 3 (RT.int .i64)).val M w (.slice ra0 rn0 rc0) r rf0 ∧ Own (Nw w0 []) (fun _ => True) w (rf0 ++ ([]))
def s_laws_toIntS (a_ : List Int) : Option ((List Int)) :=
  (mks (a_.length : Int) (0 : Int)).bind fun y3 =>
  (forC (S := (List Int)) (R := (List Int)) (fun k18 s16 =>
  (idx a_ k18).bind fun x24 =>
  (idx s16 k18).bind fun x26 =>
  some (.nx (List.set s16 (Int.toNat k18) x24))) 0 (a_.length : Int) y3).bind fun o20 => after o20 (fun r_ => some r_) (fun s16 =>
  some s16)
set_option maxHeartbeats 4000000 in
theorem c_laws_toIntS {M : Nat → Prop} {w : World} {pa0 : Option Addr} {pn0 pc0 : Nat} (a_ : List Int) (h0 : (RT.rs (RT.int .i64)).val M w (.slice pa0 pn0 pc0) a_ ([])) (hM : ∀ g, w.heap.size ≤ g → M g) {r : (List Int)} (hs : s_laws_toIntS a_ = some r) :
    Gives Try.prog 22 [(.slice pa0 pn0 pc0)] w (fun v w' => ∃ (ra0 : Option Addr) (rn0 rc0 : Nat) (rf0 : List Nat), v = (.slice ra0 rn0 rc0) ∧ Chg [] w w' ∧ (RT.os 3 (RT.int .i64)).val M w' (.slice ra0 rn0 rc0) r rf0 ∧ Own (Nw w []) (fun _ => True) w' (rf0 ++ ([]))) := by
 refine calls_fr Try.func22 rfl Try.ntmps22 (Nat.le_of_ble_eq_true rfl) ?_
 have hO := Own.start (N := Nw w []) hM Nw.fut
 have hC := Chg.refl [] w
 unfold s_laws_toIntS at hs
 refine wp_mono (Q := KPost (k_laws_toIntS M w r)) ?_ (fun e a b4 h => ?_)
 rotate_left
 ·cases e
  case ret =>
   obtain ⟨σ, ra0, rn0, rc0, rf0, rfl, hrest⟩ := h
   exact ret1x Try.results22 (res_tmp rfl) ⟨ra0, rn0, rc0, rf0, rfl, hrest⟩
  all_goals exact (h : False).elim
 refine c_sr ?_
 refine pl_val (.slice none 0 0) (y_assign rfl) ?_
 refine c_nil ?_
 refine c_sr ?_
 refine pl_val (.slice pa0 pn0 pc0) (y_move rfl) ?_
 refine pl_val (.int .i64 (a_.length : Int)) (y_len' Sl41 (rs_len h0) rfl) ?_
 obtain ⟨y3, b5, hs⟩ := bind_some hs
 obtain ⟨a1, a2, a3, b6, b7, b8, a7, b9, a8⟩ := mk_os (M := M) (w := w) (r := (RT.int .i64)) Rw41 b5 (fun _ _ => ⟨rfl, rfl⟩)
 refine pl_val (w' := b6) (.slice a1 a2 a3) (y_make rfl rfl b8) ?_
 have h0 := h0.ext a7
 have hC := hC.ext a7
 have hO := hO.new a7 b9 (os_nodup a8) a8.fpl
 refine pl_val (.slice a1 a2 a3) (y_assign rfl) ?_
 refine c_nil ?_
 refine c_seq ?_
 refine c_sr ?_
 refine pl_val (.int .i64 0) (y_assign rfl) ?_
 refine c_nil ?_
 obtain ⟨o20, c0, hs⟩ := bind_some hs
 refine wp_block ?_
 refine wp_forC (id := 0) (a_.length : Int) (I := fun k18 s16 a a0 => ∃ (σ : Nat → Value) (a4 : List Nat), a = fr 22 (ovl σ [(0, (.slice pa0 pn0 pc0)), (3, (.slice a1 a2 a3)), (4, (.int .i64 k18))]) ∧ Chg [] w a0 ∧ Own (Nw w []) M a0 (a4 ++ []) ∧ (RT.rs (RT.int .i64)).val M a0 (.slice pa0 pn0 pc0) a_ ([]) ∧ (RT.os 3 (RT.int .i64)).val M a0 (.slice a1 a2 a3) s16 a4) (J := fun s16 a a0 => ∃ (σ : Nat → Value) (a6 : List Nat), a = fr 22 (ovl σ [(3, (.slice a1 a2 a3))]) ∧ Chg [] w a0 ∧ Own (Nw w []) M a0 (a6 ++ []) ∧ (RT.rs (RT.int .i64)).val M a0 (.slice pa0 pn0 pc0) a_ ([]) ∧ (RT.os 3 (RT.int .i64)).val M a0 (.slice a1 a2 a3) s16 a6) (K := (k_laws_toIntS M w)) ?_ ?_ 0 y3 o20 _ _ ?_ c0 ?_
 ·rintro k18 s16 a a0 ⟨σ, a4, rfl, hC, hO, h0, a5⟩ hlt
  refine c_seq ?_
  refine c_sr ?_
  refine pl_val (.int .i64 k18) (y_move rfl) ?_
  refine pl_val (.slice pa0 pn0 pc0) (y_move rfl) ?_
  refine pl_val (.int .i64 (a_.length : Int)) (y_len' Sl41 (rs_len h0) rfl) ?_
  refine pl_val (.bool (decide (k18 < (a_.length : Int)))) (y_lss rfl rfl) ?_
  refine c_nil ?_
  refine c_condF (congrArg Value.bool (decide_eq_false hlt)) ?_
  refine wp_exit ?_
  exact ⟨rfl, _, a4, fr_ovl 22 ⟨rfl, trivial⟩, hC, hO, h0, a5⟩
 ·rintro k18 s16 o20 a a0 ⟨σ, a4, rfl, hC, hO, h0, a5⟩ hlt hw hs
  refine c_seq ?_
  refine c_sr ?_
  refine pl_val (.int .i64 k18) (y_move rfl) ?_
  refine pl_val (.slice pa0 pn0 pc0) (y_move rfl) ?_
  refine pl_val (.int .i64 (a_.length : Int)) (y_len' Sl41 (rs_len h0) rfl) ?_
  refine pl_val (.bool (decide (k18 < (a_.length : Int)))) (y_lss rfl rfl) ?_
  refine c_nil ?_
  refine c_condT (congrArg Value.bool (decide_eq_true hlt)) ?_
  refine wp_skip ?_
  refine c_seq ?_
  refine wp_block ?_
  refine c_region ?_
  refine pl_val (.slice a1 a2 a3) (y_move rfl) ?_
  refine pl_val (.int .i64 k18) (y_move rfl) ?_
  refine pl_val (.slice pa0 pn0 pc0) (y_move rfl) ?_
  refine pl_val (.int .i64 k18) (y_move rfl) ?_
  obtain ⟨x24, c1, hs⟩ := bind_some hs
  obtain ⟨c2, c3, c4, c5⟩ := rs_idx Sl41 Sz3 h0 c1
  refine pl_val (.pointer (some ⟨c2, c3, none⟩)) (c4 _ _ _ _ _ _ _ _ _ rfl rfl) ?_
  refine pl_val (.int .i64 x24) (y_load rfl ((at_load_int Ag3 Sz3 c5) _ (Chg.refl _ _))) ?_
  obtain ⟨x26, c6, hs⟩ := bind_some hs
  obtain ⟨b1, d5, b2, c7, c8, d6, d7⟩ := os_idx Sl41 Sz3 a5 c6
  refine pl_val (.pointer (some ⟨b1, 0 + Int.toNat k18 * 1, none⟩)) (c8 _ _ _ _ _ _ _ _ _ rfl rfl) ?_
  obtain ⟨c9, d0, d1, a9, d2, b0⟩ := os_store (P := Try.prog) (c' := [(.int .i64 x24)]) b2 a5 c7 (fun g hg => hO.inM g (os_block a5 g (by simpa using hg))) ⟨rfl, rfl⟩ List.nodup_nil (fun _ h => nomatch h) (fun _ h => .inl h)
  have b3 : ∀ q ∈ [b1], q ∈ a4 := fun q hq => os_block a5 q (by rw [b2]; exact hq)
  refine pl_skip (w' := c9) (ys_store rfl rfl (d1 _ _ rfl Sz3)) ?_
  have h0 := h0.mt a9 hO b3
  have hC := hC.st a9 hO b3
  have hO := hO.grow a9 (fun q hq => .inl ((d2 q hq).resolve_right (fun h => nomatch h))) (os_nodup b0) b0.fpl
  refine c_nil ?_
  refine c_region ?_
  refine pl_val (.int .i64 k18) (y_move rfl) ?_
  refine pl_val (.int .i64 (w64 (k18 + 1))) (y_add rfl rfl) ?_
  refine pl_val (.int .i64 (w64 (k18 + 1))) (y_assign rfl) ?_
  refine c_nil ?_
  cases hs
  exact ⟨_, d0, fr_ovl 22 ⟨rfl, rfl, congrArg (Value.int .i64) hw, trivial⟩, hC, hO, h0, b0⟩
 ·skip
  exact ⟨_, b7, fr_ovl 22 ⟨rfl, rfl, rfl, trivial⟩, hC, hO, h0, a8⟩
 cases o20 with
 | nx _ => exact True.intro
 | rt r_ =>
  have hs := after_rt hs
  intro d3 b4 hK
  cases hs
  exact hK
 | br s16 =>
  have hs := after_br hs
  rintro d3 a0 ⟨σ, a6, rfl, hC, hO, h0, d4⟩
  refine c_sr ?_
  refine pl_val (.slice a1 a2 a3) (y_move rfl) ?_
  refine pl_val (.slice a1 a2 a3) (y_assign rfl) ?_
  refine c_nil ?_
  refine wp_ret ?_
  cases hs
  exact ⟨_, a1, a2, a3, a6, fr_ovl 22 ⟨rfl, trivial⟩, hC, d4, hO.top⟩

theorem Rw47 : RowT Try.prog 47 41 1 [(.slice none 0 0)] := ⟨Try.underlying47, ⟨_, _, rfl, rfl, rfl, rfl, by decide⟩, rfl, by decide⟩

theorem Bd22 : Bodied Try.prog 22 := bodied Try.func22 (by kernel_rfl) rfl

def k_laws_toIntSS (M : Nat → Prop) (w0 : World) (r : (List (List Int))) (a : Act) (w : World) : Prop :=
  ∃ (σ : Nat → Value) (ra0 : Option Addr) (rn0 rc0 : Nat) (rf0 : List Nat), a = fr 23 (ovl σ [(2, (.slice ra0 rn0 rc0))]) ∧ Chg [] w0 w ∧ (RT.os 41 (RT.os 3 (RT.int .i64))).val M w (.slice ra0 rn0 rc0) r rf0 ∧ Own (Nw w0 []) (fun _ => True) w (rf0 ++ ([]))
def s_laws_toIntSS (a_ : List (List Int)) : Option ((List (List Int))) :=
  (mks (a_.length : Int) ([] : List Int)).bind fun y3 =>
  (forC (S := (List (List Int))) (R := (List (List Int))) (fun k28 s26 =>
  (idx a_ k28).bind fun x34 =>
  (s_laws_toIntS x34).bind fun r39 =>
  (idx s26 k28).bind fun x41 =>
  some (.nx (List.set s26 (Int.toNat k28) r39))) 0 (a_.length : Int) y3).bind fun o30 => after o30 (fun r_ => some r_) (fun s26 =>
  some s26)
set_option maxHeartbeats 4000000 in
theorem c_laws_toIntSS {M : Nat → Prop} {w : World} {pa0 : Option Addr} {pn0 pc0 : Nat} (a_ : List (List Int)) (h0 : (RT.rs (RT.rs (RT.int .i64))).val M w (.slice pa0 pn0 pc0) a_ ([])) (hM : ∀ g, w.heap.size ≤ g → M g) {r : (List (List Int))} (hs : s_laws_toIntSS a_ = some r) :
    Gives Try.prog 109 [(.slice pa0 pn0 pc0)] w (fun v w' => ∃ (ra0 : Option Addr) (rn0 rc0 : Nat) (rf0 : List Nat), v = (.slice ra0 rn0 rc0) ∧ Chg [] w w' ∧ (RT.os 41 (RT.os 3 (RT.int .i64))).val M w' (.slice ra0 rn0 rc0) r rf0 ∧ Own (Nw w []) (fun _ => True) w' (rf0 ++ ([]))) := by
 refine calls_fr Try.func109 rfl Try.ntmps109 (Nat.le_of_ble_eq_true rfl) ?_
 have hO := Own.start (N := Nw w []) hM Nw.fut
 have hC := Chg.refl [] w
 unfold s_laws_toIntSS at hs
 refine wp_mono (Q := KPost (k_laws_toIntSS M w r)) ?_ (fun e a b7 h => ?_)
 rotate_left
 ·cases e
  case ret =>
   obtain ⟨σ, ra0, rn0, rc0, rf0, rfl, hrest⟩ := h
   exact ret1x Try.results109 (res_tmp rfl) ⟨ra0, rn0, rc0, rf0, rfl, hrest⟩
  all_goals exact (h : False).elim
 refine c_sr ?_
 refine pl_val (.slice none 0 0) (y_assign rfl) ?_
 refine c_nil ?_
 refine c_sr ?_
 refine pl_val (.slice pa0 pn0 pc0) (y_move rfl) ?_
 refine pl_val (.int .i64 (a_.length : Int)) (y_len' Sl47 (rs_len h0) rfl) ?_
 obtain ⟨y3, b8, hs⟩ := bind_some hs
 obtain ⟨a1, a2, a3, b9, c0, c1, b0, c2, b1⟩ := mk_os (M := M) (w := w) (r := (RT.os 3 (RT.int .i64))) Rw47 b8 (fun _ _ => (os_unval os_nil))
 refine pl_val (w' := b9) (.slice a1 a2 a3) (y_make rfl rfl c1) ?_
 have h0 := h0.ext b0
 have hC := hC.ext b0
 have hO := hO.new b0 c2 (os_nodup b1) b1.fpl
 refine pl_val (.slice a1 a2 a3) (y_assign rfl) ?_
 refine c_nil ?_
 refine c_seq ?_
 refine c_sr ?_
 refine pl_val (.int .i64 0) (y_assign rfl) ?_
 refine c_nil ?_
 obtain ⟨o30, c3, hs⟩ := bind_some hs
 refine wp_block ?_
 refine wp_forC (id := 0) (a_.length : Int) (I := fun k28 s26 a a0 => ∃ (σ : Nat → Value) (a4 : List Nat), a = fr 23 (ovl σ [(0, (.slice pa0 pn0 pc0)), (3, (.slice a1 a2 a3)), (4, (.int .i64 k28))]) ∧ Chg [] w a0 ∧ Own (Nw w []) M a0 (a4 ++ []) ∧ (RT.rs (RT.rs (RT.int .i64))).val M a0 (.slice pa0 pn0 pc0) a_ ([]) ∧ (RT.os 41 (RT.os 3 (RT.int .i64))).val M a0 (.slice a1 a2 a3) s26 a4) (J := fun s26 a a0 => ∃ (σ : Nat → Value) (a8 : List Nat), a = fr 23 (ovl σ [(3, (.slice a1 a2 a3))]) ∧ Chg [] w a0 ∧ Own (Nw w []) M a0 (a8 ++ []) ∧ (RT.rs (RT.rs (RT.int .i64))).val M a0 (.slice pa0 pn0 pc0) a_ ([]) ∧ (RT.os 41 (RT.os 3 (RT.int .i64))).val M a0 (.slice a1 a2 a3) s26 a8) (K := (k_laws_toIntSS M w)) ?_ ?_ 0 y3 o30 _ _ ?_ c3 ?_
 ·rintro k28 s26 a a0 ⟨σ, a4, rfl, hC, hO, h0, a5⟩ hlt
  refine c_seq ?_
  refine c_sr ?_
  refine pl_val (.int .i64 k28) (y_move rfl) ?_
  refine pl_val (.slice pa0 pn0 pc0) (y_move rfl) ?_
  refine pl_val (.int .i64 (a_.length : Int)) (y_len' Sl47 (rs_len h0) rfl) ?_
  refine pl_val (.bool (decide (k28 < (a_.length : Int)))) (y_lss rfl rfl) ?_
  refine c_nil ?_
  refine c_condF (congrArg Value.bool (decide_eq_false hlt)) ?_
  refine wp_exit ?_
  exact ⟨rfl, _, a4, fr_ovl 23 ⟨rfl, trivial⟩, hC, hO, h0, a5⟩
 ·rintro k28 s26 o30 a a0 ⟨σ, a4, rfl, hC, hO, h0, a5⟩ hlt hw hs
  refine c_seq ?_
  refine c_sr ?_
  refine pl_val (.int .i64 k28) (y_move rfl) ?_
  refine pl_val (.slice pa0 pn0 pc0) (y_move rfl) ?_
  refine pl_val (.int .i64 (a_.length : Int)) (y_len' Sl47 (rs_len h0) rfl) ?_
  refine pl_val (.bool (decide (k28 < (a_.length : Int)))) (y_lss rfl rfl) ?_
  refine c_nil ?_
  refine c_condT (congrArg Value.bool (decide_eq_true hlt)) ?_
  refine wp_skip ?_
  refine c_seq ?_
  refine wp_block ?_
  refine c_region ?_
  refine pl_val (.slice a1 a2 a3) (y_move rfl) ?_
  refine pl_val (.int .i64 k28) (y_move rfl) ?_
  refine pl_val (.slice pa0 pn0 pc0) (y_move rfl) ?_
  refine pl_val (.int .i64 k28) (y_move rfl) ?_
  obtain ⟨x34, c4, hs⟩ := bind_some hs
  obtain ⟨c5, c6, c7, c8⟩ := rs_idx Sl47 Sz41 h0 c4
  refine pl_val (.pointer (some ⟨c5, c6, none⟩)) (c7 _ _ _ _ _ _ _ _ _ rfl rfl) ?_
  obtain ⟨f0, c9, a6⟩ := at_load Ag41 Sz41 (fun _ => rfl) c8
  obtain ⟨d0, d1, d2, rfl⟩ := rs_sl a6
  refine pl_val (.slice d0 d1 d2) (y_load rfl (c9 _ (Chg.refl _ _))) ?_
  obtain ⟨r39, d3, hs⟩ := bind_some hs
  refine pl_call Bd22 rfl (c_laws_toIntS (M := M) x34 a6 hO.fut d3) ?_
  rintro _ f1 ⟨d4, d5, d6, b2, rfl, a7, d7, d8⟩
  have h0 := h0.ext a7
  have a5 := a5.ext a7
  have a6 := a6.ext a7
  have hC := hC.ext a7
  have hO := Own.join0 hO a7 d8
  have hO := hO.perm (R := b2 ++ (a4 ++ ([]))) (by simp)
  obtain ⟨x41, d9, hs⟩ := bind_some hs
  obtain ⟨b5, f2, b6, e0, e1, e2, e3⟩ := os_idx Sl47 Sz41 a5 d9
  have f3 := own_row (Frz.os Frz.int) e2 e3
  refine pl_val (.pointer (some ⟨b5, 0 + Int.toNat k28 * 1, none⟩)) (e1 _ _ _ _ _ _ _ _ _ rfl rfl) ?_
  have hO := hO.fr1
  obtain ⟨e4, e5, e6, a9, e7, b3⟩ := os_store (P := Try.prog) (c' := [(.slice d4 d5 d6)]) b6 a5 e0 (fun g hg => hO.inM g (os_block a5 g (by simpa using hg))) (os_unval d7) (hO.drop.perm (R := b2 ++ ([])) (by simp)).nd (fun g hg hq => hO.apart g hq (by simp only [List.mem_append, List.not_mem_nil, false_or, or_false] at hg ⊢; simp [hg])) (fun _ h => .inl h)
  have b4 : ∀ q ∈ [b5], q ∈ a4 := fun q hq => os_block a5 q (by rw [b6]; exact hq)
  refine pl_skip (w' := e4) (ys_store rfl rfl (e6 _ _ rfl Sz41)) ?_
  have hO := hO.fr1
  have hO := hO.fr1
  have h0 := h0.mt a9 hO b4
  have a6 := a6.mt a9 hO b4
  have hC := hC.st a9 hO b4
  have hO := hO.perm (R := a4 ++ (b2 ++ ([]))) (by simp)
  have hO := hO.eat a9 (fun q hq => (e7 q hq).elim .inl (fun h => .inr (.inl h))) (os_nodup b3) b3.fpl
  refine c_nil ?_
  refine c_region ?_
  refine pl_val (.int .i64 k28) (y_move rfl) ?_
  refine pl_val (.int .i64 (w64 (k28 + 1))) (y_add rfl rfl) ?_
  refine pl_val (.int .i64 (w64 (k28 + 1))) (y_assign rfl) ?_
  refine c_nil ?_
  cases hs
  exact ⟨_, e5, fr_ovl 23 ⟨rfl, rfl, congrArg (Value.int .i64) hw, trivial⟩, hC, hO, h0, b3⟩
 ·skip
  exact ⟨_, c0, fr_ovl 23 ⟨rfl, rfl, rfl, trivial⟩, hC, hO, h0, b1⟩
 cases o30 with
 | nx _ => exact True.intro
 | rt r_ =>
  have hs := after_rt hs
  intro e8 b7 hK
  cases hs
  exact hK
 | br s26 =>
  have hs := after_br hs
  rintro e8 a0 ⟨σ, a8, rfl, hC, hO, h0, e9⟩
  refine c_sr ?_
  refine pl_val (.slice a1 a2 a3) (y_move rfl) ?_
  refine pl_val (.slice a1 a2 a3) (y_assign rfl) ?_
  refine c_nil ?_
  refine wp_ret ?_
  cases hs
  exact ⟨_, a1, a2, a3, a8, fr_ovl 23 ⟨rfl, trivial⟩, hC, e9, hO.top⟩

theorem Ag54 : AggT Try.prog 54 true := fun _ => by kernel_rfl

theorem Sz54 : SzT Try.prog 54 2 := ⟨_, rfl, rfl⟩

theorem Fa49x0 : ∀ (a : Addr) (w : World), (Instr.fieldAt 49 (.pointer (some a)) 0).run Try.prog w = .ok (.pointer (some (a.add 0))) w := fun _ _ => by kernel_rfl

theorem Fa54x0 : ∀ (a : Addr) (w : World), (Instr.fieldAt 54 (.pointer (some a)) 0).run Try.prog w = .ok (.pointer (some (a.add 0))) w := fun _ _ => by kernel_rfl

theorem Bd109 : Bodied Try.prog 109 := bodied Try.func109 (by kernel_rfl) rfl

theorem Fa54x1 : ∀ (a : Addr) (w : World), (Instr.fieldAt 54 (.pointer (some a)) 1).run Try.prog w = .ok (.pointer (some (a.add 1))) w := fun _ _ => by kernel_rfl

def k_laws_toRelation (M : Nat → Prop) (w0 : World) (r : (Int × (List (List Int)))) (a : Act) (w : World) : Prop :=
  ∃ (σ : Nat → Value) (rg2 : Nat) (ra0 : Option Addr) (rn0 rc0 : Nat) (rf0 : List Nat), a = fr 12 (ovl σ [(2, (.pointer (some ⟨rg2, 0, none⟩)))]) ∧ BoxV w rg2 54 [(.int .i64 r.1), (.slice ra0 rn0 rc0)] ∧ Chg [] w0 w ∧ (RT.os 41 (RT.os 3 (RT.int .i64))).val M w (.slice ra0 rn0 rc0) r.2 rf0 ∧ Own (Nw w0 []) (fun _ => True) w (rf0 ++ ([]))
def s_laws_toRelation (a_ : Int × (List (List Int))) : Option ((Int × (List (List Int)))) :=
  (s_laws_toIntSS a_.2).bind fun r7 =>
  some (a_.1, r7)
set_option maxHeartbeats 4000000 in
theorem c_laws_toRelation {M : Nat → Prop} {w : World} {pa0 : Option Addr} {pn0 pc0 : Nat} (a_ : Int × (List (List Int))) (h0 : (RT.rs (RT.rs (RT.int .i64))).val M w (.slice pa0 pn0 pc0) a_.2 ([])) (hM : ∀ g, w.heap.size ≤ g → M g) {r : (Int × (List (List Int)))} (hs : s_laws_toRelation a_ = some r) :
    Gives Try.prog 59 [(.agg #[(.int .i64 a_.1), (.slice pa0 pn0 pc0)])] w (fun v w' => ∃ (ra0 : Option Addr) (rn0 rc0 : Nat) (rf0 : List Nat), v = (.agg #[(.int .i64 r.1), (.slice ra0 rn0 rc0)]) ∧ Chg [] w w' ∧ (RT.os 41 (RT.os 3 (RT.int .i64))).val M w' (.slice ra0 rn0 rc0) r.2 rf0 ∧ Own (Nw w []) (fun _ => True) w' (rf0 ++ ([]))) := by
 refine calls_fr Try.func59 rfl Try.ntmps59 (Nat.le_of_ble_eq_true rfl) ?_
 have hO := Own.start (N := Nw w []) hM Nw.fut
 have hC := Chg.refl [] w
 unfold s_laws_toRelation at hs
 refine wp_mono (Q := KPost (k_laws_toRelation M w r)) ?_ (fun e a d8 h => ?_)
 rotate_left
 ·cases e
  case ret =>
   obtain ⟨σ, rg2, ra0, rn0, rc0, rf0, rfl, hbrg2, hrest⟩ := h
   exact ret1x Try.results59 (res_cell rfl (box_load Ag54 Sz54 hbrg2 [] _ [] rfl rfl (fun h => nomatch h))) ⟨ra0, rn0, rc0, rf0, rfl, hrest⟩
  all_goals exact (h : False).elim
 refine c_sr ?_
 obtain ⟨b9, b3, c9, c0, b7, a0⟩ := new_block w [(.int .i64 a_.1), (.slice pa0 pn0 pc0)] 49
 refine pl_val (w' := b9) (.pointer (some ⟨b3, 0, none⟩)) (y_box rfl (by rw [c9, c0]; kernel_rfl)) ?_
 have h0 := h0.ext b7
 have hC := hC.ext b7
 have hO := hO.new1 b7 c0 a0.lt
 obtain ⟨c1, b4, d0, c2, b5, a1⟩ := new_block b9 [(.int .i64 0), (.slice none 0 0)] 54
 refine pl_val (w' := c1) (.pointer (some ⟨b4, 0, none⟩)) (y_alloc (by rw [d0, c2]; kernel_rfl)) ?_
 have h0 := h0.ext b5
 have a0 := a0.cn b5
 have hC := hC.ext b5
 have hO := hO.new1 b5 c2 a1.lt
 refine c_nil ?_
 refine c_sr ?_
 obtain ⟨d1, a5, d2, c3, a8, c4⟩ := new_block c1 [(.int .i64 0), (.slice none 0 0)] 54
 refine pl_val (w' := d1) (.pointer (some ⟨a5, 0, none⟩)) (y_alloc (by rw [d2, c3]; kernel_rfl)) ?_
 have h0 := h0.ext a8
 have a0 := a0.cn a8
 have a1 := a1.cn a8
 have hC := hC.ext a8
 have hO := hO.new1 a8 c3 c4.lt
 refine c_nil ?_
 refine c_sr ?_
 refine pl_val (.pointer (some ⟨b3, 0, none⟩)) (y_faddr rfl Fa49x0) ?_
 refine pl_val (.int .i64 a_.1) (y_load rfl ((box_load Ag3 Sz3 a0 [] [(.int .i64 a_.1)] [(.slice pa0 pn0 pc0)] rfl rfl (fun _ => rfl)) _ (Chg.refl _ _))) ?_
 refine pl_val (.pointer (some ⟨a5, 0, none⟩)) (y_faddr rfl Fa54x0) ?_
 obtain ⟨c5, d3, a9, b0⟩ := box_store (P := Try.prog) c4 [] [(.int .i64 0)] [(.slice none 0 0)] [(.int .i64 a_.1)] rfl rfl (by intro u hu; simp only [List.mem_cons, List.not_mem_nil, or_false] at hu; rcases hu with rfl <;> rfl)
 refine pl_skip (w' := c5) (ys_store rfl rfl (d3 _ _ rfl Sz3)) ?_
 have h0 := h0.mt a9 hO same_
 have a0 := a0.ap a9 hO same_ (mem_r (mem_l (List.mem_singleton.2 rfl)))
 have a1 := a1.ap a9 hO same_ (mem_l (List.mem_singleton.2 rfl))
 have hC := hC.st a9 hO same_
 have hO := hO.ext a9
 have b0 : BoxV c5 a5 54 [(.int .i64 a_.1), (.slice none 0 0)] := b0
 refine c_nil ?_
 refine c_sr ?_
 refine pl_val (.pointer (some ⟨b3, 1, none⟩)) (y_faddr rfl Fa49x1) ?_
 refine pl_val (.slice pa0 pn0 pc0) (y_load rfl ((box_load Ag47 Sz47 a0 [(.int .i64 a_.1)] [(.slice pa0 pn0 pc0)] [] rfl rfl (fun _ => rfl)) _ (Chg.refl _ _))) ?_
 obtain ⟨r7, d4, hs⟩ := bind_some hs
 refine pl_call Bd109 rfl (c_laws_toIntSS (M := M) a_.2 h0 hO.fut d4) ?_
 rintro _ d9 ⟨a2, a3, a4, c6, rfl, a6, b1, d5⟩
 have h0 := h0.ext a6
 have a0 := a0.cn a6
 have a1 := a1.cn a6
 have b0 := b0.cn a6
 have hC := hC.ext a6
 have hO := Own.join0 hO a6 d5
 have hO := hO.perm (R := c6 ++ (([a5]) ++ (([b4]) ++ (([b3]) ++ ([]))))) (by simp)
 refine pl_val (.pointer (some ⟨a5, 1, none⟩)) (y_faddr rfl Fa54x1) ?_
 obtain ⟨c7, d6, a7, b2⟩ := box_store (P := Try.prog) b0 [(.int .i64 a_.1)] [(.slice none 0 0)] [] [(.slice a2 a3 a4)] rfl rfl (by intro u hu; simp only [List.mem_cons, List.not_mem_nil, or_false] at hu; rcases hu with rfl <;> rfl)
 refine pl_skip (w' := c7) (ys_store rfl rfl (d6 _ _ rfl Sz47)) ?_
 have hO := hO.fr1
 have h0 := h0.mt a7 hO same_
 have a0 := a0.ap a7 hO same_ (mem_r (mem_r (mem_l (List.mem_singleton.2 rfl))))
 have a1 := a1.ap a7 hO same_ (mem_r (mem_l (List.mem_singleton.2 rfl)))
 have b1 := b1.ma a7 hO same_ (fun _ e => (mem_l (e)))
 have hC := hC.st a7 hO same_
 have hO := hO.ext a7
 have b2 : BoxV c7 a5 54 [(.int .i64 a_.1), (.slice a2 a3 a4)] := b2
 refine c_nil ?_
 have hO := hO.fr3
 have hO := hO.drop
 refine c_sr ?_
 refine pl_val (.agg #[(.int .i64 a_.1), (.slice a2 a3 a4)]) (y_load rfl ((box_load Ag54 Sz54 b2 [] [(.int .i64 a_.1), (.slice a2 a3 a4)] [] rfl rfl (fun h => nomatch h)) _ (Chg.refl _ _))) ?_
 obtain ⟨c8, d7, b6, b8⟩ := box_store (P := Try.prog) a1 [] [(.int .i64 0), (.slice none 0 0)] [] [(.int .i64 a_.1), (.slice a2 a3 a4)] rfl rfl (by intro u hu; simp only [List.mem_cons, List.not_mem_nil, or_false] at hu; rcases hu with rfl | rfl <;> rfl)
 refine pl_skip (w' := c8) (ys_store rfl rfl (d7 _ _ rfl Sz54)) ?_
 have hO := hO.fr2
 have b2 := b2.ap b6 hO same_ (mem_l (List.mem_singleton.2 rfl))
 have b1 := b1.ma b6 hO same_ (fun _ e => (mem_r (mem_l (e))))
 have hC := hC.st b6 hO same_
 have hO := hO.ext b6
 have b8 : BoxV c8 b4 54 [(.int .i64 a_.1), (.slice a2 a3 a4)] := b8
 refine c_nil ?_
 have hO := hO.fr1
 have hO := hO.drop
 refine wp_ret ?_
 cases hs
 have hO := hO.drop
 exact ⟨_, b4, a2, a3, a4, c6, fr_ovl 12 ⟨rfl, trivial⟩, b8, hC, b1, hO.top⟩

theorem Ag56 : AggT Try.prog 56 true := fun _ => by kernel_rfl

theorem Sz56 : SzT Try.prog 56 3 := ⟨_, rfl, rfl⟩

theorem Fa56x0 : ∀ (a : Addr) (w : World), (Instr.fieldAt 56 (.pointer (some a)) 0).run Try.prog w = .ok (.pointer (some (a.add 0))) w := fun _ _ => by kernel_rfl

theorem Bd59 : Bodied Try.prog 59 := bodied Try.func59 (by kernel_rfl) rfl

theorem Fa56x1 : ∀ (a : Addr) (w : World), (Instr.fieldAt 56 (.pointer (some a)) 1).run Try.prog w = .ok (.pointer (some (a.add 1))) w := fun _ _ => by kernel_rfl

def k_laws_toConstraint (M : Nat → Prop) (w0 : World) (r : ((List Int) × (Int × (List (List Int))))) (a : Act) (w : World) : Prop :=
  ∃ (σ : Nat → Value) (rg2 : Nat) (ra0 : Option Addr) (rn0 rc0 : Nat) (rf0 : List Nat) (ra1 : Option Addr) (rn1 rc1 : Nat) (rf1 : List Nat), a = fr 13 (ovl σ [(2, (.pointer (some ⟨rg2, 0, none⟩)))]) ∧ BoxV w rg2 56 [(.slice ra0 rn0 rc0), (.int .i64 r.2.1), (.slice ra1 rn1 rc1)] ∧ Chg [] w0 w ∧ (RT.os 3 (RT.int .i64)).val M w (.slice ra0 rn0 rc0) r.1 rf0 ∧ (RT.os 41 (RT.os 3 (RT.int .i64))).val M w (.slice ra1 rn1 rc1) r.2.2 rf1 ∧ Own (Nw w0 []) (fun _ => True) w (rf0 ++ (rf1 ++ ([])))
def s_laws_toConstraint (a_ : (List Int) × (Int × (List (List Int)))) : Option (((List Int) × (Int × (List (List Int))))) :=
  (s_laws_toIntS a_.1).bind fun r7 =>
  (s_laws_toRelation (a_.2.1, a_.2.2)).bind fun r11 =>
  some (r7, (r11.1, r11.2))
set_option maxHeartbeats 4000000 in
theorem c_laws_toConstraint {M : Nat → Prop} {w : World} {pa0 : Option Addr} {pn0 pc0 : Nat} {pa1 : Option Addr} {pn1 pc1 : Nat} (a_ : (List Int) × (Int × (List (List Int)))) (h0 : (RT.rs (RT.int .i64)).val M w (.slice pa0 pn0 pc0) a_.1 ([])) (h1 : (RT.rs (RT.rs (RT.int .i64))).val M w (.slice pa1 pn1 pc1) a_.2.2 ([])) (hM : ∀ g, w.heap.size ≤ g → M g) {r : ((List Int) × (Int × (List (List Int))))} (hs : s_laws_toConstraint a_ = some r) :
    Gives Try.prog 27 [(.agg #[(.slice pa0 pn0 pc0), (.int .i64 a_.2.1), (.slice pa1 pn1 pc1)])] w (fun v w' => ∃ (ra0 : Option Addr) (rn0 rc0 : Nat) (rf0 : List Nat) (ra1 : Option Addr) (rn1 rc1 : Nat) (rf1 : List Nat), v = (.agg #[(.slice ra0 rn0 rc0), (.int .i64 r.2.1), (.slice ra1 rn1 rc1)]) ∧ Chg [] w w' ∧ (RT.os 3 (RT.int .i64)).val M w' (.slice ra0 rn0 rc0) r.1 rf0 ∧ (RT.os 41 (RT.os 3 (RT.int .i64))).val M w' (.slice ra1 rn1 rc1) r.2.2 rf1 ∧ Own (Nw w []) (fun _ => True) w' (rf0 ++ (rf1 ++ ([])))) := by
 refine calls_fr Try.func27 rfl Try.ntmps27 (Nat.le_of_ble_eq_true rfl) ?_
 have hO := Own.start (N := Nw w []) hM Nw.fut
 have hC := Chg.refl [] w
 unfold s_laws_toConstraint at hs
 refine wp_mono (Q := KPost (k_laws_toConstraint M w r)) ?_ (fun e a e6 h => ?_)
 rotate_left
 ·cases e
  case ret =>
   obtain ⟨σ, rg2, ra0, rn0, rc0, rf0, ra1, rn1, rc1, rf1, rfl, hbrg2, hrest⟩ := h
   exact ret1x Try.results27 (res_cell rfl (box_load Ag56 Sz56 hbrg2 [] _ [] rfl rfl (fun h => nomatch h))) ⟨ra0, rn0, rc0, rf0, ra1, rn1, rc1, rf1, rfl, hrest⟩
  all_goals exact (h : False).elim
 refine c_sr ?_
 obtain ⟨c6, b5, d5, c7, c2, a0⟩ := new_block w [(.slice pa0 pn0 pc0), (.int .i64 a_.2.1), (.slice pa1 pn1 pc1)] 51
 refine pl_val (w' := c6) (.pointer (some ⟨b5, 0, none⟩)) (y_box rfl (by rw [d5, c7]; kernel_rfl)) ?_
 have h0 := h0.ext c2
 have h1 := h1.ext c2
 have hC := hC.ext c2
 have hO := hO.new1 c2 c7 a0.lt
 obtain ⟨c8, b6, d6, c9, b7, a1⟩ := new_block c6 [(.slice none 0 0), (.int .i64 0), (.slice none 0 0)] 56
 refine pl_val (w' := c8) (.pointer (some ⟨b6, 0, none⟩)) (y_alloc (by rw [d6, c9]; kernel_rfl)) ?_
 have h0 := h0.ext b7
 have h1 := h1.ext b7
 have a0 := a0.cn b7
 have hC := hC.ext b7
 have hO := hO.new1 b7 c9 a1.lt
 refine c_nil ?_
 refine c_sr ?_
 obtain ⟨d7, a8, d8, d0, b4, c3⟩ := new_block c8 [(.slice none 0 0), (.int .i64 0), (.slice none 0 0)] 56
 refine pl_val (w' := d7) (.pointer (some ⟨a8, 0, none⟩)) (y_alloc (by rw [d8, d0]; kernel_rfl)) ?_
 have h0 := h0.ext b4
 have h1 := h1.ext b4
 have a0 := a0.cn b4
 have a1 := a1.cn b4
 have hC := hC.ext b4
 have hO := hO.new1 b4 d0 c3.lt
 refine c_nil ?_
 refine c_sr ?_
 refine pl_val (.pointer (some ⟨b5, 0, none⟩)) (y_faddr rfl Fa51x0) ?_
 refine pl_val (.slice pa0 pn0 pc0) (y_load rfl ((box_load Ag41 Sz41 a0 [] [(.slice pa0 pn0 pc0)] [(.int .i64 a_.2.1), (.slice pa1 pn1 pc1)] rfl rfl (fun _ => rfl)) _ (Chg.refl _ _))) ?_
 obtain ⟨r7, d9, hs⟩ := bind_some hs
 refine pl_call Bd22 rfl (c_laws_toIntS (M := M) a_.1 h0 hO.fut d9) ?_
 rintro _ e7 ⟨a2, a3, a4, c4, rfl, a9, a5, e0⟩
 have h0 := h0.ext a9
 have h1 := h1.ext a9
 have a0 := a0.cn a9
 have a1 := a1.cn a9
 have c3 := c3.cn a9
 have hC := hC.ext a9
 have hO := Own.join0 hO a9 e0
 have hO := hO.perm (R := c4 ++ (([a8]) ++ (([b6]) ++ (([b5]) ++ ([]))))) (by simp)
 refine pl_val (.pointer (some ⟨a8, 0, none⟩)) (y_faddr rfl Fa56x0) ?_
 obtain ⟨d1, e1, b0, b8⟩ := box_store (P := Try.prog) c3 [] [(.slice none 0 0)] [(.int .i64 0), (.slice none 0 0)] [(.slice a2 a3 a4)] rfl rfl (by intro u hu; simp only [List.mem_cons, List.not_mem_nil, or_false] at hu; rcases hu with rfl <;> rfl)
 refine pl_skip (w' := d1) (ys_store rfl rfl (e1 _ _ rfl Sz41)) ?_
 have hO := hO.fr1
 have h0 := h0.mt b0 hO same_
 have h1 := h1.mt b0 hO same_
 have a0 := a0.ap b0 hO same_ (mem_r (mem_r (mem_l (List.mem_singleton.2 rfl))))
 have a1 := a1.ap b0 hO same_ (mem_r (mem_l (List.mem_singleton.2 rfl)))
 have a5 := a5.ma b0 hO same_ (fun _ e => (mem_l (e)))
 have hC := hC.st b0 hO same_
 have hO := hO.ext b0
 have b8 : BoxV d1 a8 56 [(.slice a2 a3 a4), (.int .i64 0), (.slice none 0 0)] := b8
 refine c_nil ?_
 refine c_sr ?_
 refine pl_val (.pointer (some ⟨b5, 1, none⟩)) (y_faddr rfl Fa51x1) ?_
 refine pl_val (.agg #[(.int .i64 a_.2.1), (.slice pa1 pn1 pc1)]) (y_load rfl ((box_load Ag49 Sz49 a0 [(.slice pa0 pn0 pc0)] [(.int .i64 a_.2.1), (.slice pa1 pn1 pc1)] [] rfl rfl (fun h => nomatch h)) _ (Chg.refl _ _))) ?_
 obtain ⟨r11, e2, hs⟩ := bind_some hs
 refine pl_call Bd59 rfl (c_laws_toRelation (M := M) (a_.2.1, a_.2.2) h1 hO.fut e2) ?_
 rintro _ e8 ⟨b1, b2, b3, d2, rfl, a6, b9, e3⟩
 have h0 := h0.ext a6
 have h1 := h1.ext a6
 have a0 := a0.cn a6
 have a1 := a1.cn a6
 have b8 := b8.cn a6
 have a5 := a5.ext a6
 have hC := hC.ext a6
 have hO := Own.join0 hO a6 e3
 have hO := hO.perm (R := d2 ++ (([a8]) ++ (c4 ++ (([b6]) ++ (([b5]) ++ ([])))))) (by simp)
 refine pl_val (.pointer (some ⟨a8, 1, none⟩)) (y_faddr rfl Fa56x1) ?_
 obtain ⟨d3, e4, a7, c0⟩ := box_store (P := Try.prog) b8 [(.slice a2 a3 a4)] [(.int .i64 0), (.slice none 0 0)] [] [(.int .i64 r11.1), (.slice b1 b2 b3)] rfl rfl (by intro u hu; simp only [List.mem_cons, List.not_mem_nil, or_false] at hu; rcases hu with rfl | rfl <;> rfl)
 refine pl_skip (w' := d3) (ys_store rfl rfl (e4 _ _ rfl Sz54)) ?_
 have hO := hO.fr1
 have h0 := h0.mt a7 hO same_
 have h1 := h1.mt a7 hO same_
 have a0 := a0.ap a7 hO same_ (mem_r (mem_r (mem_r (mem_l (List.mem_singleton.2 rfl)))))
 have a1 := a1.ap a7 hO same_ (mem_r (mem_r (mem_l (List.mem_singleton.2 rfl))))
 have a5 := a5.ma a7 hO same_ (fun _ e => (mem_r (mem_l (e))))
 have b9 := b9.ma a7 hO same_ (fun _ e => (mem_l (e)))
 have hC := hC.st a7 hO same_
 have hO := hO.ext a7
 have c0 : BoxV d3 a8 56 [(.slice a2 a3 a4), (.int .i64 r11.1), (.slice b1 b2 b3)] := c0
 refine c_nil ?_
 have hO := hO.fr4
 have hO := hO.drop
 refine c_sr ?_
 refine pl_val (.agg #[(.slice a2 a3 a4), (.int .i64 r11.1), (.slice b1 b2 b3)]) (y_load rfl ((box_load Ag56 Sz56 c0 [] [(.slice a2 a3 a4), (.int .i64 r11.1), (.slice b1 b2 b3)] [] rfl rfl (fun h => nomatch h)) _ (Chg.refl _ _))) ?_
 obtain ⟨d4, e5, c1, c5⟩ := box_store (P := Try.prog) a1 [] [(.slice none 0 0), (.int .i64 0), (.slice none 0 0)] [] [(.slice a2 a3 a4), (.int .i64 r11.1), (.slice b1 b2 b3)] rfl rfl (by intro u hu; simp only [List.mem_cons, List.not_mem_nil, or_false] at hu; rcases hu with rfl | rfl | rfl <;> rfl)
 refine pl_skip (w' := d4) (ys_store rfl rfl (e5 _ _ rfl Sz56)) ?_
 have hO := hO.fr3
 have c0 := c0.ap c1 hO same_ (mem_l (List.mem_singleton.2 rfl))
 have a5 := a5.ma c1 hO same_ (fun _ e => (mem_r (mem_r (mem_l (e)))))
 have b9 := b9.ma c1 hO same_ (fun _ e => (mem_r (mem_l (e))))
 have hC := hC.st c1 hO same_
 have hO := hO.ext c1
 have c5 : BoxV d4 b6 56 [(.slice a2 a3 a4), (.int .i64 r11.1), (.slice b1 b2 b3)] := c5
 refine c_nil ?_
 have hO := hO.fr1
 have hO := hO.drop
 refine wp_ret ?_
 cases hs
 have hO := hO.drop
 have hO := hO.fr1
 exact ⟨_, b6, a2, a3, a4, c4, b1, b2, b3, d2, fr_ovl 13 ⟨rfl, trivial⟩, c5, hC, a5, b9, hO.top⟩

theorem Rw28 : RowT Try.prog 28 56 3 [(.slice none 0 0), (.int .i64 0), (.slice none 0 0)] := ⟨Try.underlying28, ⟨_, _, rfl, rfl, rfl, rfl, by decide⟩, rfl, by decide⟩

theorem Bd27 : Bodied Try.prog 27 := bodied Try.func27 (by kernel_rfl) rfl

theorem Sl28 : SlT Try.prog 28 56 := Try.underlying28

def k_laws_toConstraintS (M : Nat → Prop) (w0 : World) (r : (List ((List Int) × (Int × (List (List Int)))))) (a : Act) (w : World) : Prop :=
  ∃ (σ : Nat → Value) (ra0 : Option Addr) (rn0 rc0 : Nat) (rf0 : List Nat), a = fr 23 (ovl σ [(2, (.slice ra0 rn0 rc0))]) ∧ Chg [] w0 w ∧ (RT.os 56 (RT.pr (RT.os 3 (RT.int .i64)) (RT.pr (RT.int .i64) (RT.os 41 (RT.os 3 (RT.int .i64)))))).val M w (.slice ra0 rn0 rc0) r rf0 ∧ Own (Nw w0 []) (fun _ => True) w (rf0 ++ ([]))
def s_laws_toConstraintS (a_ : List ((List Int) × (Int × (List (List Int))))) : Option ((List ((List Int) × (Int × (List (List Int)))))) :=
  (mks (a_.length : Int) (([], (0, [])) : (List Int) × (Int × (List (List Int))))).bind fun y3 =>
  (forC (S := (List ((List Int) × (Int × (List (List Int)))))) (R := (List ((List Int) × (Int × (List (List Int)))))) (fun k32 s30 =>
  (idx a_ k32).bind fun x38 =>
  (s_laws_toConstraint (x38.1, (x38.2.1, x38.2.2))).bind fun r44 =>
  (idx s30 k32).bind fun x47 =>
  some (.nx (List.set s30 (Int.toNat k32) (r44.1, (r44.2.1, r44.2.2))))) 0 (a_.length : Int) y3).bind fun o34 => after o34 (fun r_ => some r_) (fun s30 =>
  some s30)
set_option maxHeartbeats 4000000 in
theorem c_laws_toConstraintS {M : Nat → Prop} {w : World} {pa0 : Option Addr} {pn0 pc0 : Nat} (a_ : List ((List Int) × (Int × (List (List Int))))) (h0 : (RT.rs (RT.pr (RT.rs (RT.int .i64)) (RT.pr (RT.int .i64) (RT.rs (RT.rs (RT.int .i64)))))).val M w (.slice pa0 pn0 pc0) a_ ([])) (hM : ∀ g, w.heap.size ≤ g → M g) {r : (List ((List Int) × (Int × (List (List Int)))))} (hs : s_laws_toConstraintS a_ = some r) :
    Gives Try.prog 50 [(.slice pa0 pn0 pc0)] w (fun v w' => ∃ (ra0 : Option Addr) (rn0 rc0 : Nat) (rf0 : List Nat), v = (.slice ra0 rn0 rc0) ∧ Chg [] w w' ∧ (RT.os 56 (RT.pr (RT.os 3 (RT.int .i64)) (RT.pr (RT.int .i64) (RT.os 41 (RT.os 3 (RT.int .i64)))))).val M w' (.slice ra0 rn0 rc0) r rf0 ∧ Own (Nw w []) (fun _ => True) w' (rf0 ++ ([]))) := by
 refine calls_fr Try.func50 rfl Try.ntmps50 (Nat.le_of_ble_eq_true rfl) ?_
 have hO := Own.start (N := Nw w []) hM Nw.fut
 have hC := Chg.refl [] w
 unfold s_laws_toConstraintS at hs
 refine wp_mono (Q := KPost (k_laws_toConstraintS M w r)) ?_ (fun e a b9 h => ?_)
 rotate_left
 ·cases e
  case ret =>
   obtain ⟨σ, ra0, rn0, rc0, rf0, rfl, hrest⟩ := h
   exact ret1x Try.results50 (res_tmp rfl) ⟨ra0, rn0, rc0, rf0, rfl, hrest⟩
  all_goals exact (h : False).elim
 refine c_sr ?_
 refine pl_val (.slice none 0 0) (y_assign rfl) ?_
 refine c_nil ?_
 refine c_sr ?_
 refine pl_val (.slice pa0 pn0 pc0) (y_move rfl) ?_
 refine pl_val (.int .i64 (a_.length : Int)) (y_len' Sl22 (rs_len h0) rfl) ?_
 obtain ⟨y3, c0, hs⟩ := bind_some hs
 obtain ⟨a1, a2, a3, c1, c2, c3, b2, c4, b3⟩ := mk_os (M := M) (w := w) (r := (RT.pr (RT.os 3 (RT.int .i64)) (RT.pr (RT.int .i64) (RT.os 41 (RT.os 3 (RT.int .i64)))))) Rw28 c0 (fun _ _ => ⟨_, _, [], [], rfl, rfl, (os_unval os_nil), ⟨_, _, [], [], rfl, rfl, ⟨rfl, rfl⟩, (os_unval os_nil)⟩⟩)
 refine pl_val (w' := c1) (.slice a1 a2 a3) (y_make rfl rfl c3) ?_
 have h0 := h0.ext b2
 have hC := hC.ext b2
 have hO := hO.new b2 c4 (os_nodup b3) b3.fpl
 refine pl_val (.slice a1 a2 a3) (y_assign rfl) ?_
 refine c_nil ?_
 refine c_seq ?_
 refine c_sr ?_
 refine pl_val (.int .i64 0) (y_assign rfl) ?_
 refine c_nil ?_
 obtain ⟨o34, c5, hs⟩ := bind_some hs
 refine wp_block ?_
 refine wp_forC (id := 0) (a_.length : Int) (I := fun k32 s30 a a0 => ∃ (σ : Nat → Value) (a4 : List Nat), a = fr 23 (ovl σ [(0, (.slice pa0 pn0 pc0)), (3, (.slice a1 a2 a3)), (4, (.int .i64 k32))]) ∧ Chg [] w a0 ∧ Own (Nw w []) M a0 (a4 ++ []) ∧ (RT.rs (RT.pr (RT.rs (RT.int .i64)) (RT.pr (RT.int .i64) (RT.rs (RT.rs (RT.int .i64)))))).val M a0 (.slice pa0 pn0 pc0) a_ ([]) ∧ (RT.os 56 (RT.pr (RT.os 3 (RT.int .i64)) (RT.pr (RT.int .i64) (RT.os 41 (RT.os 3 (RT.int .i64)))))).val M a0 (.slice a1 a2 a3) s30 a4) (J := fun s30 a a0 => ∃ (σ : Nat → Value) (b0 : List Nat), a = fr 23 (ovl σ [(3, (.slice a1 a2 a3))]) ∧ Chg [] w a0 ∧ Own (Nw w []) M a0 (b0 ++ []) ∧ (RT.rs (RT.pr (RT.rs (RT.int .i64)) (RT.pr (RT.int .i64) (RT.rs (RT.rs (RT.int .i64)))))).val M a0 (.slice pa0 pn0 pc0) a_ ([]) ∧ (RT.os 56 (RT.pr (RT.os 3 (RT.int .i64)) (RT.pr (RT.int .i64) (RT.os 41 (RT.os 3 (RT.int .i64)))))).val M a0 (.slice a1 a2 a3) s30 b0) (K := (k_laws_toConstraintS M w)) ?_ ?_ 0 y3 o34 _ _ ?_ c5 ?_
 ·rintro k32 s30 a a0 ⟨σ, a4, rfl, hC, hO, h0, a5⟩ hlt
  refine c_seq ?_
  refine c_sr ?_
  refine pl_val (.int .i64 k32) (y_move rfl) ?_
  refine pl_val (.slice pa0 pn0 pc0) (y_move rfl) ?_
  refine pl_val (.int .i64 (a_.length : Int)) (y_len' Sl22 (rs_len h0) rfl) ?_
  refine pl_val (.bool (decide (k32 < (a_.length : Int)))) (y_lss rfl rfl) ?_
  refine c_nil ?_
  refine c_condF (congrArg Value.bool (decide_eq_false hlt)) ?_
  refine wp_exit ?_
  exact ⟨rfl, _, a4, fr_ovl 23 ⟨rfl, trivial⟩, hC, hO, h0, a5⟩
 ·rintro k32 s30 o34 a a0 ⟨σ, a4, rfl, hC, hO, h0, a5⟩ hlt hw hs
  refine c_seq ?_
  refine c_sr ?_
  refine pl_val (.int .i64 k32) (y_move rfl) ?_
  refine pl_val (.slice pa0 pn0 pc0) (y_move rfl) ?_
  refine pl_val (.int .i64 (a_.length : Int)) (y_len' Sl22 (rs_len h0) rfl) ?_
  refine pl_val (.bool (decide (k32 < (a_.length : Int)))) (y_lss rfl rfl) ?_
  refine c_nil ?_
  refine c_condT (congrArg Value.bool (decide_eq_true hlt)) ?_
  refine wp_skip ?_
  refine c_seq ?_
  refine wp_block ?_
  refine c_region ?_
  refine pl_val (.slice a1 a2 a3) (y_move rfl) ?_
  refine pl_val (.int .i64 k32) (y_move rfl) ?_
  refine pl_val (.slice pa0 pn0 pc0) (y_move rfl) ?_
  refine pl_val (.int .i64 k32) (y_move rfl) ?_
  obtain ⟨x38, c6, hs⟩ := bind_some hs
  obtain ⟨c7, c8, c9, d0⟩ := rs_idx Sl22 Sz51 h0 c6
  refine pl_val (.pointer (some ⟨c7, c8, none⟩)) (c9 _ _ _ _ _ _ _ _ _ rfl rfl) ?_
  obtain ⟨g5, d1, d2⟩ := at_load Ag51 Sz51 (by intro h; cases h) d0
  obtain ⟨g6, rfl, d3⟩ := d2
  obtain ⟨g7, g8, rfl, d4, d5⟩ := pr_open d3
  obtain ⟨d6, d7, d8, rfl, a7⟩ := rs_rel d4
  obtain ⟨g9, h1, rfl, d9, e0⟩ := pr_open d5
  obtain rfl := int_rel d9
  obtain ⟨e1, e2, e3, rfl, a8⟩ := rs_rel e0
  refine pl_val (.agg #[(.slice d6 d7 d8), (.int .i64 x38.2.1), (.slice e1 e2 e3)]) (y_load rfl (d1 _ (Chg.refl _ _))) ?_
  obtain ⟨r44, e4, hs⟩ := bind_some hs
  refine pl_call Bd27 rfl (c_laws_toConstraint (M := M) (x38.1, (x38.2.1, x38.2.2)) a7 a8 hO.fut e4) ?_
  rintro _ h2 ⟨e5, e6, e7, b4, e8, e9, f0, b5, rfl, a6, f1, f2, f3⟩
  have h0 := h0.ext a6
  have a5 := a5.ext a6
  have a7 := a7.ext a6
  have a8 := a8.ext a6
  have hC := hC.ext a6
  have hO := Own.join0 hO a6 f3
  have hO := hO.perm (R := b4 ++ (b5 ++ (a4 ++ ([])))) (by simp)
  obtain ⟨x47, f4, hs⟩ := bind_some hs
  obtain ⟨b7, h3, b8, f5, f6, f7, f8⟩ := os_idx Sl28 Sz56 a5 f4
  have h4 := own_row (Frz.pr (Frz.os Frz.int) (Frz.pr Frz.int (Frz.os (Frz.os Frz.int)))) f7 f8
  refine pl_val (.pointer (some ⟨b7, 0 + Int.toNat k32 * 3, none⟩)) (f6 _ _ _ _ _ _ _ _ _ rfl rfl) ?_
  have hO := hO.fr1
  have hO := hO.fr1
  have hO := hO.fr2
  obtain ⟨f9, g0, g1, a9, g2, b6⟩ := os_store (P := Try.prog) (c' := [(.slice e5 e6 e7), (.int .i64 r44.2.1), (.slice e8 e9 f0)]) b8 a5 f5 (fun g hg => hO.inM g (os_block a5 g (by simpa using hg))) ⟨_, _, _, _, rfl, rfl, (os_unval f1), ⟨_, _, _, _, rfl, rfl, ⟨rfl, rfl⟩, (os_unval f2)⟩⟩ (hO.drop.perm (R := (b4 ++ (([] : List Nat) ++ b5)) ++ ([])) (by simp)).nd (fun g hg hq => hO.apart g hq (by simp only [List.mem_append, List.not_mem_nil, false_or, or_false] at hg ⊢; rcases hg with hg | hg <;> simp [hg])) (fun _ h => .inl h)
  have b1 : ∀ q ∈ [b7], q ∈ a4 := fun q hq => os_block a5 q (by rw [b8]; exact hq)
  refine pl_skip (w' := f9) (ys_store rfl rfl (g1 _ _ rfl Sz56)) ?_
  have hO := hO.fr2
  have hO := hO.fr2
  have hO := hO.fr2
  have h0 := h0.mt a9 hO b1
  have a7 := a7.mt a9 hO b1
  have a8 := a8.mt a9 hO b1
  have hC := hC.st a9 hO b1
  have hO := hO.perm (R := a4 ++ ((b4 ++ (([] : List Nat) ++ b5)) ++ ([]))) (by simp)
  have hO := hO.eat a9 (fun q hq => (g2 q hq).elim .inl (fun h => .inr (.inl h))) (os_nodup b6) b6.fpl
  refine c_nil ?_
  refine c_region ?_
  refine pl_val (.int .i64 k32) (y_move rfl) ?_
  refine pl_val (.int .i64 (w64 (k32 + 1))) (y_add rfl rfl) ?_
  refine pl_val (.int .i64 (w64 (k32 + 1))) (y_assign rfl) ?_
  refine c_nil ?_
  cases hs
  exact ⟨_, g0, fr_ovl 23 ⟨rfl, rfl, congrArg (Value.int .i64) hw, trivial⟩, hC, hO, h0, b6⟩
 ·skip
  exact ⟨_, c2, fr_ovl 23 ⟨rfl, rfl, rfl, trivial⟩, hC, hO, h0, b3⟩
 cases o34 with
 | nx _ => exact True.intro
 | rt r_ =>
  have hs := after_rt hs
  intro g3 b9 hK
  cases hs
  exact hK
 | br s30 =>
  have hs := after_br hs
  rintro g3 a0 ⟨σ, b0, rfl, hC, hO, h0, g4⟩
  refine c_sr ?_
  refine pl_val (.slice a1 a2 a3) (y_move rfl) ?_
  refine pl_val (.slice a1 a2 a3) (y_assign rfl) ?_
  refine c_nil ?_
  refine wp_ret ?_
  cases hs
  exact ⟨_, a1, a2, a3, b0, fr_ovl 23 ⟨rfl, trivial⟩, hC, g4, hO.top⟩

theorem Ag30 : AggT Try.prog 30 true := fun _ => by kernel_rfl

theorem Sz30 : SzT Try.prog 30 3 := ⟨_, rfl, rfl⟩

theorem Fa24x0 : ∀ (a : Addr) (w : World), (Instr.fieldAt 24 (.pointer (some a)) 0).run Try.prog w = .ok (.pointer (some (a.add 0))) w := fun _ _ => by kernel_rfl

theorem Fa30x0 : ∀ (a : Addr) (w : World), (Instr.fieldAt 30 (.pointer (some a)) 0).run Try.prog w = .ok (.pointer (some (a.add 0))) w := fun _ _ => by kernel_rfl

theorem Fa24x1 : ∀ (a : Addr) (w : World), (Instr.fieldAt 24 (.pointer (some a)) 1).run Try.prog w = .ok (.pointer (some (a.add 1))) w := fun _ _ => by kernel_rfl

theorem Fa30x1 : ∀ (a : Addr) (w : World), (Instr.fieldAt 30 (.pointer (some a)) 1).run Try.prog w = .ok (.pointer (some (a.add 1))) w := fun _ _ => by kernel_rfl

theorem Bd50 : Bodied Try.prog 50 := bodied Try.func50 (by kernel_rfl) rfl

theorem Fa30x2 : ∀ (a : Addr) (w : World), (Instr.fieldAt 30 (.pointer (some a)) 2).run Try.prog w = .ok (.pointer (some (a.add 2))) w := fun _ _ => by kernel_rfl

theorem Sz28 : SzT Try.prog 28 1 := ⟨_, rfl, rfl⟩

def k_laws_toNetwork (M : Nat → Prop) (w0 : World) (r : (Int × Int × (List ((List Int) × (Int × (List (List Int))))))) (a : Act) (w : World) : Prop :=
  ∃ (σ : Nat → Value) (rg2 : Nat) (ra0 : Option Addr) (rn0 rc0 : Nat) (rf0 : List Nat), a = fr 15 (ovl σ [(2, (.pointer (some ⟨rg2, 0, none⟩)))]) ∧ BoxV w rg2 30 [(.int .i64 r.1), (.int .i64 r.2.1), (.slice ra0 rn0 rc0)] ∧ Chg [] w0 w ∧ (RT.os 56 (RT.pr (RT.os 3 (RT.int .i64)) (RT.pr (RT.int .i64) (RT.os 41 (RT.os 3 (RT.int .i64)))))).val M w (.slice ra0 rn0 rc0) r.2.2 rf0 ∧ Own (Nw w0 []) (fun _ => True) w (rf0 ++ ([]))
def s_laws_toNetwork (a_ : Int × Int × (List ((List Int) × (Int × (List (List Int)))))) : Option ((Int × Int × (List ((List Int) × (Int × (List (List Int))))))) :=
  (s_laws_toConstraintS a_.2.2).bind fun r8 =>
  some (a_.1, a_.2.1, r8)
set_option maxHeartbeats 4000000 in
theorem c_laws_toNetwork {M : Nat → Prop} {w : World} {pa0 : Option Addr} {pn0 pc0 : Nat} (a_ : Int × Int × (List ((List Int) × (Int × (List (List Int)))))) (h0 : (RT.rs (RT.pr (RT.rs (RT.int .i64)) (RT.pr (RT.int .i64) (RT.rs (RT.rs (RT.int .i64)))))).val M w (.slice pa0 pn0 pc0) a_.2.2 ([])) (hM : ∀ g, w.heap.size ≤ g → M g) {r : (Int × Int × (List ((List Int) × (Int × (List (List Int))))))} (hs : s_laws_toNetwork a_ = some r) :
    Gives Try.prog 13 [(.agg #[(.int .i64 a_.1), (.int .i64 a_.2.1), (.slice pa0 pn0 pc0)])] w (fun v w' => ∃ (ra0 : Option Addr) (rn0 rc0 : Nat) (rf0 : List Nat), v = (.agg #[(.int .i64 r.1), (.int .i64 r.2.1), (.slice ra0 rn0 rc0)]) ∧ Chg [] w w' ∧ (RT.os 56 (RT.pr (RT.os 3 (RT.int .i64)) (RT.pr (RT.int .i64) (RT.os 41 (RT.os 3 (RT.int .i64)))))).val M w' (.slice ra0 rn0 rc0) r.2.2 rf0 ∧ Own (Nw w []) (fun _ => True) w' (rf0 ++ ([]))) := by
 refine calls_fr Try.func13 rfl Try.ntmps13 (Nat.le_of_ble_eq_true rfl) ?_
 have hO := Own.start (N := Nw w []) hM Nw.fut
 have hC := Chg.refl [] w
 unfold s_laws_toNetwork at hs
 refine wp_mono (Q := KPost (k_laws_toNetwork M w r)) ?_ (fun e a e2 h => ?_)
 rotate_left
 ·cases e
  case ret =>
   obtain ⟨σ, rg2, ra0, rn0, rc0, rf0, rfl, hbrg2, hrest⟩ := h
   exact ret1x Try.results13 (res_cell rfl (box_load Ag30 Sz30 hbrg2 [] _ [] rfl rfl (fun h => nomatch h))) ⟨ra0, rn0, rc0, rf0, rfl, hrest⟩
  all_goals exact (h : False).elim
 refine c_sr ?_
 obtain ⟨c1, a8, d2, c2, b8, a0⟩ := new_block w [(.int .i64 a_.1), (.int .i64 a_.2.1), (.slice pa0 pn0 pc0)] 24
 refine pl_val (w' := c1) (.pointer (some ⟨a8, 0, none⟩)) (y_box rfl (by rw [d2, c2]; kernel_rfl)) ?_
 have h0 := h0.ext b8
 have hC := hC.ext b8
 have hO := hO.new1 b8 c2 a0.lt
 obtain ⟨c3, b5, d3, c4, b6, a1⟩ := new_block c1 [(.int .i64 0), (.int .i64 0), (.slice none 0 0)] 30
 refine pl_val (w' := c3) (.pointer (some ⟨b5, 0, none⟩)) (y_alloc (by rw [d3, c4]; kernel_rfl)) ?_
 have h0 := h0.ext b6
 have a0 := a0.cn b6
 have hC := hC.ext b6
 have hO := hO.new1 b6 c4 a1.lt
 refine c_nil ?_
 refine c_sr ?_
 obtain ⟨d4, a2, d5, c5, a9, c6⟩ := new_block c3 [(.int .i64 0), (.int .i64 0), (.slice none 0 0)] 30
 refine pl_val (w' := d4) (.pointer (some ⟨a2, 0, none⟩)) (y_alloc (by rw [d5, c5]; kernel_rfl)) ?_
 have h0 := h0.ext a9
 have a0 := a0.cn a9
 have a1 := a1.cn a9
 have hC := hC.ext a9
 have hO := hO.new1 a9 c5 c6.lt
 refine c_nil ?_
 refine c_sr ?_
 refine pl_val (.pointer (some ⟨a8, 0, none⟩)) (y_faddr rfl Fa24x0) ?_
 refine pl_val (.int .i64 a_.1) (y_load rfl ((box_load Ag3 Sz3 a0 [] [(.int .i64 a_.1)] [(.int .i64 a_.2.1), (.slice pa0 pn0 pc0)] rfl rfl (fun _ => rfl)) _ (Chg.refl _ _))) ?_
 refine pl_val (.pointer (some ⟨a2, 0, none⟩)) (y_faddr rfl Fa30x0) ?_
 obtain ⟨c7, d6, b0, b9⟩ := box_store (P := Try.prog) c6 [] [(.int .i64 0)] [(.int .i64 0), (.slice none 0 0)] [(.int .i64 a_.1)] rfl rfl (by intro u hu; simp only [List.mem_cons, List.not_mem_nil, or_false] at hu; rcases hu with rfl <;> rfl)
 refine pl_skip (w' := c7) (ys_store rfl rfl (d6 _ _ rfl Sz3)) ?_
 have h0 := h0.mt b0 hO same_
 have a0 := a0.ap b0 hO same_ (mem_r (mem_l (List.mem_singleton.2 rfl)))
 have a1 := a1.ap b0 hO same_ (mem_l (List.mem_singleton.2 rfl))
 have hC := hC.st b0 hO same_
 have hO := hO.ext b0
 have b9 : BoxV c7 a2 30 [(.int .i64 a_.1), (.int .i64 0), (.slice none 0 0)] := b9
 refine c_nil ?_
 refine c_sr ?_
 refine pl_val (.pointer (some ⟨a8, 1, none⟩)) (y_faddr rfl Fa24x1) ?_
 refine pl_val (.int .i64 a_.2.1) (y_load rfl ((box_load Ag3 Sz3 a0 [(.int .i64 a_.1)] [(.int .i64 a_.2.1)] [(.slice pa0 pn0 pc0)] rfl rfl (fun _ => rfl)) _ (Chg.refl _ _))) ?_
 refine pl_val (.pointer (some ⟨a2, 1, none⟩)) (y_faddr rfl Fa30x1) ?_
 obtain ⟨c8, d7, b1, b2⟩ := box_store (P := Try.prog) b9 [(.int .i64 a_.1)] [(.int .i64 0)] [(.slice none 0 0)] [(.int .i64 a_.2.1)] rfl rfl (by intro u hu; simp only [List.mem_cons, List.not_mem_nil, or_false] at hu; rcases hu with rfl <;> rfl)
 refine pl_skip (w' := c8) (ys_store rfl rfl (d7 _ _ rfl Sz3)) ?_
 have h0 := h0.mt b1 hO same_
 have a0 := a0.ap b1 hO same_ (mem_r (mem_l (List.mem_singleton.2 rfl)))
 have a1 := a1.ap b1 hO same_ (mem_l (List.mem_singleton.2 rfl))
 have hC := hC.st b1 hO same_
 have hO := hO.ext b1
 have b2 : BoxV c8 a2 30 [(.int .i64 a_.1), (.int .i64 a_.2.1), (.slice none 0 0)] := b2
 refine c_nil ?_
 refine c_sr ?_
 refine pl_val (.pointer (some ⟨a8, 2, none⟩)) (y_faddr rfl Fa24x2) ?_
 refine pl_val (.slice pa0 pn0 pc0) (y_load rfl ((box_load Ag22 Sz22 a0 [(.int .i64 a_.1), (.int .i64 a_.2.1)] [(.slice pa0 pn0 pc0)] [] rfl rfl (fun _ => rfl)) _ (Chg.refl _ _))) ?_
 obtain ⟨r8, d8, hs⟩ := bind_some hs
 refine pl_call Bd50 rfl (c_laws_toConstraintS (M := M) a_.2.2 h0 hO.fut d8) ?_
 rintro _ e3 ⟨a3, a4, a5, c9, rfl, a6, b3, d9⟩
 have h0 := h0.ext a6
 have a0 := a0.cn a6
 have a1 := a1.cn a6
 have b2 := b2.cn a6
 have hC := hC.ext a6
 have hO := Own.join0 hO a6 d9
 have hO := hO.perm (R := c9 ++ (([a2]) ++ (([b5]) ++ (([a8]) ++ ([]))))) (by simp)
 refine pl_val (.pointer (some ⟨a2, 2, none⟩)) (y_faddr rfl Fa30x2) ?_
 obtain ⟨d0, e0, a7, b4⟩ := box_store (P := Try.prog) b2 [(.int .i64 a_.1), (.int .i64 a_.2.1)] [(.slice none 0 0)] [] [(.slice a3 a4 a5)] rfl rfl (by intro u hu; simp only [List.mem_cons, List.not_mem_nil, or_false] at hu; rcases hu with rfl <;> rfl)
 refine pl_skip (w' := d0) (ys_store rfl rfl (e0 _ _ rfl Sz28)) ?_
 have hO := hO.fr1
 have h0 := h0.mt a7 hO same_
 have a0 := a0.ap a7 hO same_ (mem_r (mem_r (mem_l (List.mem_singleton.2 rfl))))
 have a1 := a1.ap a7 hO same_ (mem_r (mem_l (List.mem_singleton.2 rfl)))
 have b3 := b3.ma a7 hO same_ (fun _ e => (mem_l (e)))
 have hC := hC.st a7 hO same_
 have hO := hO.ext a7
 have b4 : BoxV d0 a2 30 [(.int .i64 a_.1), (.int .i64 a_.2.1), (.slice a3 a4 a5)] := b4
 refine c_nil ?_
 have hO := hO.fr3
 have hO := hO.drop
 refine c_sr ?_
 refine pl_val (.agg #[(.int .i64 a_.1), (.int .i64 a_.2.1), (.slice a3 a4 a5)]) (y_load rfl ((box_load Ag30 Sz30 b4 [] [(.int .i64 a_.1), (.int .i64 a_.2.1), (.slice a3 a4 a5)] [] rfl rfl (fun h => nomatch h)) _ (Chg.refl _ _))) ?_
 obtain ⟨d1, e1, b7, c0⟩ := box_store (P := Try.prog) a1 [] [(.int .i64 0), (.int .i64 0), (.slice none 0 0)] [] [(.int .i64 a_.1), (.int .i64 a_.2.1), (.slice a3 a4 a5)] rfl rfl (by intro u hu; simp only [List.mem_cons, List.not_mem_nil, or_false] at hu; rcases hu with rfl | rfl | rfl <;> rfl)
 refine pl_skip (w' := d1) (ys_store rfl rfl (e1 _ _ rfl Sz30)) ?_
 have hO := hO.fr2
 have b4 := b4.ap b7 hO same_ (mem_l (List.mem_singleton.2 rfl))
 have b3 := b3.ma b7 hO same_ (fun _ e => (mem_r (mem_l (e))))
 have hC := hC.st b7 hO same_
 have hO := hO.ext b7
 have c0 : BoxV d1 b5 30 [(.int .i64 a_.1), (.int .i64 a_.2.1), (.slice a3 a4 a5)] := c0
 refine c_nil ?_
 have hO := hO.fr1
 have hO := hO.drop
 refine wp_ret ?_
 cases hs
 have hO := hO.drop
 exact ⟨_, b5, a3, a4, a5, c9, fr_ovl 15 ⟨rfl, trivial⟩, c0, hC, b3, hO.top⟩

def k_spec_l1In (M : Nat → Prop) (w0 : World) (r : Bool) (a : Act) (w : World) : Prop :=
  ∃ (σ : Nat → Value) , a = fr 15 (ovl σ [(6, (.bool r))]) ∧ Chg [] w0 w
def s_spec_l1In (x_ : Int) (a_ : Int) (b : Int) : Option (Bool) :=
  (bif (decide (a_ ≤ x_)) then some (decide (x_ ≤ b)) else some false)
set_option maxHeartbeats 4000000 in
theorem c_spec_l1In {M : Nat → Prop} {w : World}  (x_ : Int) (a_ : Int) (b : Int)  (hM : ∀ g, w.heap.size ≤ g → M g) {r : Bool} (hs : s_spec_l1In x_ a_ b = some r) :
    Gives Try.prog 100 [(.int .i64 x_), (.int .i64 a_), (.int .i64 b)] w (fun v w' => v = (.bool r) ∧ Chg [] w w') := by
 refine calls_fr Try.func100 rfl Try.ntmps100 (Nat.le_of_ble_eq_true rfl) ?_
 have hO := Own.start (N := Nw w []) hM Nw.fut
 have hC := Chg.refl [] w
 unfold s_spec_l1In at hs
 refine wp_mono (Q := KPost (k_spec_l1In M w r)) ?_ (fun e a a1 h => ?_)
 rotate_left
 ·cases e
  case ret =>
   obtain ⟨σ, rfl, hrest⟩ := h
   exact ret1x Try.results100 (res_tmp rfl) ⟨rfl, hrest⟩
  all_goals exact (h : False).elim
 refine c_sr ?_
 refine pl_val (.bool false) (y_assign rfl) ?_
 refine c_nil ?_
 refine c_sr ?_
 refine pl_val (.int .i64 x_) (y_move rfl) ?_
 refine pl_val (.int .i64 a_) (y_move rfl) ?_
 refine pl_val (.bool (decide (a_ ≤ x_))) (y_geq rfl rfl) ?_
 refine pl_val (.bool (decide (a_ ≤ x_))) (y_move rfl) ?_
 rcases bif_some hs with ⟨a0, hs⟩ | ⟨a0, hs⟩
 ·skip
  refine pl_yes (.int .i64 x_) (tg := 10) (by kernel_rfl) (congrArg Value.bool a0) (y_move rfl) ?_
  refine pl_yes (.int .i64 b) (tg := 10) (by kernel_rfl) (congrArg Value.bool a0) (y_move rfl) ?_
  refine pl_yes (.bool (decide (x_ ≤ b))) (tg := 10) (by kernel_rfl) (congrArg Value.bool a0) (y_leq rfl rfl) ?_
  refine pl_val (.bool (decide (x_ ≤ b))) (y_pick_t (congrArg Value.bool a0) rfl) ?_
  refine pl_val (.bool (decide (x_ ≤ b))) (y_assign rfl) ?_
  refine c_nil ?_
  refine wp_ret ?_
  cases hs
  exact ⟨_, fr_ovl 15 ⟨rfl, trivial⟩, hC⟩
 refine pl_not (tg := 10) (by kernel_rfl) (congrArg Value.bool a0) ?_
 refine pl_not (tg := 10) (by kernel_rfl) (congrArg Value.bool a0) ?_
 refine pl_not (tg := 10) (by kernel_rfl) (congrArg Value.bool a0) ?_
 refine pl_val (.bool false) (y_pick_f (congrArg Value.bool a0) rfl) ?_
 refine pl_val (.bool false) (y_assign rfl) ?_
 refine c_nil ?_
 refine wp_ret ?_
 cases hs
 exact ⟨_, fr_ovl 15 ⟨rfl, trivial⟩, hC⟩

def k_spec_l2Pow (M : Nat → Prop) (w0 : World) (r : Int) (a : Act) (w : World) : Prop :=
  ∃ (σ : Nat → Value) , a = fr 14 (ovl σ [(4, (.int .i64 r))]) ∧ Chg [] w0 w
def s_spec_l2Pow (n : Int) (k : Int) : Option (Int) :=
  (iter (S := Int × Int) (R := Int) (fun s2 =>
  (bif (decide (0 < s2.1)) then some (.nx (w64 (s2.1 - 1), w64 (s2.2 * n))) else some (.br (s2.1, s2.2)))) FU (k, 1)).bind fun o6 => after o6 (fun r_ => some r_) (fun s2 =>
  some s2.2)
set_option maxHeartbeats 4000000 in
theorem c_spec_l2Pow {M : Nat → Prop} {w : World}  (n : Int) (k : Int)  (hM : ∀ g, w.heap.size ≤ g → M g) {r : Int} (hs : s_spec_l2Pow n k = some r) :
    Gives Try.prog 58 [(.int .i64 n), (.int .i64 k)] w (fun v w' => v = (.int .i64 r) ∧ Chg [] w w') := by
 refine calls_fr Try.func58 rfl Try.ntmps58 (Nat.le_of_ble_eq_true rfl) ?_
 have hO := Own.start (N := Nw w []) hM Nw.fut
 have hC := Chg.refl [] w
 unfold s_spec_l2Pow at hs
 refine wp_mono (Q := KPost (k_spec_l2Pow M w r)) ?_ (fun e a a2 h => ?_)
 rotate_left
 ·cases e
  case ret =>
   obtain ⟨σ, rfl, hrest⟩ := h
   exact ret1x Try.results58 (res_tmp rfl) ⟨rfl, hrest⟩
  all_goals exact (h : False).elim
 refine c_sr ?_
 refine pl_val (.int .i64 0) (y_assign rfl) ?_
 refine c_nil ?_
 refine c_sr ?_
 refine pl_val (.int .i64 1) (y_assign rfl) ?_
 refine c_nil ?_
 refine c_seq ?_
 obtain ⟨o6, a3, hs⟩ := bind_some hs
 refine wp_block ?_
 refine wp_iter (id := 0) (I := fun s2 a a0 => ∃ (σ : Nat → Value), a = fr 14 (ovl σ [(0, (.int .i64 n)), (1, (.int .i64 s2.1)), (5, (.int .i64 s2.2))]) ∧ Chg [] w a0 ∧ Own (Nw w []) M a0 ([])) (J := fun s2 a a0 => ∃ (σ : Nat → Value), a = fr 14 (ovl σ [(5, (.int .i64 s2.2))]) ∧ Chg [] w a0 ∧ Own (Nw w []) M a0 ([])) (K := (k_spec_l2Pow M w)) ?_ FU (k, 1) o6 _ _ ?_ a3 ?_
 ·rintro s2 o6 a a0 ⟨σ, rfl, hC, hO⟩ hs
  refine c_seq ?_
  refine c_sr ?_
  refine pl_val (.int .i64 s2.1) (y_move rfl) ?_
  refine pl_val (.bool (decide (0 < s2.1))) (y_gtr rfl rfl) ?_
  refine c_nil ?_
  rcases bif_some hs with ⟨a1, hs⟩ | ⟨a1, hs⟩
  ·refine c_condT (congrArg Value.bool a1) ?_
   refine wp_skip ?_
   refine c_seq ?_
   refine wp_block ?_
   refine c_region ?_
   refine pl_val (.int .i64 s2.2) (y_move rfl) ?_
   refine pl_val (.int .i64 n) (y_move rfl) ?_
   refine pl_val (.int .i64 (w64 (s2.2 * n))) (y_mul rfl rfl) ?_
   refine pl_val (.int .i64 (w64 (s2.2 * n))) (y_assign rfl) ?_
   refine c_nil ?_
   refine c_region ?_
   refine pl_val (.int .i64 s2.1) (y_move rfl) ?_
   refine pl_val (.int .i64 (w64 (s2.1 - 1))) (y_sub rfl rfl) ?_
   refine pl_val (.int .i64 (w64 (s2.1 - 1))) (y_assign rfl) ?_
   refine c_nil ?_
   cases hs
   exact ⟨_, fr_ovl 14 ⟨rfl, rfl, rfl, trivial⟩, hC, hO⟩
  refine c_condF (congrArg Value.bool a1) ?_
  refine wp_exit ?_
  cases hs
  exact ⟨rfl, _, fr_ovl 14 ⟨rfl, trivial⟩, hC, hO⟩
 ·skip
  exact ⟨_, fr_ovl 14 ⟨rfl, rfl, rfl, trivial⟩, hC, hO⟩
 cases o6 with
 | nx _ => exact True.intro
 | rt r_ =>
  have hs := after_rt hs
  intro a4 a2 hK
  cases hs
  exact hK
 | br s2 =>
  have hs := after_br hs
  rintro a4 a0 ⟨σ, rfl, hC, hO⟩
  refine c_sr ?_
  refine pl_val (.int .i64 s2.2) (y_move rfl) ?_
  refine pl_val (.int .i64 s2.2) (y_assign rfl) ?_
  refine c_nil ?_
  refine wp_ret ?_
  cases hs
  exact ⟨_, fr_ovl 14 ⟨rfl, trivial⟩, hC⟩

theorem Bd100 : Bodied Try.prog 100 := bodied Try.func100 (by kernel_rfl) rfl

def k_spec_l2Elements (M : Nat → Prop) (w0 : World) (r : Bool) (a : Act) (w : World) : Prop :=
  ∃ (σ : Nat → Value) , a = fr 20 (ovl σ [(4, (.bool r))]) ∧ Chg [] w0 w
def s_spec_l2Elements (n : Int) (list : List Int) : Option (Bool) :=
  (forC (S := Unit) (R := Bool) (fun k9 s7 =>
  (idx list k9).bind fun x13 =>
  (s_spec_l1In x13 0 (w64 (n - 1))).bind fun r16 =>
  (bif (!r16) then some (.rt false) else some (.nx ()))) 0 (list.length : Int) ()).bind fun o11 => after o11 (fun r_ => some r_) (fun s7 =>
  some true)
set_option maxHeartbeats 4000000 in
theorem c_spec_l2Elements {M : Nat → Prop} {w : World} {pa0 : Option Addr} {pn0 pc0 : Nat} (n : Int) (list : List Int) (h0 : (RT.rs (RT.int .i64)).val M w (.slice pa0 pn0 pc0) list ([])) (hM : ∀ g, w.heap.size ≤ g → M g) {r : Bool} (hs : s_spec_l2Elements n list = some r) :
    Gives Try.prog 116 [(.int .i64 n), (.slice pa0 pn0 pc0)] w (fun v w' => v = (.bool r) ∧ Chg [] w w') := by
 refine calls_fr Try.func116 rfl Try.ntmps116 (Nat.le_of_ble_eq_true rfl) ?_
 have hO := Own.start (N := Nw w []) hM Nw.fut
 have hC := Chg.refl [] w
 unfold s_spec_l2Elements at hs
 refine wp_mono (Q := KPost (k_spec_l2Elements M w r)) ?_ (fun e a a3 h => ?_)
 rotate_left
 ·cases e
  case ret =>
   obtain ⟨σ, rfl, hrest⟩ := h
   exact ret1x Try.results116 (res_tmp rfl) ⟨rfl, hrest⟩
  all_goals exact (h : False).elim
 refine c_sr ?_
 refine pl_val (.bool false) (y_assign rfl) ?_
 refine c_nil ?_
 refine c_seq ?_
 refine c_sr ?_
 refine pl_val (.int .i64 0) (y_assign rfl) ?_
 refine c_nil ?_
 obtain ⟨o11, a4, hs⟩ := bind_some hs
 refine wp_block ?_
 refine wp_forC (id := 0) (list.length : Int) (I := fun k9 s7 a a0 => ∃ (σ : Nat → Value), a = fr 20 (ovl σ [(0, (.int .i64 n)), (1, (.slice pa0 pn0 pc0)), (5, (.int .i64 k9))]) ∧ Chg [] w a0 ∧ Own (Nw w []) M a0 ([]) ∧ (RT.rs (RT.int .i64)).val M a0 (.slice pa0 pn0 pc0) list ([])) (J := fun s7 a a0 => ∃ (σ : Nat → Value), a = fr 20 (ovl σ []) ∧ Chg [] w a0 ∧ Own (Nw w []) M a0 ([]) ∧ (RT.rs (RT.int .i64)).val M a0 (.slice pa0 pn0 pc0) list ([])) (K := (k_spec_l2Elements M w)) ?_ ?_ 0 () o11 _ _ ?_ a4 ?_
 ·rintro k9 s7 a a0 ⟨σ, rfl, hC, hO, h0⟩ hlt
  refine c_seq ?_
  refine c_sr ?_
  refine pl_val (.int .i64 k9) (y_move rfl) ?_
  refine pl_val (.slice pa0 pn0 pc0) (y_move rfl) ?_
  refine pl_val (.int .i64 (list.length : Int)) (y_len' Sl41 (rs_len h0) rfl) ?_
  refine pl_val (.bool (decide (k9 < (list.length : Int)))) (y_lss rfl rfl) ?_
  refine c_nil ?_
  refine c_condF (congrArg Value.bool (decide_eq_false hlt)) ?_
  refine wp_exit ?_
  exact ⟨rfl, _, fr_ovl 20 trivial, hC, hO, h0⟩
 ·rintro k9 s7 o11 a a0 ⟨σ, rfl, hC, hO, h0⟩ hlt hw hs
  refine c_seq ?_
  refine c_sr ?_
  refine pl_val (.int .i64 k9) (y_move rfl) ?_
  refine pl_val (.slice pa0 pn0 pc0) (y_move rfl) ?_
  refine pl_val (.int .i64 (list.length : Int)) (y_len' Sl41 (rs_len h0) rfl) ?_
  refine pl_val (.bool (decide (k9 < (list.length : Int)))) (y_lss rfl rfl) ?_
  refine c_nil ?_
  refine c_condT (congrArg Value.bool (decide_eq_true hlt)) ?_
  refine wp_skip ?_
  refine c_seq ?_
  refine wp_block ?_
  refine c_sr ?_
  refine pl_val (.slice pa0 pn0 pc0) (y_move rfl) ?_
  refine pl_val (.int .i64 k9) (y_move rfl) ?_
  obtain ⟨x13, a5, hs⟩ := bind_some hs
  obtain ⟨a6, a7, a8, a9⟩ := rs_idx Sl41 Sz3 h0 a5
  refine pl_val (.pointer (some ⟨a6, a7, none⟩)) (a8 _ _ _ _ _ _ _ _ _ rfl rfl) ?_
  refine pl_val (.int .i64 x13) (y_load rfl ((at_load_int Ag3 Sz3 a9) _ (Chg.refl _ _))) ?_
  refine pl_val (.int .i64 n) (y_move rfl) ?_
  refine pl_val (.int .i64 (w64 (n - 1))) (y_sub rfl rfl) ?_
  obtain ⟨r16, b0, hs⟩ := bind_some hs
  refine pl_call Bd100 rfl (c_spec_l1In (M := M) x13 0 (w64 (n - 1))  hO.fut b0) ?_
  rintro _ b2 ⟨rfl, a1⟩
  have h0 := h0.ext a1
  have hC := hC.ext a1
  have hO := hO.ext a1
  refine pl_val (.bool (!r16)) (y_not rfl) ?_
  refine c_nil ?_
  rcases bif_some hs with ⟨a2, hs⟩ | ⟨a2, hs⟩
  ·refine c_condT (congrArg Value.bool a2) ?_
   refine c_sr ?_
   refine pl_val (.bool false) (y_assign rfl) ?_
   refine c_nil ?_
   refine wp_ret ?_
   cases hs
   exact ⟨_, fr_ovl 20 ⟨rfl, trivial⟩, hC⟩
  refine c_condF (congrArg Value.bool a2) ?_
  refine wp_skip ?_
  refine c_region ?_
  refine pl_val (.int .i64 k9) (y_move rfl) ?_
  refine pl_val (.int .i64 (w64 (k9 + 1))) (y_add rfl rfl) ?_
  refine pl_val (.int .i64 (w64 (k9 + 1))) (y_assign rfl) ?_
  refine c_nil ?_
  cases hs
  exact ⟨_, fr_ovl 20 ⟨rfl, rfl, congrArg (Value.int .i64) hw, trivial⟩, hC, hO, h0⟩
 ·skip
  exact ⟨_, fr_ovl 20 ⟨rfl, rfl, rfl, trivial⟩, hC, hO, h0⟩
 cases o11 with
 | nx _ => exact True.intro
 | rt r_ =>
  have hs := after_rt hs
  intro b1 a3 hK
  cases hs
  exact hK
 | br s7 =>
  have hs := after_br hs
  rintro b1 a0 ⟨σ, rfl, hC, hO, h0⟩
  refine c_sr ?_
  refine pl_val (.bool true) (y_assign rfl) ?_
  refine c_nil ?_
  refine wp_ret ?_
  cases hs
  exact ⟨_, fr_ovl 20 ⟨rfl, trivial⟩, hC⟩

theorem Bd116 : Bodied Try.prog 116 := bodied Try.func116 (by kernel_rfl) rfl

def k_spec_l8Tuple (M : Nat → Prop) (w0 : World) (r : Bool) (a : Act) (w : World) : Prop :=
  ∃ (σ : Nat → Value) , a = fr 16 (ovl σ [(6, (.bool r))]) ∧ Chg [] w0 w
def s_spec_l8Tuple (n : Int) (k : Int) (t : List Int) : Option (Bool) :=
  (bif ((t.length : Int) == k) then (s_spec_l2Elements n t).bind fun r4 =>
  some r4 else some false)
set_option maxHeartbeats 4000000 in
theorem c_spec_l8Tuple {M : Nat → Prop} {w : World} {pa0 : Option Addr} {pn0 pc0 : Nat} (n : Int) (k : Int) (t : List Int) (h0 : (RT.rs (RT.int .i64)).val M w (.slice pa0 pn0 pc0) t ([])) (hM : ∀ g, w.heap.size ≤ g → M g) {r : Bool} (hs : s_spec_l8Tuple n k t = some r) :
    Gives Try.prog 134 [(.int .i64 n), (.int .i64 k), (.slice pa0 pn0 pc0)] w (fun v w' => v = (.bool r) ∧ Chg [] w w') := by
 refine calls_fr Try.func134 rfl Try.ntmps134 (Nat.le_of_ble_eq_true rfl) ?_
 have hO := Own.start (N := Nw w []) hM Nw.fut
 have hC := Chg.refl [] w
 unfold s_spec_l8Tuple at hs
 refine wp_mono (Q := KPost (k_spec_l8Tuple M w r)) ?_ (fun e a a3 h => ?_)
 rotate_left
 ·cases e
  case ret =>
   obtain ⟨σ, rfl, hrest⟩ := h
   exact ret1x Try.results134 (res_tmp rfl) ⟨rfl, hrest⟩
  all_goals exact (h : False).elim
 refine c_sr ?_
 refine pl_val (.bool false) (y_assign rfl) ?_
 refine c_nil ?_
 refine c_sr ?_
 refine pl_val (.slice pa0 pn0 pc0) (y_move rfl) ?_
 refine pl_val (.int .i64 (t.length : Int)) (y_len' Sl41 (rs_len h0) rfl) ?_
 refine pl_val (.int .i64 k) (y_move rfl) ?_
 refine pl_val (.bool ((t.length : Int) == k)) (y_eql rfl rfl) ?_
 refine pl_val (.bool ((t.length : Int) == k)) (y_move rfl) ?_
 rcases bif_some hs with ⟨a0, hs⟩ | ⟨a0, hs⟩
 ·skip
  refine pl_yes (.int .i64 n) (tg := 11) (by kernel_rfl) (congrArg Value.bool a0) (y_move rfl) ?_
  refine pl_yes (.slice pa0 pn0 pc0) (tg := 11) (by kernel_rfl) (congrArg Value.bool a0) (y_move rfl) ?_
  obtain ⟨r4, a2, hs⟩ := bind_some hs
  refine pl_cally (tg := 11) (by kernel_rfl) (congrArg Value.bool a0) Bd116 rfl (c_spec_l2Elements (M := M) n t h0 hO.fut a2) ?_
  rintro _ a4 ⟨rfl, a1⟩
  have h0 := h0.ext a1
  have hC := hC.ext a1
  have hO := hO.ext a1
  refine pl_val (.bool r4) (y_pick_t (congrArg Value.bool a0) rfl) ?_
  refine pl_val (.bool r4) (y_assign rfl) ?_
  refine c_nil ?_
  refine wp_ret ?_
  cases hs
  exact ⟨_, fr_ovl 16 ⟨rfl, trivial⟩, hC⟩
 refine pl_not (tg := 11) (by kernel_rfl) (congrArg Value.bool a0) ?_
 refine pl_not (tg := 11) (by kernel_rfl) (congrArg Value.bool a0) ?_
 refine pl_not (tg := 11) (by kernel_rfl) (congrArg Value.bool a0) ?_
 refine pl_val (.bool false) (y_pick_f (congrArg Value.bool a0) rfl) ?_
 refine pl_val (.bool false) (y_assign rfl) ?_
 refine c_nil ?_
 refine wp_ret ?_
 cases hs
 exact ⟨_, fr_ovl 16 ⟨rfl, trivial⟩, hC⟩

theorem Mx : Try.prog.follows .mixedOrders = true := by kernel_rfl

def k_spec_l3Less (M : Nat → Prop) (w0 : World) (r : Bool) (a : Act) (w : World) : Prop :=
  ∃ (σ : Nat → Value) , a = fr 30 (ovl σ [(4, (.bool r))]) ∧ Chg [] w0 w
def s_spec_l3Less (a_ : List Int) (b : List Int) : Option (Bool) :=
  (forC (S := Unit) (R := Bool) (fun k21 s19 =>
  (idx a_ k21).bind fun x31 =>
  (idx b k21).bind fun x33 =>
  (bif (x31 != x33) then (idx a_ k21).bind fun x37 =>
  (idx b k21).bind fun x39 =>
  some (.rt (decide (x37 < x39))) else some (.nx ()))) 0 (a_.length : Int) ()).bind fun o23 => after o23 (fun r_ => some r_) (fun s19 =>
  some false)
set_option maxHeartbeats 4000000 in
theorem c_spec_l3Less {M : Nat → Prop} {w : World} {pa0 : Option Addr} {pn0 pc0 : Nat} {pa1 : Option Addr} {pn1 pc1 : Nat} (a_ : List Int) (b : List Int) (h0 : (RT.rs (RT.int .i64)).val M w (.slice pa0 pn0 pc0) a_ ([])) (h1 : (RT.rs (RT.int .i64)).val M w (.slice pa1 pn1 pc1) b ([])) (hM : ∀ g, w.heap.size ≤ g → M g) {r : Bool} (hs : s_spec_l3Less a_ b = some r) :
    Gives Try.prog 135 [(.slice pa0 pn0 pc0), (.slice pa1 pn1 pc1)] w (fun v w' => v = (.bool r) ∧ Chg [] w w') := by
 refine calls_fr Try.func135 rfl Try.ntmps135 (Nat.le_of_ble_eq_true rfl) ?_
 have hO := Own.start (N := Nw w []) hM Nw.fut
 have hC := Chg.refl [] w
 unfold s_spec_l3Less at hs
 refine wp_mono (Q := KPost (k_spec_l3Less M w r)) ?_ (fun e a a5 h => ?_)
 rotate_left
 ·cases e
  case ret =>
   obtain ⟨σ, rfl, hrest⟩ := h
   exact ret1x Try.results135 (res_tmp rfl) ⟨rfl, hrest⟩
  all_goals exact (h : False).elim
 refine c_sr ?_
 refine pl_val (.bool false) (y_assign rfl) ?_
 refine c_nil ?_
 refine c_seq ?_
 refine c_sr ?_
 refine pl_val (.int .i64 0) (y_assign rfl) ?_
 refine c_nil ?_
 obtain ⟨o23, a6, hs⟩ := bind_some hs
 refine wp_block ?_
 refine wp_forC (id := 0) (a_.length : Int) (I := fun k21 s19 a a0 => ∃ (σ : Nat → Value), a = fr 30 (ovl σ [(0, (.slice pa0 pn0 pc0)), (1, (.slice pa1 pn1 pc1)), (5, (.int .i64 k21))]) ∧ Chg [] w a0 ∧ Own (Nw w []) M a0 ([]) ∧ (RT.rs (RT.int .i64)).val M a0 (.slice pa0 pn0 pc0) a_ ([]) ∧ (RT.rs (RT.int .i64)).val M a0 (.slice pa1 pn1 pc1) b ([])) (J := fun s19 a a0 => ∃ (σ : Nat → Value), a = fr 30 (ovl σ []) ∧ Chg [] w a0 ∧ Own (Nw w []) M a0 ([]) ∧ (RT.rs (RT.int .i64)).val M a0 (.slice pa0 pn0 pc0) a_ ([]) ∧ (RT.rs (RT.int .i64)).val M a0 (.slice pa1 pn1 pc1) b ([])) (K := (k_spec_l3Less M w)) ?_ ?_ 0 () o23 _ _ ?_ a6 ?_
 ·rintro k21 s19 a a0 ⟨σ, rfl, hC, hO, h0, h1⟩ hlt
  refine c_seq ?_
  refine c_sr ?_
  refine pl_val (.int .i64 k21) (y_move rfl) ?_
  refine pl_val (.slice pa0 pn0 pc0) (y_move rfl) ?_
  refine pl_val (.int .i64 (a_.length : Int)) (y_len' Sl41 (rs_len h0) rfl) ?_
  refine pl_val (.bool (decide (k21 < (a_.length : Int)))) (y_lss rfl rfl) ?_
  refine c_nil ?_
  refine c_condF (congrArg Value.bool (decide_eq_false hlt)) ?_
  refine wp_exit ?_
  exact ⟨rfl, _, fr_ovl 30 trivial, hC, hO, h0, h1⟩
 ·rintro k21 s19 o23 a a0 ⟨σ, rfl, hC, hO, h0, h1⟩ hlt hw hs
  refine c_seq ?_
  refine c_sr ?_
  refine pl_val (.int .i64 k21) (y_move rfl) ?_
  refine pl_val (.slice pa0 pn0 pc0) (y_move rfl) ?_
  refine pl_val (.int .i64 (a_.length : Int)) (y_len' Sl41 (rs_len h0) rfl) ?_
  refine pl_val (.bool (decide (k21 < (a_.length : Int)))) (y_lss rfl rfl) ?_
  refine c_nil ?_
  refine c_condT (congrArg Value.bool (decide_eq_true hlt)) ?_
  refine wp_skip ?_
  refine c_seq ?_
  refine wp_block ?_
  refine c_seq ?_
  refine x_start [] Mx rfl ?_
  have a1 := Chg.drew a0
  generalize World.drew a0 = a3 at a1 ⊢
  have h0 := h0.ext a1
  have h1 := h1.ext a1
  have hC := hC.ext a1
  have hO := hO.ext a1
  have hS := Chg.refl [] a3
  refine x_p 0 (.slice pa0 pn0 pc0) rfl (by kernel_rfl)  (fun _ => y_move rfl) (fun _ => hS) ?_
  refine x_p 1 (.int .i64 k21) rfl (by kernel_rfl)  (fun _ => y_move rfl) (fun _ => hS) ?_
  obtain ⟨x31, a7, hs⟩ := bind_some hs
  obtain ⟨a8, a9, b0, b1⟩ := rs_idx Sl41 Sz3 h0 a7
  refine x_p 2 (.pointer (some ⟨a8, a9, none⟩)) rfl (by kernel_rfl)  (fun _ => b0 _ _ _ _ _ _ _ _ _ rfl rfl) (fun _ => hS) ?_
  refine x_l 3 (.int .i64 x31) rfl (by kernel_rfl)  (fun w' hw' => y_load rfl ((at_load_int Ag3 Sz3 b1) w' hw')) hS ?_
  refine x_p 4 (.slice pa1 pn1 pc1) rfl (by kernel_rfl)  (fun _ => y_move rfl) (fun _ => hS) ?_
  refine x_p 5 (.int .i64 k21) rfl (by kernel_rfl)  (fun _ => y_move rfl) (fun _ => hS) ?_
  obtain ⟨x33, b2, hs⟩ := bind_some hs
  obtain ⟨b3, b4, b5, b6⟩ := rs_idx Sl41 Sz3 h1 b2
  refine x_p 6 (.pointer (some ⟨b3, b4, none⟩)) rfl (by kernel_rfl)  (fun _ => b5 _ _ _ _ _ _ _ _ _ rfl rfl) (fun _ => hS) ?_
  refine x_l 7 (.int .i64 x33) rfl (by kernel_rfl)  (fun w' hw' => y_load rfl ((at_load_int Ag3 Sz3 b6) w' hw')) hS ?_
  refine x_p 8 (.bool (x31 != x33)) rfl (by kernel_rfl)  (fun _ => y_neq rfl rfl) (fun _ => hS) ?_
  refine x_end (by kernel_rfl) ?_
  clear hS
  rcases bif_some hs with ⟨a4, hs⟩ | ⟨a4, hs⟩
  ·refine c_condT (congrArg Value.bool a4) ?_
   refine c_seq ?_
   refine x_start [] Mx rfl ?_
   have a2 := Chg.drew a3
   generalize World.drew a3 = b7 at a2 ⊢
   have h0 := h0.ext a2
   have h1 := h1.ext a2
   have hC := hC.ext a2
   have hO := hO.ext a2
   have hS := Chg.refl [] b7
   refine x_p 0 (.slice pa0 pn0 pc0) rfl (by kernel_rfl)  (fun _ => y_move rfl) (fun _ => hS) ?_
   refine x_p 1 (.int .i64 k21) rfl (by kernel_rfl)  (fun _ => y_move rfl) (fun _ => hS) ?_
   obtain ⟨x37, b8, hs⟩ := bind_some hs
   obtain ⟨b9, c0, c1, c2⟩ := rs_idx Sl41 Sz3 h0 b8
   refine x_p 2 (.pointer (some ⟨b9, c0, none⟩)) rfl (by kernel_rfl)  (fun _ => c1 _ _ _ _ _ _ _ _ _ rfl rfl) (fun _ => hS) ?_
   refine x_l 3 (.int .i64 x37) rfl (by kernel_rfl)  (fun w' hw' => y_load rfl ((at_load_int Ag3 Sz3 c2) w' hw')) hS ?_
   refine x_p 4 (.slice pa1 pn1 pc1) rfl (by kernel_rfl)  (fun _ => y_move rfl) (fun _ => hS) ?_
   refine x_p 5 (.int .i64 k21) rfl (by kernel_rfl)  (fun _ => y_move rfl) (fun _ => hS) ?_
   obtain ⟨x39, c3, hs⟩ := bind_some hs
   obtain ⟨c4, c5, c6, c7⟩ := rs_idx Sl41 Sz3 h1 c3
   refine x_p 6 (.pointer (some ⟨c4, c5, none⟩)) rfl (by kernel_rfl)  (fun _ => c6 _ _ _ _ _ _ _ _ _ rfl rfl) (fun _ => hS) ?_
   refine x_l 7 (.int .i64 x39) rfl (by kernel_rfl)  (fun w' hw' => y_load rfl ((at_load_int Ag3 Sz3 c7) w' hw')) hS ?_
   refine x_p 8 (.bool (decide (x37 < x39))) rfl (by kernel_rfl)  (fun _ => y_lss rfl rfl) (fun _ => hS) ?_
   refine x_p 9 (.bool (decide (x37 < x39))) rfl (by kernel_rfl)  (fun _ => y_assign rfl) (fun _ => hS) ?_
   refine x_end (by kernel_rfl) ?_
   clear hS
   refine wp_ret ?_
   cases hs
   exact ⟨_, fr_ovl 30 ⟨rfl, trivial⟩, hC⟩
  refine c_condF (congrArg Value.bool a4) ?_
  refine wp_skip ?_
  refine c_region ?_
  refine pl_val (.int .i64 k21) (y_move rfl) ?_
  refine pl_val (.int .i64 (w64 (k21 + 1))) (y_add rfl rfl) ?_
  refine pl_val (.int .i64 (w64 (k21 + 1))) (y_assign rfl) ?_
  refine c_nil ?_
  cases hs
  exact ⟨_, fr_ovl 30 ⟨rfl, rfl, congrArg (Value.int .i64) hw, trivial⟩, hC, hO, h0, h1⟩
 ·skip
  exact ⟨_, fr_ovl 30 ⟨rfl, rfl, rfl, trivial⟩, hC, hO, h0, h1⟩
 cases o23 with
 | nx _ => exact True.intro
 | rt r_ =>
  have hs := after_rt hs
  intro c8 a5 hK
  cases hs
  exact hK
 | br s19 =>
  have hs := after_br hs
  rintro c8 a0 ⟨σ, rfl, hC, hO, h0, h1⟩
  refine c_sr ?_
  refine pl_val (.bool false) (y_assign rfl) ?_
  refine c_nil ?_
  refine wp_ret ?_
  cases hs
  exact ⟨_, fr_ovl 30 ⟨rfl, trivial⟩, hC⟩

theorem Bd58 : Bodied Try.prog 58 := bodied Try.func58 (by kernel_rfl) rfl

theorem Bd134 : Bodied Try.prog 134 := bodied Try.func134 (by kernel_rfl) rfl

theorem Bd135 : Bodied Try.prog 135 := bodied Try.func135 (by kernel_rfl) rfl

def k_spec_l13Good (M : Nat → Prop) (w0 : World) (r : Bool) (a : Act) (w : World) : Prop :=
  ∃ (σ : Nat → Value) , a = fr 56 (ovl σ [(4, (.bool r))]) ∧ Chg [] w0 w
def s_spec_l13Good (n : Int) (r_ : Int × (List (List Int))) : Option (Bool) :=
  ((s_spec_l1In r_.1 1 3).bind fun r8 =>
  (bif (!r8) then some true else (s_spec_l2Pow n r_.1).bind fun r11 =>
  some (decide (r11 < (r_.2.length : Int))))).bind fun s3 =>
  (bif s3 then some false else (forC (S := Unit) (R := Bool) (fun k83 s81 =>
  (idx r_.2 k83).bind fun x88 =>
  (s_spec_l8Tuple n r_.1 x88).bind fun r93 =>
  (bif (!r93) then some (.rt false) else (bif (decide (0 < k83)) then (idx r_.2 (w64 (k83 - 1))).bind fun x96 =>
  (idx r_.2 k83).bind fun x100 =>
  (s_spec_l3Less x96 x100).bind fun r105 =>
  (bif (!r105) then some (.rt false) else some (.nx ())) else some (.nx ())))) 0 (r_.2.length : Int) ()).bind fun o85 => after o85 (fun r_ => some r_) (fun s81 =>
  some true))
set_option maxHeartbeats 4000000 in
theorem c_spec_l13Good {M : Nat → Prop} {w : World} {pa0 : Option Addr} {pn0 pc0 : Nat} (n : Int) (r_ : Int × (List (List Int))) (h0 : (RT.rs (RT.rs (RT.int .i64))).val M w (.slice pa0 pn0 pc0) r_.2 ([])) (hM : ∀ g, w.heap.size ≤ g → M g) {r : Bool} (hs : s_spec_l13Good n r_ = some r) :
    Gives Try.prog 115 [(.int .i64 n), (.agg #[(.int .i64 r_.1), (.slice pa0 pn0 pc0)])] w (fun v w' => v = (.bool r) ∧ Chg [] w w') := by
 refine calls_fr Try.func115 rfl Try.ntmps115 (Nat.le_of_ble_eq_true rfl) ?_
 have hO := Own.start (N := Nw w []) hM Nw.fut
 have hC := Chg.refl [] w
 unfold s_spec_l13Good at hs
 refine wp_mono (Q := KPost (k_spec_l13Good M w r)) ?_ (fun e a f3 h => ?_)
 rotate_left
 ·cases e
  case ret =>
   obtain ⟨σ, rfl, hrest⟩ := h
   exact ret1x Try.results115 (res_tmp rfl) ⟨rfl, hrest⟩
  all_goals exact (h : False).elim
 refine c_sr ?_
 obtain ⟨c0, a4, f4, e8, d8, a1⟩ := new_block w [(.int .i64 r_.1), (.slice pa0 pn0 pc0)] 54
 refine pl_val (w' := c0) (.pointer (some ⟨a4, 0, none⟩)) (y_box rfl (by rw [f4, e8]; kernel_rfl)) ?_
 have h0 := h0.ext d8
 have hC := hC.ext d8
 have hO := hO.new1 d8 e8 a1.lt
 refine pl_val (.bool false) (y_assign rfl) ?_
 refine c_nil ?_
 refine c_seq ?_
 refine c_seq ?_
 obtain ⟨s3, f5, hs⟩ := bind_some hs
 refine c_mid (I := fun a e9 => ∃ (σ : Nat → Value), a = fr 56 (ovl σ [(0, (.int .i64 n)), (3, (.pointer (some ⟨a4, 0, none⟩))), (4, (.bool false)), (19, (.bool s3))]) ∧ Chg [] c0 e9) ?_ ?_
 ·replace hs := f5
  have hMid := Chg.refl [] c0
  refine x_start [] Mx rfl ?_
  have b9 := Chg.drew c0
  generalize World.drew c0 = f6 at b9 ⊢
  have h0 := h0.ext b9
  have a1 := a1.cn b9
  have hMid := hMid.ext b9
  have hC := hC.ext b9
  have hO := hO.ext b9
  have hS := Chg.refl [] f6
  refine x_p 0 (.pointer (some ⟨a4, 0, none⟩)) rfl (by kernel_rfl)  (fun _ => y_faddr rfl Fa54x0) (fun _ => hS) ?_
  refine x_l 1 (.int .i64 r_.1) rfl (by kernel_rfl)  (fun w' hw' => y_load rfl ((box_load Ag3 Sz3 a1 [] [(.int .i64 r_.1)] [(.slice pa0 pn0 pc0)] rfl rfl (fun _ => rfl)) w' hw')) hS ?_
  refine x_one (i := 2) (by kernel_rfl) ?_
  obtain ⟨r8, f7, hs⟩ := bind_some hs
  refine xk_call (b := false) rfl  Bd100 rfl (c_spec_l1In (M := M) r_.1 1 3  hO.fut f7) rfl (by rintro _ _ _ ⟨rfl, b4⟩; exact hS.ext b4) ?_
  rintro _ o0 ⟨rfl, b4⟩
  have h0 := h0.ext b4
  have a1 := a1.cn b4
  have hMid := hMid.ext b4
  have hC := hC.ext b4
  have hO := hO.ext b4
  have hS := hS.ext b4
  refine x_p 3 (.bool (!r8)) rfl (by kernel_rfl)  (fun _ => y_not rfl) (fun _ => hS) ?_
  refine x_p 4 (.bool (!r8)) rfl (by kernel_rfl)  (fun _ => y_move rfl) (fun _ => hS) ?_
  rcases bif_some hs with ⟨a2, hs⟩ | ⟨a2, hs⟩
  ·skip
   refine x_pn 5 rfl (by kernel_rfl) (tg := 10) (by kernel_rfl) (congrArg Value.bool a2) (fun _ => hS) ?_
   refine x_pn 6 rfl (by kernel_rfl) (tg := 10) (by kernel_rfl) (congrArg Value.bool a2) (fun _ => hS) ?_
   refine x_pn 7 rfl (by kernel_rfl) (tg := 10) (by kernel_rfl) (congrArg Value.bool a2) (fun _ => hS) ?_
   refine x_pn 8 rfl (by kernel_rfl) (tg := 10) (by kernel_rfl) (congrArg Value.bool a2) (fun _ => hS) ?_
   refine x_pn 9 rfl (by kernel_rfl) (tg := 10) (by kernel_rfl) (congrArg Value.bool a2) (fun _ => hS) ?_
   refine x_pn 10 rfl (by kernel_rfl) (tg := 10) (by kernel_rfl) (congrArg Value.bool a2) (fun _ => hS) ?_
   refine x_pn 11 rfl (by kernel_rfl) (tg := 10) (by kernel_rfl) (congrArg Value.bool a2) (fun _ => hS) ?_
   refine x_pn 12 rfl (by kernel_rfl) (tg := 10) (by kernel_rfl) (congrArg Value.bool a2) (fun _ => hS) ?_
   refine x_p 13 (.bool true) rfl (by kernel_rfl)  (fun _ => y_pick_t (congrArg Value.bool a2) rfl) (fun _ => hS) ?_
   refine x_end (by kernel_rfl) ?_
   clear hS
   cases hs
   exact ⟨_, fr_ovl 56 ⟨rfl, rfl, rfl, rfl, trivial⟩, hMid⟩
  refine x_py 5 (.pointer (some ⟨a4, 1, none⟩)) rfl (by kernel_rfl) (tg := 10) (by kernel_rfl) (congrArg Value.bool a2) (fun _ => y_faddr rfl Fa54x1) (fun _ => hS) ?_
  refine x_py 8 (.int .i64 n) rfl (by kernel_rfl) (tg := 10) (by kernel_rfl) (congrArg Value.bool a2) (fun _ => y_move rfl) (fun _ => hS) ?_
  refine x_py 9 (.pointer (some ⟨a4, 0, none⟩)) rfl (by kernel_rfl) (tg := 10) (by kernel_rfl) (congrArg Value.bool a2) (fun _ => y_faddr rfl Fa54x0) (fun _ => hS) ?_
  refine x_two (i := 6) (j := 10) (by kernel_rfl) ?_ ?_
  ·skip
   refine xk_valy (b := false) (.slice pa0 pn0 pc0) rfl (tg := 10) (by kernel_rfl) (congrArg Value.bool a2) (y_load rfl ((box_load Ag47 Sz47 a1 [(.int .i64 r_.1)] [(.slice pa0 pn0 pc0)] [] rfl rfl (fun _ => rfl)) _ (Chg.refl _ _))) rfl (fun _ => hS) ?_
   refine x_py 7 (.int .i64 (r_.2.length : Int)) rfl (by kernel_rfl) (tg := 10) (by kernel_rfl) (congrArg Value.bool a2) (fun _ => y_len' Sl47 (rs_len h0) rfl) (fun _ => hS) ?_
   refine x_one (i := 10) (by kernel_rfl) ?_
   refine xk_valy (b := false) (.int .i64 r_.1) rfl (tg := 10) (by kernel_rfl) (congrArg Value.bool a2) (y_load rfl ((box_load Ag3 Sz3 a1 [] [(.int .i64 r_.1)] [(.slice pa0 pn0 pc0)] rfl rfl (fun _ => rfl)) _ (Chg.refl _ _))) rfl (fun _ => hS) ?_
   refine x_one (i := 11) (by kernel_rfl) ?_
   obtain ⟨r11, c1, hs⟩ := bind_some hs
   refine xk_cally (b := false) rfl (tg := 10) (by kernel_rfl) (congrArg Value.bool a2) Bd58 rfl (c_spec_l2Pow (M := M) n r_.1  hO.fut c1) rfl (by rintro _ _ _ ⟨rfl, b5⟩; exact hS.ext b5) ?_
   rintro _ o1 ⟨rfl, b5⟩
   have h0 := h0.ext b5
   have a1 := a1.cn b5
   have hMid := hMid.ext b5
   have hC := hC.ext b5
   have hO := hO.ext b5
   have hS := hS.ext b5
   refine x_py 12 (.bool (decide (r11 < (r_.2.length : Int)))) rfl (by kernel_rfl) (tg := 10) (by kernel_rfl) (congrArg Value.bool a2) (fun _ => y_gtr rfl rfl) (fun _ => hS) ?_
   refine x_p 13 (.bool (decide (r11 < (r_.2.length : Int)))) rfl (by kernel_rfl)  (fun _ => y_pick_f (congrArg Value.bool a2) rfl) (fun _ => hS) ?_
   refine x_end (by kernel_rfl) ?_
   clear hS
   cases hs
   exact ⟨_, fr_ovl 56 ⟨rfl, rfl, rfl, rfl, trivial⟩, hMid⟩
  ·skip
   refine xk_valy (b := false) (.int .i64 r_.1) rfl (tg := 10) (by kernel_rfl) (congrArg Value.bool a2) (y_load rfl ((box_load Ag3 Sz3 a1 [] [(.int .i64 r_.1)] [(.slice pa0 pn0 pc0)] rfl rfl (fun _ => rfl)) _ (Chg.refl _ _))) rfl (fun _ => hS) ?_
   refine x_two (i := 6) (j := 11) (by kernel_rfl) ?_ ?_
   ·skip
    refine xk_valy (b := false) (.slice pa0 pn0 pc0) rfl (tg := 10) (by kernel_rfl) (congrArg Value.bool a2) (y_load rfl ((box_load Ag47 Sz47 a1 [(.int .i64 r_.1)] [(.slice pa0 pn0 pc0)] [] rfl rfl (fun _ => rfl)) _ (Chg.refl _ _))) rfl (fun _ => hS) ?_
    refine x_py 7 (.int .i64 (r_.2.length : Int)) rfl (by kernel_rfl) (tg := 10) (by kernel_rfl) (congrArg Value.bool a2) (fun _ => y_len' Sl47 (rs_len h0) rfl) (fun _ => hS) ?_
    refine x_one (i := 11) (by kernel_rfl) ?_
    obtain ⟨r11, c1, hs⟩ := bind_some hs
    refine xk_cally (b := false) rfl (tg := 10) (by kernel_rfl) (congrArg Value.bool a2) Bd58 rfl (c_spec_l2Pow (M := M) n r_.1  hO.fut c1) rfl (by rintro _ _ _ ⟨rfl, b6⟩; exact hS.ext b6) ?_
    rintro _ o2 ⟨rfl, b6⟩
    have h0 := h0.ext b6
    have a1 := a1.cn b6
    have hMid := hMid.ext b6
    have hC := hC.ext b6
    have hO := hO.ext b6
    have hS := hS.ext b6
    refine x_py 12 (.bool (decide (r11 < (r_.2.length : Int)))) rfl (by kernel_rfl) (tg := 10) (by kernel_rfl) (congrArg Value.bool a2) (fun _ => y_gtr rfl rfl) (fun _ => hS) ?_
    refine x_p 13 (.bool (decide (r11 < (r_.2.length : Int)))) rfl (by kernel_rfl)  (fun _ => y_pick_f (congrArg Value.bool a2) rfl) (fun _ => hS) ?_
    refine x_end (by kernel_rfl) ?_
    clear hS
    cases hs
    exact ⟨_, fr_ovl 56 ⟨rfl, rfl, rfl, rfl, trivial⟩, hMid⟩
   ·skip
    obtain ⟨r11, c1, hs⟩ := bind_some hs
    refine xk_cally (b := false) rfl (tg := 10) (by kernel_rfl) (congrArg Value.bool a2) Bd58 rfl (c_spec_l2Pow (M := M) n r_.1  hO.fut c1) rfl (by rintro _ _ _ ⟨rfl, b7⟩; exact hS.ext b7) ?_
    rintro _ o3 ⟨rfl, b7⟩
    have h0 := h0.ext b7
    have a1 := a1.cn b7
    have hMid := hMid.ext b7
    have hC := hC.ext b7
    have hO := hO.ext b7
    have hS := hS.ext b7
    refine x_one (i := 6) (by kernel_rfl) ?_
    refine xk_valy (b := false) (.slice pa0 pn0 pc0) rfl (tg := 10) (by kernel_rfl) (congrArg Value.bool a2) (y_load rfl ((box_load Ag47 Sz47 a1 [(.int .i64 r_.1)] [(.slice pa0 pn0 pc0)] [] rfl rfl (fun _ => rfl)) _ (Chg.refl _ _))) rfl (fun _ => hS) ?_
    refine x_py 7 (.int .i64 (r_.2.length : Int)) rfl (by kernel_rfl) (tg := 10) (by kernel_rfl) (congrArg Value.bool a2) (fun _ => y_len' Sl47 (rs_len h0) rfl) (fun _ => hS) ?_
    refine x_py 12 (.bool (decide (r11 < (r_.2.length : Int)))) rfl (by kernel_rfl) (tg := 10) (by kernel_rfl) (congrArg Value.bool a2) (fun _ => y_gtr rfl rfl) (fun _ => hS) ?_
    refine x_p 13 (.bool (decide (r11 < (r_.2.length : Int)))) rfl (by kernel_rfl)  (fun _ => y_pick_f (congrArg Value.bool a2) rfl) (fun _ => hS) ?_
    refine x_end (by kernel_rfl) ?_
    clear hS
    cases hs
    exact ⟨_, fr_ovl 56 ⟨rfl, rfl, rfl, rfl, trivial⟩, hMid⟩
 rintro f0 e9 ⟨σ, rfl, c4⟩
 have h0 := h0.ext c4
 have a1 := a1.cn c4
 have hC := hC.ext c4
 have hO := hO.ext c4
 rcases bif_some hs with ⟨d9, hs⟩ | ⟨d9, hs⟩
 ·refine c_condT (congrArg Value.bool d9) ?_
  refine c_sr ?_
  refine pl_val (.bool false) (y_assign rfl) ?_
  refine c_nil ?_
  refine wp_ret ?_
  cases hs
  exact ⟨_, fr_ovl 56 ⟨rfl, trivial⟩, hC⟩
 refine c_condF (congrArg Value.bool d9) ?_
 refine wp_skip ?_
 refine c_seq ?_
 refine c_sr ?_
 refine pl_val (.int .i64 0) (y_assign rfl) ?_
 refine c_nil ?_
 obtain ⟨o85, f8, hs⟩ := bind_some hs
 refine wp_block ?_
 refine wp_forC (id := 0) (r_.2.length : Int) (I := fun k83 s81 a a6 => ∃ (σ : Nat → Value), a = fr 56 (ovl σ [(0, (.int .i64 n)), (3, (.pointer (some ⟨a4, 0, none⟩))), (5, (.int .i64 k83))]) ∧ Chg [] w a6 ∧ Own (Nw w []) M a6 (([a4]) ++ []) ∧ (RT.rs (RT.rs (RT.int .i64))).val M a6 (.slice pa0 pn0 pc0) r_.2 ([]) ∧ BoxV a6 a4 54 [(.int .i64 r_.1), (.slice pa0 pn0 pc0)]) (J := fun s81 a a6 => ∃ (σ : Nat → Value), a = fr 56 (ovl σ []) ∧ Chg [] w a6 ∧ Own (Nw w []) M a6 (([a4]) ++ []) ∧ (RT.rs (RT.rs (RT.int .i64))).val M a6 (.slice pa0 pn0 pc0) r_.2 ([]) ∧ BoxV a6 a4 54 [(.int .i64 r_.1), (.slice pa0 pn0 pc0)]) (K := (k_spec_l13Good M w)) ?_ ?_ 0 () o85 _ _ ?_ f8 ?_
 ·rintro k83 s81 a a6 ⟨σ, rfl, hC, hO, h0, a1⟩ hlt
  refine c_seq ?_
  refine c_sr ?_
  refine pl_val (.int .i64 k83) (y_move rfl) ?_
  refine pl_val (.pointer (some ⟨a4, 1, none⟩)) (y_faddr rfl Fa54x1) ?_
  refine pl_val (.slice pa0 pn0 pc0) (y_load rfl ((box_load Ag47 Sz47 a1 [(.int .i64 r_.1)] [(.slice pa0 pn0 pc0)] [] rfl rfl (fun _ => rfl)) _ (Chg.refl _ _))) ?_
  refine pl_val (.int .i64 (r_.2.length : Int)) (y_len' Sl47 (rs_len h0) rfl) ?_
  refine pl_val (.bool (decide (k83 < (r_.2.length : Int)))) (y_lss rfl rfl) ?_
  refine c_nil ?_
  refine c_condF (congrArg Value.bool (decide_eq_false hlt)) ?_
  refine wp_exit ?_
  exact ⟨rfl, _, fr_ovl 56 trivial, hC, hO, h0, a1⟩
 ·rintro k83 s81 o85 a a6 ⟨σ, rfl, hC, hO, h0, a1⟩ hlt hw hs
  refine c_seq ?_
  refine c_sr ?_
  refine pl_val (.int .i64 k83) (y_move rfl) ?_
  refine pl_val (.pointer (some ⟨a4, 1, none⟩)) (y_faddr rfl Fa54x1) ?_
  refine pl_val (.slice pa0 pn0 pc0) (y_load rfl ((box_load Ag47 Sz47 a1 [(.int .i64 r_.1)] [(.slice pa0 pn0 pc0)] [] rfl rfl (fun _ => rfl)) _ (Chg.refl _ _))) ?_
  refine pl_val (.int .i64 (r_.2.length : Int)) (y_len' Sl47 (rs_len h0) rfl) ?_
  refine pl_val (.bool (decide (k83 < (r_.2.length : Int)))) (y_lss rfl rfl) ?_
  refine c_nil ?_
  refine c_condT (congrArg Value.bool (decide_eq_true hlt)) ?_
  refine wp_skip ?_
  refine c_seq ?_
  refine wp_block ?_
  refine c_seq ?_
  refine x_start [] Mx rfl ?_
  have c2 := Chg.drew a6
  generalize World.drew a6 = f9 at c2 ⊢
  have h0 := h0.ext c2
  have a1 := a1.cn c2
  have hC := hC.ext c2
  have hO := hO.ext c2
  have hS := Chg.refl [] f9
  refine x_p 0 (.int .i64 n) rfl (by kernel_rfl)  (fun _ => y_move rfl) (fun _ => hS) ?_
  refine x_p 1 (.pointer (some ⟨a4, 0, none⟩)) rfl (by kernel_rfl)  (fun _ => y_faddr rfl Fa54x0) (fun _ => hS) ?_
  refine x_l 2 (.int .i64 r_.1) rfl (by kernel_rfl)  (fun w' hw' => y_load rfl ((box_load Ag3 Sz3 a1 [] [(.int .i64 r_.1)] [(.slice pa0 pn0 pc0)] rfl rfl (fun _ => rfl)) w' hw')) hS ?_
  refine x_p 3 (.pointer (some ⟨a4, 1, none⟩)) rfl (by kernel_rfl)  (fun _ => y_faddr rfl Fa54x1) (fun _ => hS) ?_
  refine x_l 4 (.slice pa0 pn0 pc0) rfl (by kernel_rfl)  (fun w' hw' => y_load rfl ((box_load Ag47 Sz47 a1 [(.int .i64 r_.1)] [(.slice pa0 pn0 pc0)] [] rfl rfl (fun _ => rfl)) w' hw')) hS ?_
  refine x_p 5 (.int .i64 k83) rfl (by kernel_rfl)  (fun _ => y_move rfl) (fun _ => hS) ?_
  obtain ⟨x88, g0, hs⟩ := bind_some hs
  obtain ⟨g1, g2, g3, g4⟩ := rs_idx Sl47 Sz41 h0 g0
  refine x_p 6 (.pointer (some ⟨g1, g2, none⟩)) rfl (by kernel_rfl)  (fun _ => g3 _ _ _ _ _ _ _ _ _ rfl rfl) (fun _ => hS) ?_
  obtain ⟨o4, g5, a5⟩ := at_load Ag41 Sz41 (fun _ => rfl) g4
  obtain ⟨g6, g7, g8, rfl⟩ := rs_sl a5
  refine x_l 7 (.slice g6 g7 g8) rfl (by kernel_rfl)  (fun w' hw' => y_load rfl (g5 w' hw')) hS ?_
  refine x_one (i := 8) (by kernel_rfl) ?_
  obtain ⟨r93, g9, hs⟩ := bind_some hs
  refine xk_call (b := false) rfl  Bd134 rfl (c_spec_l8Tuple (M := M) n r_.1 x88 a5 hO.fut g9) rfl (by rintro _ _ _ ⟨rfl, b8⟩; exact hS.ext b8) ?_
  rintro _ o5 ⟨rfl, b8⟩
  have h0 := h0.ext b8
  have a1 := a1.cn b8
  have a5 := a5.ext b8
  have hC := hC.ext b8
  have hO := hO.ext b8
  have hS := hS.ext b8
  refine x_p 9 (.bool (!r93)) rfl (by kernel_rfl)  (fun _ => y_not rfl) (fun _ => hS) ?_
  refine x_p 10 (.bool (!r93)) rfl (by kernel_rfl)  (fun _ => y_move rfl) (fun _ => hS) ?_
  rcases bif_some hs with ⟨a3, hs⟩ | ⟨a3, hs⟩
  ·skip
   refine x_pn 11 rfl (by kernel_rfl) (tg := 37) (by kernel_rfl) (congrArg Value.bool a3) (fun _ => hS) ?_
   refine x_pn 12 rfl (by kernel_rfl) (tg := 37) (by kernel_rfl) (congrArg Value.bool a3) (fun _ => hS) ?_
   refine x_pn 13 rfl (by kernel_rfl) (tg := 37) (by kernel_rfl) (congrArg Value.bool a3) (fun _ => hS) ?_
   refine x_pnu 14 rfl (by kernel_rfl) (tg := 40) (by kernel_rfl) rfl (fun _ => hS) ?_
   refine x_pnu 15 rfl (by kernel_rfl) (tg := 40) (by kernel_rfl) rfl (fun _ => hS) ?_
   refine x_pnu 16 rfl (by kernel_rfl) (tg := 40) (by kernel_rfl) rfl (fun _ => hS) ?_
   refine x_pnu 17 rfl (by kernel_rfl) (tg := 40) (by kernel_rfl) rfl (fun _ => hS) ?_
   refine x_pnu 18 rfl (by kernel_rfl) (tg := 40) (by kernel_rfl) rfl (fun _ => hS) ?_
   refine x_pnu 19 rfl (by kernel_rfl) (tg := 40) (by kernel_rfl) rfl (fun _ => hS) ?_
   refine x_pnu 20 rfl (by kernel_rfl) (tg := 40) (by kernel_rfl) rfl (fun _ => hS) ?_
   refine x_pnu 21 rfl (by kernel_rfl) (tg := 40) (by kernel_rfl) rfl (fun _ => hS) ?_
   refine x_pnu 22 rfl (by kernel_rfl) (tg := 40) (by kernel_rfl) rfl (fun _ => hS) ?_
   refine x_pnu 23 rfl (by kernel_rfl) (tg := 40) (by kernel_rfl) rfl (fun _ => hS) ?_
   refine x_pnu 24 rfl (by kernel_rfl) (tg := 40) (by kernel_rfl) rfl (fun _ => hS) ?_
   refine x_pnu 25 rfl (by kernel_rfl) (tg := 40) (by kernel_rfl) rfl (fun _ => hS) ?_
   refine x_pnu 26 rfl (by kernel_rfl) (tg := 40) (by kernel_rfl) rfl (fun _ => hS) ?_
   refine x_pn 27 rfl (by kernel_rfl) (tg := 37) (by kernel_rfl) (congrArg Value.bool a3) (fun _ => hS) ?_
   refine x_p 28 (.bool true) rfl (by kernel_rfl)  (fun _ => y_pick_t (congrArg Value.bool a3) rfl) (fun _ => hS) ?_
   refine x_end (by kernel_rfl) ?_
   clear hS
   refine c_condT (by rfl) ?_
   refine c_sr ?_
   refine pl_val (.bool false) (y_assign rfl) ?_
   refine c_nil ?_
   refine wp_ret ?_
   cases hs
   exact ⟨_, fr_ovl 56 ⟨rfl, trivial⟩, hC⟩
  refine x_py 11 (.int .i64 k83) rfl (by kernel_rfl) (tg := 37) (by kernel_rfl) (congrArg Value.bool a3) (fun _ => y_move rfl) (fun _ => hS) ?_
  refine x_py 12 (.bool (decide (0 < k83))) rfl (by kernel_rfl) (tg := 37) (by kernel_rfl) (congrArg Value.bool a3) (fun _ => y_gtr rfl rfl) (fun _ => hS) ?_
  refine x_py 13 (.bool (decide (0 < k83))) rfl (by kernel_rfl) (tg := 37) (by kernel_rfl) (congrArg Value.bool a3) (fun _ => y_move rfl) (fun _ => hS) ?_
  rcases bif_some hs with ⟨a0, hs⟩ | ⟨a0, hs⟩
  ·skip
   refine x_py 14 (.pointer (some ⟨a4, 1, none⟩)) rfl (by kernel_rfl) (tg := 40) (by kernel_rfl) (congrArg Value.bool a0) (fun _ => y_faddr rfl Fa54x1) (fun _ => hS) ?_
   refine x_py 16 (.int .i64 k83) rfl (by kernel_rfl) (tg := 40) (by kernel_rfl) (congrArg Value.bool a0) (fun _ => y_move rfl) (fun _ => hS) ?_
   refine x_py 17 (.int .i64 (w64 (k83 - 1))) rfl (by kernel_rfl) (tg := 40) (by kernel_rfl) (congrArg Value.bool a0) (fun _ => y_sub rfl rfl) (fun _ => hS) ?_
   refine x_py 20 (.pointer (some ⟨a4, 1, none⟩)) rfl (by kernel_rfl) (tg := 40) (by kernel_rfl) (congrArg Value.bool a0) (fun _ => y_faddr rfl Fa54x1) (fun _ => hS) ?_
   refine x_py 22 (.int .i64 k83) rfl (by kernel_rfl) (tg := 40) (by kernel_rfl) (congrArg Value.bool a0) (fun _ => y_move rfl) (fun _ => hS) ?_
   refine x_two (i := 15) (j := 21) (by kernel_rfl) ?_ ?_
   ·skip
    refine xk_valy (b := false) (.slice pa0 pn0 pc0) rfl (tg := 40) (by kernel_rfl) (congrArg Value.bool a0) (y_load rfl ((box_load Ag47 Sz47 a1 [(.int .i64 r_.1)] [(.slice pa0 pn0 pc0)] [] rfl rfl (fun _ => rfl)) _ (Chg.refl _ _))) rfl (fun _ => hS) ?_
    obtain ⟨x96, c5, hs⟩ := bind_some hs
    obtain ⟨h1, h2, h3, e0⟩ := rs_idx Sl47 Sz41 h0 c5
    refine x_py 18 (.pointer (some ⟨h1, h2, none⟩)) rfl (by kernel_rfl) (tg := 40) (by kernel_rfl) (congrArg Value.bool a0) (fun _ => h3 _ _ _ _ _ _ _ _ _ rfl rfl) (fun _ => hS) ?_
    refine x_two (i := 19) (j := 21) (by kernel_rfl) ?_ ?_
    ·skip
     obtain ⟨o6, h4, c6⟩ := at_load Ag41 Sz41 (fun _ => rfl) e0
     obtain ⟨h5, h6, h7, rfl⟩ := rs_sl c6
     refine xk_valy (b := false) (.slice h5 h6 h7) rfl (tg := 40) (by kernel_rfl) (congrArg Value.bool a0) (y_load rfl (h4 _ (Chg.refl _ _))) rfl (fun _ => hS) ?_
     refine x_one (i := 21) (by kernel_rfl) ?_
     refine xk_valy (b := false) (.slice pa0 pn0 pc0) rfl (tg := 40) (by kernel_rfl) (congrArg Value.bool a0) (y_load rfl ((box_load Ag47 Sz47 a1 [(.int .i64 r_.1)] [(.slice pa0 pn0 pc0)] [] rfl rfl (fun _ => rfl)) _ (Chg.refl _ _))) rfl (fun _ => hS) ?_
     obtain ⟨x100, c3, hs⟩ := bind_some hs
     obtain ⟨h8, h9, i0, i1⟩ := rs_idx Sl47 Sz41 h0 c3
     refine x_py 23 (.pointer (some ⟨h8, h9, none⟩)) rfl (by kernel_rfl) (tg := 40) (by kernel_rfl) (congrArg Value.bool a0) (fun _ => i0 _ _ _ _ _ _ _ _ _ rfl rfl) (fun _ => hS) ?_
     refine x_one (i := 24) (by kernel_rfl) ?_
     obtain ⟨o7, i2, c7⟩ := at_load Ag41 Sz41 (fun _ => rfl) i1
     obtain ⟨i3, i4, i5, rfl⟩ := rs_sl c7
     refine xk_valy (b := false) (.slice i3 i4 i5) rfl (tg := 40) (by kernel_rfl) (congrArg Value.bool a0) (y_load rfl (i2 _ (Chg.refl _ _))) rfl (fun _ => hS) ?_
     refine x_one (i := 25) (by kernel_rfl) ?_
     obtain ⟨r105, a7, hs⟩ := bind_some hs
     refine xk_cally (b := false) rfl (tg := 40) (by kernel_rfl) (congrArg Value.bool a0) Bd135 rfl (c_spec_l3Less (M := M) x96 x100 c6 c7 hO.fut a7) rfl (by rintro _ _ _ ⟨rfl, a8⟩; exact hS.ext a8) ?_
     rintro _ o8 ⟨rfl, a8⟩
     have h0 := h0.ext a8
     have a1 := a1.cn a8
     have a5 := a5.ext a8
     have c6 := c6.ext a8
     have c7 := c7.ext a8
     have hC := hC.ext a8
     have hO := hO.ext a8
     have hS := hS.ext a8
     refine x_py 26 (.bool (!r105)) rfl (by kernel_rfl) (tg := 40) (by kernel_rfl) (congrArg Value.bool a0) (fun _ => y_not rfl) (fun _ => hS) ?_
     refine x_py 27 (.bool (!r105)) rfl (by kernel_rfl) (tg := 37) (by kernel_rfl) (congrArg Value.bool a3) (fun _ => y_pick_t (congrArg Value.bool a0) rfl) (fun _ => hS) ?_
     refine x_p 28 (.bool (!r105)) rfl (by kernel_rfl)  (fun _ => y_pick_f (congrArg Value.bool a3) rfl) (fun _ => hS) ?_
     refine x_end (by kernel_rfl) ?_
     clear hS
     rcases bif_some hs with ⟨e1, hs⟩ | ⟨e1, hs⟩
     ·refine c_condT (congrArg Value.bool e1) ?_
      refine c_sr ?_
      refine pl_val (.bool false) (y_assign rfl) ?_
      refine c_nil ?_
      refine wp_ret ?_
      cases hs
      exact ⟨_, fr_ovl 56 ⟨rfl, trivial⟩, hC⟩
     refine c_condF (congrArg Value.bool e1) ?_
     refine wp_skip ?_
     refine c_region ?_
     refine pl_val (.int .i64 k83) (y_move rfl) ?_
     refine pl_val (.int .i64 (w64 (k83 + 1))) (y_add rfl rfl) ?_
     refine pl_val (.int .i64 (w64 (k83 + 1))) (y_assign rfl) ?_
     refine c_nil ?_
     cases hs
     exact ⟨_, fr_ovl 56 ⟨rfl, rfl, congrArg (Value.int .i64) hw, trivial⟩, hC, hO, h0, a1⟩
    ·skip
     refine xk_valy (b := false) (.slice pa0 pn0 pc0) rfl (tg := 40) (by kernel_rfl) (congrArg Value.bool a0) (y_load rfl ((box_load Ag47 Sz47 a1 [(.int .i64 r_.1)] [(.slice pa0 pn0 pc0)] [] rfl rfl (fun _ => rfl)) _ (Chg.refl _ _))) rfl (fun _ => hS) ?_
     obtain ⟨x100, c3, hs⟩ := bind_some hs
     obtain ⟨i6, i7, i9, f1⟩ := rs_idx Sl47 Sz41 h0 c3
     refine x_py 23 (.pointer (some ⟨i6, i7, none⟩)) rfl (by kernel_rfl) (tg := 40) (by kernel_rfl) (congrArg Value.bool a0) (fun _ => i9 _ _ _ _ _ _ _ _ _ rfl rfl) (fun _ => hS) ?_
     refine x_two (i := 19) (j := 24) (by kernel_rfl) ?_ ?_
     ·skip
      obtain ⟨o9, j0, c8⟩ := at_load Ag41 Sz41 (fun _ => rfl) e0
      obtain ⟨j1, j2, j3, rfl⟩ := rs_sl c8
      refine xk_valy (b := false) (.slice j1 j2 j3) rfl (tg := 40) (by kernel_rfl) (congrArg Value.bool a0) (y_load rfl (j0 _ (Chg.refl _ _))) rfl (fun _ => hS) ?_
      refine x_one (i := 24) (by kernel_rfl) ?_
      obtain ⟨p0, j4, c9⟩ := at_load Ag41 Sz41 (fun _ => rfl) f1
      obtain ⟨j5, j6, j7, rfl⟩ := rs_sl c9
      refine xk_valy (b := false) (.slice j5 j6 j7) rfl (tg := 40) (by kernel_rfl) (congrArg Value.bool a0) (y_load rfl (j4 _ (Chg.refl _ _))) rfl (fun _ => hS) ?_
      refine x_one (i := 25) (by kernel_rfl) ?_
      obtain ⟨r105, a7, hs⟩ := bind_some hs
      refine xk_cally (b := false) rfl (tg := 40) (by kernel_rfl) (congrArg Value.bool a0) Bd135 rfl (c_spec_l3Less (M := M) x96 x100 c8 c9 hO.fut a7) rfl (by rintro _ _ _ ⟨rfl, a9⟩; exact hS.ext a9) ?_
      rintro _ p1 ⟨rfl, a9⟩
      have h0 := h0.ext a9
      have a1 := a1.cn a9
      have a5 := a5.ext a9
      have c8 := c8.ext a9
      have c9 := c9.ext a9
      have hC := hC.ext a9
      have hO := hO.ext a9
      have hS := hS.ext a9
      refine x_py 26 (.bool (!r105)) rfl (by kernel_rfl) (tg := 40) (by kernel_rfl) (congrArg Value.bool a0) (fun _ => y_not rfl) (fun _ => hS) ?_
      refine x_py 27 (.bool (!r105)) rfl (by kernel_rfl) (tg := 37) (by kernel_rfl) (congrArg Value.bool a3) (fun _ => y_pick_t (congrArg Value.bool a0) rfl) (fun _ => hS) ?_
      refine x_p 28 (.bool (!r105)) rfl (by kernel_rfl)  (fun _ => y_pick_f (congrArg Value.bool a3) rfl) (fun _ => hS) ?_
      refine x_end (by kernel_rfl) ?_
      clear hS
      rcases bif_some hs with ⟨e2, hs⟩ | ⟨e2, hs⟩
      ·refine c_condT (congrArg Value.bool e2) ?_
       refine c_sr ?_
       refine pl_val (.bool false) (y_assign rfl) ?_
       refine c_nil ?_
       refine wp_ret ?_
       cases hs
       exact ⟨_, fr_ovl 56 ⟨rfl, trivial⟩, hC⟩
      refine c_condF (congrArg Value.bool e2) ?_
      refine wp_skip ?_
      refine c_region ?_
      refine pl_val (.int .i64 k83) (y_move rfl) ?_
      refine pl_val (.int .i64 (w64 (k83 + 1))) (y_add rfl rfl) ?_
      refine pl_val (.int .i64 (w64 (k83 + 1))) (y_assign rfl) ?_
      refine c_nil ?_
      cases hs
      exact ⟨_, fr_ovl 56 ⟨rfl, rfl, congrArg (Value.int .i64) hw, trivial⟩, hC, hO, h0, a1⟩
     ·skip
      obtain ⟨p2, j8, d0⟩ := at_load Ag41 Sz41 (fun _ => rfl) f1
      obtain ⟨j9, k0, k1, rfl⟩ := rs_sl d0
      refine xk_valy (b := false) (.slice j9 k0 k1) rfl (tg := 40) (by kernel_rfl) (congrArg Value.bool a0) (y_load rfl (j8 _ (Chg.refl _ _))) rfl (fun _ => hS) ?_
      refine x_one (i := 19) (by kernel_rfl) ?_
      obtain ⟨p3, k2, d1⟩ := at_load Ag41 Sz41 (fun _ => rfl) e0
      obtain ⟨k3, k4, k5, rfl⟩ := rs_sl d1
      refine xk_valy (b := false) (.slice k3 k4 k5) rfl (tg := 40) (by kernel_rfl) (congrArg Value.bool a0) (y_load rfl (k2 _ (Chg.refl _ _))) rfl (fun _ => hS) ?_
      refine x_one (i := 25) (by kernel_rfl) ?_
      obtain ⟨r105, a7, hs⟩ := bind_some hs
      refine xk_cally (b := false) rfl (tg := 40) (by kernel_rfl) (congrArg Value.bool a0) Bd135 rfl (c_spec_l3Less (M := M) x96 x100 d1 d0 hO.fut a7) rfl (by rintro _ _ _ ⟨rfl, b0⟩; exact hS.ext b0) ?_
      rintro _ p4 ⟨rfl, b0⟩
      have h0 := h0.ext b0
      have a1 := a1.cn b0
      have a5 := a5.ext b0
      have d0 := d0.ext b0
      have d1 := d1.ext b0
      have hC := hC.ext b0
      have hO := hO.ext b0
      have hS := hS.ext b0
      refine x_py 26 (.bool (!r105)) rfl (by kernel_rfl) (tg := 40) (by kernel_rfl) (congrArg Value.bool a0) (fun _ => y_not rfl) (fun _ => hS) ?_
      refine x_py 27 (.bool (!r105)) rfl (by kernel_rfl) (tg := 37) (by kernel_rfl) (congrArg Value.bool a3) (fun _ => y_pick_t (congrArg Value.bool a0) rfl) (fun _ => hS) ?_
      refine x_p 28 (.bool (!r105)) rfl (by kernel_rfl)  (fun _ => y_pick_f (congrArg Value.bool a3) rfl) (fun _ => hS) ?_
      refine x_end (by kernel_rfl) ?_
      clear hS
      rcases bif_some hs with ⟨e3, hs⟩ | ⟨e3, hs⟩
      ·refine c_condT (congrArg Value.bool e3) ?_
       refine c_sr ?_
       refine pl_val (.bool false) (y_assign rfl) ?_
       refine c_nil ?_
       refine wp_ret ?_
       cases hs
       exact ⟨_, fr_ovl 56 ⟨rfl, trivial⟩, hC⟩
      refine c_condF (congrArg Value.bool e3) ?_
      refine wp_skip ?_
      refine c_region ?_
      refine pl_val (.int .i64 k83) (y_move rfl) ?_
      refine pl_val (.int .i64 (w64 (k83 + 1))) (y_add rfl rfl) ?_
      refine pl_val (.int .i64 (w64 (k83 + 1))) (y_assign rfl) ?_
      refine c_nil ?_
      cases hs
      exact ⟨_, fr_ovl 56 ⟨rfl, rfl, congrArg (Value.int .i64) hw, trivial⟩, hC, hO, h0, a1⟩
   ·skip
    refine xk_valy (b := false) (.slice pa0 pn0 pc0) rfl (tg := 40) (by kernel_rfl) (congrArg Value.bool a0) (y_load rfl ((box_load Ag47 Sz47 a1 [(.int .i64 r_.1)] [(.slice pa0 pn0 pc0)] [] rfl rfl (fun _ => rfl)) _ (Chg.refl _ _))) rfl (fun _ => hS) ?_
    obtain ⟨x96, c5, hs⟩ := bind_some hs
    obtain ⟨x100, c3, hs⟩ := bind_some hs
    obtain ⟨k6, k7, k8, e4⟩ := rs_idx Sl47 Sz41 h0 c3
    refine x_py 23 (.pointer (some ⟨k6, k7, none⟩)) rfl (by kernel_rfl) (tg := 40) (by kernel_rfl) (congrArg Value.bool a0) (fun _ => k8 _ _ _ _ _ _ _ _ _ rfl rfl) (fun _ => hS) ?_
    refine x_two (i := 15) (j := 24) (by kernel_rfl) ?_ ?_
    ·skip
     refine xk_valy (b := false) (.slice pa0 pn0 pc0) rfl (tg := 40) (by kernel_rfl) (congrArg Value.bool a0) (y_load rfl ((box_load Ag47 Sz47 a1 [(.int .i64 r_.1)] [(.slice pa0 pn0 pc0)] [] rfl rfl (fun _ => rfl)) _ (Chg.refl _ _))) rfl (fun _ => hS) ?_
     obtain ⟨k9, l0, l1, f2⟩ := rs_idx Sl47 Sz41 h0 c5
     refine x_py 18 (.pointer (some ⟨k9, l0, none⟩)) rfl (by kernel_rfl) (tg := 40) (by kernel_rfl) (congrArg Value.bool a0) (fun _ => l1 _ _ _ _ _ _ _ _ _ rfl rfl) (fun _ => hS) ?_
     refine x_two (i := 19) (j := 24) (by kernel_rfl) ?_ ?_
     ·skip
      obtain ⟨p5, l2, d2⟩ := at_load Ag41 Sz41 (fun _ => rfl) f2
      obtain ⟨l3, l4, l5, rfl⟩ := rs_sl d2
      refine xk_valy (b := false) (.slice l3 l4 l5) rfl (tg := 40) (by kernel_rfl) (congrArg Value.bool a0) (y_load rfl (l2 _ (Chg.refl _ _))) rfl (fun _ => hS) ?_
      refine x_one (i := 24) (by kernel_rfl) ?_
      obtain ⟨p6, l6, d3⟩ := at_load Ag41 Sz41 (fun _ => rfl) e4
      obtain ⟨l7, l8, l9, rfl⟩ := rs_sl d3
      refine xk_valy (b := false) (.slice l7 l8 l9) rfl (tg := 40) (by kernel_rfl) (congrArg Value.bool a0) (y_load rfl (l6 _ (Chg.refl _ _))) rfl (fun _ => hS) ?_
      refine x_one (i := 25) (by kernel_rfl) ?_
      obtain ⟨r105, a7, hs⟩ := bind_some hs
      refine xk_cally (b := false) rfl (tg := 40) (by kernel_rfl) (congrArg Value.bool a0) Bd135 rfl (c_spec_l3Less (M := M) x96 x100 d2 d3 hO.fut a7) rfl (by rintro _ _ _ ⟨rfl, b1⟩; exact hS.ext b1) ?_
      rintro _ p7 ⟨rfl, b1⟩
      have h0 := h0.ext b1
      have a1 := a1.cn b1
      have a5 := a5.ext b1
      have d2 := d2.ext b1
      have d3 := d3.ext b1
      have hC := hC.ext b1
      have hO := hO.ext b1
      have hS := hS.ext b1
      refine x_py 26 (.bool (!r105)) rfl (by kernel_rfl) (tg := 40) (by kernel_rfl) (congrArg Value.bool a0) (fun _ => y_not rfl) (fun _ => hS) ?_
      refine x_py 27 (.bool (!r105)) rfl (by kernel_rfl) (tg := 37) (by kernel_rfl) (congrArg Value.bool a3) (fun _ => y_pick_t (congrArg Value.bool a0) rfl) (fun _ => hS) ?_
      refine x_p 28 (.bool (!r105)) rfl (by kernel_rfl)  (fun _ => y_pick_f (congrArg Value.bool a3) rfl) (fun _ => hS) ?_
      refine x_end (by kernel_rfl) ?_
      clear hS
      rcases bif_some hs with ⟨e5, hs⟩ | ⟨e5, hs⟩
      ·refine c_condT (congrArg Value.bool e5) ?_
       refine c_sr ?_
       refine pl_val (.bool false) (y_assign rfl) ?_
       refine c_nil ?_
       refine wp_ret ?_
       cases hs
       exact ⟨_, fr_ovl 56 ⟨rfl, trivial⟩, hC⟩
      refine c_condF (congrArg Value.bool e5) ?_
      refine wp_skip ?_
      refine c_region ?_
      refine pl_val (.int .i64 k83) (y_move rfl) ?_
      refine pl_val (.int .i64 (w64 (k83 + 1))) (y_add rfl rfl) ?_
      refine pl_val (.int .i64 (w64 (k83 + 1))) (y_assign rfl) ?_
      refine c_nil ?_
      cases hs
      exact ⟨_, fr_ovl 56 ⟨rfl, rfl, congrArg (Value.int .i64) hw, trivial⟩, hC, hO, h0, a1⟩
     ·skip
      obtain ⟨p8, m0, d4⟩ := at_load Ag41 Sz41 (fun _ => rfl) e4
      obtain ⟨m1, m2, m3, rfl⟩ := rs_sl d4
      refine xk_valy (b := false) (.slice m1 m2 m3) rfl (tg := 40) (by kernel_rfl) (congrArg Value.bool a0) (y_load rfl (m0 _ (Chg.refl _ _))) rfl (fun _ => hS) ?_
      refine x_one (i := 19) (by kernel_rfl) ?_
      obtain ⟨p9, m4, d5⟩ := at_load Ag41 Sz41 (fun _ => rfl) f2
      obtain ⟨m5, m6, m7, rfl⟩ := rs_sl d5
      refine xk_valy (b := false) (.slice m5 m6 m7) rfl (tg := 40) (by kernel_rfl) (congrArg Value.bool a0) (y_load rfl (m4 _ (Chg.refl _ _))) rfl (fun _ => hS) ?_
      refine x_one (i := 25) (by kernel_rfl) ?_
      obtain ⟨r105, a7, hs⟩ := bind_some hs
      refine xk_cally (b := false) rfl (tg := 40) (by kernel_rfl) (congrArg Value.bool a0) Bd135 rfl (c_spec_l3Less (M := M) x96 x100 d5 d4 hO.fut a7) rfl (by rintro _ _ _ ⟨rfl, b2⟩; exact hS.ext b2) ?_
      rintro _ q0 ⟨rfl, b2⟩
      have h0 := h0.ext b2
      have a1 := a1.cn b2
      have a5 := a5.ext b2
      have d4 := d4.ext b2
      have d5 := d5.ext b2
      have hC := hC.ext b2
      have hO := hO.ext b2
      have hS := hS.ext b2
      refine x_py 26 (.bool (!r105)) rfl (by kernel_rfl) (tg := 40) (by kernel_rfl) (congrArg Value.bool a0) (fun _ => y_not rfl) (fun _ => hS) ?_
      refine x_py 27 (.bool (!r105)) rfl (by kernel_rfl) (tg := 37) (by kernel_rfl) (congrArg Value.bool a3) (fun _ => y_pick_t (congrArg Value.bool a0) rfl) (fun _ => hS) ?_
      refine x_p 28 (.bool (!r105)) rfl (by kernel_rfl)  (fun _ => y_pick_f (congrArg Value.bool a3) rfl) (fun _ => hS) ?_
      refine x_end (by kernel_rfl) ?_
      clear hS
      rcases bif_some hs with ⟨e6, hs⟩ | ⟨e6, hs⟩
      ·refine c_condT (congrArg Value.bool e6) ?_
       refine c_sr ?_
       refine pl_val (.bool false) (y_assign rfl) ?_
       refine c_nil ?_
       refine wp_ret ?_
       cases hs
       exact ⟨_, fr_ovl 56 ⟨rfl, trivial⟩, hC⟩
      refine c_condF (congrArg Value.bool e6) ?_
      refine wp_skip ?_
      refine c_region ?_
      refine pl_val (.int .i64 k83) (y_move rfl) ?_
      refine pl_val (.int .i64 (w64 (k83 + 1))) (y_add rfl rfl) ?_
      refine pl_val (.int .i64 (w64 (k83 + 1))) (y_assign rfl) ?_
      refine c_nil ?_
      cases hs
      exact ⟨_, fr_ovl 56 ⟨rfl, rfl, congrArg (Value.int .i64) hw, trivial⟩, hC, hO, h0, a1⟩
    ·skip
     obtain ⟨q1, m8, d6⟩ := at_load Ag41 Sz41 (fun _ => rfl) e4
     obtain ⟨m9, n0, n1, rfl⟩ := rs_sl d6
     refine xk_valy (b := false) (.slice m9 n0 n1) rfl (tg := 40) (by kernel_rfl) (congrArg Value.bool a0) (y_load rfl (m8 _ (Chg.refl _ _))) rfl (fun _ => hS) ?_
     refine x_one (i := 15) (by kernel_rfl) ?_
     refine xk_valy (b := false) (.slice pa0 pn0 pc0) rfl (tg := 40) (by kernel_rfl) (congrArg Value.bool a0) (y_load rfl ((box_load Ag47 Sz47 a1 [(.int .i64 r_.1)] [(.slice pa0 pn0 pc0)] [] rfl rfl (fun _ => rfl)) _ (Chg.refl _ _))) rfl (fun _ => hS) ?_
     obtain ⟨n2, n3, n4, n5⟩ := rs_idx Sl47 Sz41 h0 c5
     refine x_py 18 (.pointer (some ⟨n2, n3, none⟩)) rfl (by kernel_rfl) (tg := 40) (by kernel_rfl) (congrArg Value.bool a0) (fun _ => n4 _ _ _ _ _ _ _ _ _ rfl rfl) (fun _ => hS) ?_
     refine x_one (i := 19) (by kernel_rfl) ?_
     obtain ⟨q2, n6, d7⟩ := at_load Ag41 Sz41 (fun _ => rfl) n5
     obtain ⟨n7, n8, n9, rfl⟩ := rs_sl d7
     refine xk_valy (b := false) (.slice n7 n8 n9) rfl (tg := 40) (by kernel_rfl) (congrArg Value.bool a0) (y_load rfl (n6 _ (Chg.refl _ _))) rfl (fun _ => hS) ?_
     refine x_one (i := 25) (by kernel_rfl) ?_
     obtain ⟨r105, a7, hs⟩ := bind_some hs
     refine xk_cally (b := false) rfl (tg := 40) (by kernel_rfl) (congrArg Value.bool a0) Bd135 rfl (c_spec_l3Less (M := M) x96 x100 d7 d6 hO.fut a7) rfl (by rintro _ _ _ ⟨rfl, b3⟩; exact hS.ext b3) ?_
     rintro _ q3 ⟨rfl, b3⟩
     have h0 := h0.ext b3
     have a1 := a1.cn b3
     have a5 := a5.ext b3
     have d6 := d6.ext b3
     have d7 := d7.ext b3
     have hC := hC.ext b3
     have hO := hO.ext b3
     have hS := hS.ext b3
     refine x_py 26 (.bool (!r105)) rfl (by kernel_rfl) (tg := 40) (by kernel_rfl) (congrArg Value.bool a0) (fun _ => y_not rfl) (fun _ => hS) ?_
     refine x_py 27 (.bool (!r105)) rfl (by kernel_rfl) (tg := 37) (by kernel_rfl) (congrArg Value.bool a3) (fun _ => y_pick_t (congrArg Value.bool a0) rfl) (fun _ => hS) ?_
     refine x_p 28 (.bool (!r105)) rfl (by kernel_rfl)  (fun _ => y_pick_f (congrArg Value.bool a3) rfl) (fun _ => hS) ?_
     refine x_end (by kernel_rfl) ?_
     clear hS
     rcases bif_some hs with ⟨e7, hs⟩ | ⟨e7, hs⟩
     ·refine c_condT (congrArg Value.bool e7) ?_
      refine c_sr ?_
      refine pl_val (.bool false) (y_assign rfl) ?_
      refine c_nil ?_
      refine wp_ret ?_
      cases hs
      exact ⟨_, fr_ovl 56 ⟨rfl, trivial⟩, hC⟩
     refine c_condF (congrArg Value.bool e7) ?_
     refine wp_skip ?_
     refine c_region ?_
     refine pl_val (.int .i64 k83) (y_move rfl) ?_
     refine pl_val (.int .i64 (w64 (k83 + 1))) (y_add rfl rfl) ?_
     refine pl_val (.int .i64 (w64 (k83 + 1))) (y_assign rfl) ?_
     refine c_nil ?_
     cases hs
     exact ⟨_, fr_ovl 56 ⟨rfl, rfl, congrArg (Value.int .i64) hw, trivial⟩, hC, hO, h0, a1⟩
  refine x_pn 14 rfl (by kernel_rfl) (tg := 40) (by kernel_rfl) (congrArg Value.bool a0) (fun _ => hS) ?_
  refine x_pn 15 rfl (by kernel_rfl) (tg := 40) (by kernel_rfl) (congrArg Value.bool a0) (fun _ => hS) ?_
  refine x_pn 16 rfl (by kernel_rfl) (tg := 40) (by kernel_rfl) (congrArg Value.bool a0) (fun _ => hS) ?_
  refine x_pn 17 rfl (by kernel_rfl) (tg := 40) (by kernel_rfl) (congrArg Value.bool a0) (fun _ => hS) ?_
  refine x_pn 18 rfl (by kernel_rfl) (tg := 40) (by kernel_rfl) (congrArg Value.bool a0) (fun _ => hS) ?_
  refine x_pn 19 rfl (by kernel_rfl) (tg := 40) (by kernel_rfl) (congrArg Value.bool a0) (fun _ => hS) ?_
  refine x_pn 20 rfl (by kernel_rfl) (tg := 40) (by kernel_rfl) (congrArg Value.bool a0) (fun _ => hS) ?_
  refine x_pn 21 rfl (by kernel_rfl) (tg := 40) (by kernel_rfl) (congrArg Value.bool a0) (fun _ => hS) ?_
  refine x_pn 22 rfl (by kernel_rfl) (tg := 40) (by kernel_rfl) (congrArg Value.bool a0) (fun _ => hS) ?_
  refine x_pn 23 rfl (by kernel_rfl) (tg := 40) (by kernel_rfl) (congrArg Value.bool a0) (fun _ => hS) ?_
  refine x_pn 24 rfl (by kernel_rfl) (tg := 40) (by kernel_rfl) (congrArg Value.bool a0) (fun _ => hS) ?_
  refine x_pn 25 rfl (by kernel_rfl) (tg := 40) (by kernel_rfl) (congrArg Value.bool a0) (fun _ => hS) ?_
  refine x_pn 26 rfl (by kernel_rfl) (tg := 40) (by kernel_rfl) (congrArg Value.bool a0) (fun _ => hS) ?_
  refine x_py 27 (.bool false) rfl (by kernel_rfl) (tg := 37) (by kernel_rfl) (congrArg Value.bool a3) (fun _ => y_pick_f (congrArg Value.bool a0) rfl) (fun _ => hS) ?_
  refine x_p 28 (.bool false) rfl (by kernel_rfl)  (fun _ => y_pick_f (congrArg Value.bool a3) rfl) (fun _ => hS) ?_
  refine x_end (by kernel_rfl) ?_
  clear hS
  refine c_condF (by rfl) ?_
  refine wp_skip ?_
  refine c_region ?_
  refine pl_val (.int .i64 k83) (y_move rfl) ?_
  refine pl_val (.int .i64 (w64 (k83 + 1))) (y_add rfl rfl) ?_
  refine pl_val (.int .i64 (w64 (k83 + 1))) (y_assign rfl) ?_
  refine c_nil ?_
  cases hs
  exact ⟨_, fr_ovl 56 ⟨rfl, rfl, congrArg (Value.int .i64) hw, trivial⟩, hC, hO, h0, a1⟩
 ·skip
  exact ⟨_, fr_ovl 56 ⟨rfl, rfl, rfl, trivial⟩, hC, hO, h0, a1⟩
 cases o85 with
 | nx _ => exact True.intro
 | rt r_ =>
  have hs := after_rt hs
  intro f0 f3 hK
  cases hs
  exact hK
 | br s81 =>
  have hs := after_br hs
  rintro f0 a6 ⟨σ, rfl, hC, hO, h0, a1⟩
  refine c_sr ?_
  refine pl_val (.bool true) (y_assign rfl) ?_
  refine c_nil ?_
  refine wp_ret ?_
  cases hs
  exact ⟨_, fr_ovl 56 ⟨rfl, trivial⟩, hC⟩

theorem Bd115 : Bodied Try.prog 115 := bodied Try.func115 (by kernel_rfl) rfl

def k_spec_l19Is (M : Nat → Prop) (w0 : World) (r : Bool) (a : Act) (w : World) : Prop :=
  ∃ (σ : Nat → Value) , a = fr 26 (ovl σ [(6, (.bool r))]) ∧ Chg [] w0 w
def s_spec_l19Is (vars : Int) (size : Int) (c : (List Int) × (Int × (List (List Int)))) : Option (Bool) :=
  (s_spec_l13Good size (c.2.1, c.2.2)).bind fun r5 =>
  (bif r5 then (bif ((c.1.length : Int) == c.2.1) then (s_spec_l2Elements vars c.1).bind fun r9 =>
  some r9 else some false) else some false)
set_option maxHeartbeats 4000000 in
theorem c_spec_l19Is {M : Nat → Prop} {w : World} {pa0 : Option Addr} {pn0 pc0 : Nat} {pa1 : Option Addr} {pn1 pc1 : Nat} (vars : Int) (size : Int) (c : (List Int) × (Int × (List (List Int)))) (h0 : (RT.rs (RT.int .i64)).val M w (.slice pa0 pn0 pc0) c.1 ([])) (h1 : (RT.rs (RT.rs (RT.int .i64))).val M w (.slice pa1 pn1 pc1) c.2.2 ([])) (hM : ∀ g, w.heap.size ≤ g → M g) {r : Bool} (hs : s_spec_l19Is vars size c = some r) :
    Gives Try.prog 75 [(.int .i64 vars), (.int .i64 size), (.agg #[(.slice pa0 pn0 pc0), (.int .i64 c.2.1), (.slice pa1 pn1 pc1)])] w (fun v w' => v = (.bool r) ∧ Chg [] w w') := by
 refine calls_fr Try.func75 rfl Try.ntmps75 (Nat.le_of_ble_eq_true rfl) ?_
 have hO := Own.start (N := Nw w []) hM Nw.fut
 have hC := Chg.refl [] w
 unfold s_spec_l19Is at hs
 refine wp_mono (Q := KPost (k_spec_l19Is M w r)) ?_ (fun e a b2 h => ?_)
 rotate_left
 ·cases e
  case ret =>
   obtain ⟨σ, rfl, hrest⟩ := h
   exact ret1x Try.results75 (res_tmp rfl) ⟨rfl, hrest⟩
  all_goals exact (h : False).elim
 refine c_sr ?_
 obtain ⟨a8, a3, a9, a7, a6, a2⟩ := new_block w [(.slice pa0 pn0 pc0), (.int .i64 c.2.1), (.slice pa1 pn1 pc1)] 56
 refine pl_val (w' := a8) (.pointer (some ⟨a3, 0, none⟩)) (y_box rfl (by rw [a9, a7]; kernel_rfl)) ?_
 have h0 := h0.ext a6
 have h1 := h1.ext a6
 have hC := hC.ext a6
 have hO := hO.new1 a6 a7 a2.lt
 refine pl_val (.bool false) (y_assign rfl) ?_
 refine c_nil ?_
 refine c_sr ?_
 refine pl_val (.int .i64 size) (y_move rfl) ?_
 refine pl_val (.pointer (some ⟨a3, 1, none⟩)) (y_faddr rfl Fa56x1) ?_
 refine pl_val (.agg #[(.int .i64 c.2.1), (.slice pa1 pn1 pc1)]) (y_load rfl ((box_load Ag54 Sz54 a2 [(.slice pa0 pn0 pc0)] [(.int .i64 c.2.1), (.slice pa1 pn1 pc1)] [] rfl rfl (fun h => nomatch h)) _ (Chg.refl _ _))) ?_
 obtain ⟨r5, b0, hs⟩ := bind_some hs
 refine pl_call Bd115 rfl (c_spec_l13Good (M := M) size (c.2.1, c.2.2) h1 hO.fut b0) ?_
 rintro _ b3 ⟨rfl, a4⟩
 have h0 := h0.ext a4
 have h1 := h1.ext a4
 have a2 := a2.cn a4
 have hC := hC.ext a4
 have hO := hO.ext a4
 refine pl_val (.bool r5) (y_move rfl) ?_
 rcases bif_some hs with ⟨a0, hs⟩ | ⟨a0, hs⟩
 ·skip
  refine pl_yes (.pointer (some ⟨a3, 0, none⟩)) (tg := 11) (by kernel_rfl) (congrArg Value.bool a0) (y_faddr rfl Fa56x0) ?_
  refine pl_yes (.slice pa0 pn0 pc0) (tg := 11) (by kernel_rfl) (congrArg Value.bool a0) (y_load rfl ((box_load Ag41 Sz41 a2 [] [(.slice pa0 pn0 pc0)] [(.int .i64 c.2.1), (.slice pa1 pn1 pc1)] rfl rfl (fun _ => rfl)) _ (Chg.refl _ _))) ?_
  refine pl_yes (.int .i64 (c.1.length : Int)) (tg := 11) (by kernel_rfl) (congrArg Value.bool a0) (y_len' Sl41 (rs_len h0) rfl) ?_
  refine pl_yes (.pointer (some ⟨a3, 1, none⟩)) (tg := 11) (by kernel_rfl) (congrArg Value.bool a0) (y_faddr rfl Fa56x1) ?_
  refine pl_yes (.pointer (some ⟨a3, 1, none⟩)) (tg := 11) (by kernel_rfl) (congrArg Value.bool a0) (y_faddr rfl Fa54x0) ?_
  refine pl_yes (.int .i64 c.2.1) (tg := 11) (by kernel_rfl) (congrArg Value.bool a0) (y_load rfl ((box_load Ag3 Sz3 a2 [(.slice pa0 pn0 pc0)] [(.int .i64 c.2.1)] [(.slice pa1 pn1 pc1)] rfl rfl (fun _ => rfl)) _ (Chg.refl _ _))) ?_
  refine pl_yes (.bool ((c.1.length : Int) == c.2.1)) (tg := 11) (by kernel_rfl) (congrArg Value.bool a0) (y_eql rfl rfl) ?_
  refine pl_val (.bool ((c.1.length : Int) == c.2.1)) (y_pick_t (congrArg Value.bool a0) rfl) ?_
  refine pl_val (.bool ((c.1.length : Int) == c.2.1)) (y_move rfl) ?_
  rcases bif_some hs with ⟨a1, hs⟩ | ⟨a1, hs⟩
  ·skip
   refine pl_yes (.int .i64 vars) (tg := 20) (by kernel_rfl) (congrArg Value.bool a1) (y_move rfl) ?_
   refine pl_yes (.pointer (some ⟨a3, 0, none⟩)) (tg := 20) (by kernel_rfl) (congrArg Value.bool a1) (y_faddr rfl Fa56x0) ?_
   refine pl_yes (.slice pa0 pn0 pc0) (tg := 20) (by kernel_rfl) (congrArg Value.bool a1) (y_load rfl ((box_load Ag41 Sz41 a2 [] [(.slice pa0 pn0 pc0)] [(.int .i64 c.2.1), (.slice pa1 pn1 pc1)] rfl rfl (fun _ => rfl)) _ (Chg.refl _ _))) ?_
   obtain ⟨r9, b1, hs⟩ := bind_some hs
   refine pl_cally (tg := 20) (by kernel_rfl) (congrArg Value.bool a1) Bd116 rfl (c_spec_l2Elements (M := M) vars c.1 h0 hO.fut b1) ?_
   rintro _ b4 ⟨rfl, a5⟩
   have h0 := h0.ext a5
   have h1 := h1.ext a5
   have a2 := a2.cn a5
   have hC := hC.ext a5
   have hO := hO.ext a5
   refine pl_val (.bool r9) (y_pick_t (congrArg Value.bool a1) rfl) ?_
   refine pl_val (.bool r9) (y_assign rfl) ?_
   refine c_nil ?_
   refine wp_ret ?_
   cases hs
   exact ⟨_, fr_ovl 26 ⟨rfl, trivial⟩, hC⟩
  refine pl_not (tg := 20) (by kernel_rfl) (congrArg Value.bool a1) ?_
  refine pl_not (tg := 20) (by kernel_rfl) (congrArg Value.bool a1) ?_
  refine pl_not (tg := 20) (by kernel_rfl) (congrArg Value.bool a1) ?_
  refine pl_not (tg := 20) (by kernel_rfl) (congrArg Value.bool a1) ?_
  refine pl_val (.bool false) (y_pick_f (congrArg Value.bool a1) rfl) ?_
  refine pl_val (.bool false) (y_assign rfl) ?_
  refine c_nil ?_
  refine wp_ret ?_
  cases hs
  exact ⟨_, fr_ovl 26 ⟨rfl, trivial⟩, hC⟩
 refine pl_not (tg := 11) (by kernel_rfl) (congrArg Value.bool a0) ?_
 refine pl_not (tg := 11) (by kernel_rfl) (congrArg Value.bool a0) ?_
 refine pl_not (tg := 11) (by kernel_rfl) (congrArg Value.bool a0) ?_
 refine pl_not (tg := 11) (by kernel_rfl) (congrArg Value.bool a0) ?_
 refine pl_not (tg := 11) (by kernel_rfl) (congrArg Value.bool a0) ?_
 refine pl_not (tg := 11) (by kernel_rfl) (congrArg Value.bool a0) ?_
 refine pl_not (tg := 11) (by kernel_rfl) (congrArg Value.bool a0) ?_
 refine pl_val (.bool false) (y_pick_f (congrArg Value.bool a0) rfl) ?_
 refine pl_val (.bool false) (y_move rfl) ?_
 refine pl_not (tg := 20) (by kernel_rfl) (by rfl) ?_
 refine pl_not (tg := 20) (by kernel_rfl) (by rfl) ?_
 refine pl_not (tg := 20) (by kernel_rfl) (by rfl) ?_
 refine pl_not (tg := 20) (by kernel_rfl) (by rfl) ?_
 refine pl_val (.bool false) (y_pick_f (by rfl) rfl) ?_
 refine pl_val (.bool false) (y_assign rfl) ?_
 refine c_nil ?_
 refine wp_ret ?_
 cases hs
 exact ⟨_, fr_ovl 26 ⟨rfl, trivial⟩, hC⟩

theorem Ag28 : AggT Try.prog 28 false := fun _ => by kernel_rfl

theorem Bd75 : Bodied Try.prog 75 := bodied Try.func75 (by kernel_rfl) rfl

def k_spec_l19Good (M : Nat → Prop) (w0 : World) (r : Bool) (a : Act) (w : World) : Prop :=
  ∃ (σ : Nat → Value) , a = fr 38 (ovl σ [(2, (.bool r))]) ∧ Chg [] w0 w
def s_spec_l19Good (net : Int × Int × (List ((List Int) × (Int × (List (List Int)))))) : Option (Bool) :=
  ((s_spec_l1In net.1 0 9).bind fun r7 =>
  (bif (!r7) then some true else (s_spec_l1In net.2.1 1 4).bind fun r10 =>
  (bif (!r10) then some true else some (decide (40 < (net.2.2.length : Int)))))).bind fun s3 =>
  (bif s3 then some false else (forC (S := Unit) (R := Bool) (fun k24 s22 =>
  (idx net.2.2 k24).bind fun x29 =>
  (s_spec_l19Is net.1 net.2.1 (x29.1, (x29.2.1, x29.2.2))).bind fun r35 =>
  (bif (!r35) then some (.rt false) else some (.nx ()))) 0 (net.2.2.length : Int) ()).bind fun o26 => after o26 (fun r_ => some r_) (fun s22 =>
  some true))
set_option maxHeartbeats 4000000 in
theorem c_spec_l19Good {M : Nat → Prop} {w : World} {pa0 : Option Addr} {pn0 pc0 : Nat} (net : Int × Int × (List ((List Int) × (Int × (List (List Int)))))) (h0 : (RT.rs (RT.pr (RT.rs (RT.int .i64)) (RT.pr (RT.int .i64) (RT.rs (RT.rs (RT.int .i64)))))).val M w (.slice pa0 pn0 pc0) net.2.2 ([])) (hM : ∀ g, w.heap.size ≤ g → M g) {r : Bool} (hs : s_spec_l19Good net = some r) :
    Gives Try.prog 47 [(.agg #[(.int .i64 net.1), (.int .i64 net.2.1), (.slice pa0 pn0 pc0)])] w (fun v w' => v = (.bool r) ∧ Chg [] w w') := by
 refine calls_fr Try.func47 rfl Try.ntmps47 (Nat.le_of_ble_eq_true rfl) ?_
 have hO := Own.start (N := Nw w []) hM Nw.fut
 have hC := Chg.refl [] w
 unfold s_spec_l19Good at hs
 refine wp_mono (Q := KPost (k_spec_l19Good M w r)) ?_ (fun e a b9 h => ?_)
 rotate_left
 ·cases e
  case ret =>
   obtain ⟨σ, rfl, hrest⟩ := h
   exact ret1x Try.results47 (res_tmp rfl) ⟨rfl, hrest⟩
  all_goals exact (h : False).elim
 refine c_sr ?_
 obtain ⟨b0, a1, c0, b6, b1, a0⟩ := new_block w [(.int .i64 net.1), (.int .i64 net.2.1), (.slice pa0 pn0 pc0)] 30
 refine pl_val (w' := b0) (.pointer (some ⟨a1, 0, none⟩)) (y_box rfl (by rw [c0, b6]; kernel_rfl)) ?_
 have h0 := h0.ext b1
 have hC := hC.ext b1
 have hO := hO.new1 b1 b6 a0.lt
 refine pl_val (.bool false) (y_assign rfl) ?_
 refine c_nil ?_
 refine c_seq ?_
 refine c_seq ?_
 obtain ⟨s3, c1, hs⟩ := bind_some hs
 refine c_mid (I := fun a b7 => ∃ (σ : Nat → Value), a = fr 38 (ovl σ [(1, (.pointer (some ⟨a1, 0, none⟩))), (2, (.bool false)), (19, (.bool s3))]) ∧ Chg [] b0 b7) ?_ ?_
 ·replace hs := c1
  have hMid := Chg.refl [] b0
  refine c_region ?_
  refine pl_val (.pointer (some ⟨a1, 0, none⟩)) (y_faddr rfl Fa30x0) ?_
  refine pl_val (.int .i64 net.1) (y_load rfl ((box_load Ag3 Sz3 a0 [] [(.int .i64 net.1)] [(.int .i64 net.2.1), (.slice pa0 pn0 pc0)] rfl rfl (fun _ => rfl)) _ (Chg.refl _ _))) ?_
  obtain ⟨r7, c2, hs⟩ := bind_some hs
  refine pl_call Bd100 rfl (c_spec_l1In (M := M) net.1 0 9  hO.fut c2) ?_
  rintro _ e5 ⟨rfl, a6⟩
  have h0 := h0.ext a6
  have a0 := a0.cn a6
  have hMid := hMid.ext a6
  have hC := hC.ext a6
  have hO := hO.ext a6
  refine pl_val (.bool (!r7)) (y_not rfl) ?_
  refine pl_val (.bool (!r7)) (y_move rfl) ?_
  rcases bif_some hs with ⟨a3, hs⟩ | ⟨a3, hs⟩
  ·skip
   refine pl_not (tg := 8) (by kernel_rfl) (congrArg Value.bool a3) ?_
   refine pl_not (tg := 8) (by kernel_rfl) (congrArg Value.bool a3) ?_
   refine pl_not (tg := 8) (by kernel_rfl) (congrArg Value.bool a3) ?_
   refine pl_not (tg := 8) (by kernel_rfl) (congrArg Value.bool a3) ?_
   refine pl_val (.bool true) (y_pick_t (congrArg Value.bool a3) rfl) ?_
   refine pl_val (.bool true) (y_move rfl) ?_
   refine pl_not (tg := 14) (by kernel_rfl) (by rfl) ?_
   refine pl_not (tg := 14) (by kernel_rfl) (by rfl) ?_
   refine pl_not (tg := 14) (by kernel_rfl) (by rfl) ?_
   refine pl_not (tg := 14) (by kernel_rfl) (by rfl) ?_
   refine pl_val (.bool true) (y_pick_t (by rfl) rfl) ?_
   refine c_nil ?_
   cases hs
   exact ⟨_, fr_ovl 38 ⟨rfl, rfl, rfl, trivial⟩, hMid⟩
  refine pl_yes (.pointer (some ⟨a1, 1, none⟩)) (tg := 8) (by kernel_rfl) (congrArg Value.bool a3) (y_faddr rfl Fa30x1) ?_
  refine pl_yes (.int .i64 net.2.1) (tg := 8) (by kernel_rfl) (congrArg Value.bool a3) (y_load rfl ((box_load Ag3 Sz3 a0 [(.int .i64 net.1)] [(.int .i64 net.2.1)] [(.slice pa0 pn0 pc0)] rfl rfl (fun _ => rfl)) _ (Chg.refl _ _))) ?_
  obtain ⟨r10, c3, hs⟩ := bind_some hs
  refine pl_cally (tg := 8) (by kernel_rfl) (congrArg Value.bool a3) Bd100 rfl (c_spec_l1In (M := M) net.2.1 1 4  hO.fut c3) ?_
  rintro _ e6 ⟨rfl, a7⟩
  have h0 := h0.ext a7
  have a0 := a0.cn a7
  have hMid := hMid.ext a7
  have hC := hC.ext a7
  have hO := hO.ext a7
  refine pl_yes (.bool (!r10)) (tg := 8) (by kernel_rfl) (congrArg Value.bool a3) (y_not rfl) ?_
  refine pl_val (.bool (!r10)) (y_pick_f (congrArg Value.bool a3) rfl) ?_
  refine pl_val (.bool (!r10)) (y_move rfl) ?_
  rcases bif_some hs with ⟨a4, hs⟩ | ⟨a4, hs⟩
  ·skip
   refine pl_not (tg := 14) (by kernel_rfl) (congrArg Value.bool a4) ?_
   refine pl_not (tg := 14) (by kernel_rfl) (congrArg Value.bool a4) ?_
   refine pl_not (tg := 14) (by kernel_rfl) (congrArg Value.bool a4) ?_
   refine pl_not (tg := 14) (by kernel_rfl) (congrArg Value.bool a4) ?_
   refine pl_val (.bool true) (y_pick_t (congrArg Value.bool a4) rfl) ?_
   refine c_nil ?_
   cases hs
   exact ⟨_, fr_ovl 38 ⟨rfl, rfl, rfl, trivial⟩, hMid⟩
  refine pl_yes (.pointer (some ⟨a1, 2, none⟩)) (tg := 14) (by kernel_rfl) (congrArg Value.bool a4) (y_faddr rfl Fa30x2) ?_
  refine pl_yes (.slice pa0 pn0 pc0) (tg := 14) (by kernel_rfl) (congrArg Value.bool a4) (y_load rfl ((box_load Ag28 Sz28 a0 [(.int .i64 net.1), (.int .i64 net.2.1)] [(.slice pa0 pn0 pc0)] [] rfl rfl (fun _ => rfl)) _ (Chg.refl _ _))) ?_
  refine pl_yes (.int .i64 (net.2.2.length : Int)) (tg := 14) (by kernel_rfl) (congrArg Value.bool a4) (y_len' Sl28 (rs_len h0) rfl) ?_
  refine pl_yes (.bool (decide (40 < (net.2.2.length : Int)))) (tg := 14) (by kernel_rfl) (congrArg Value.bool a4) (y_gtr rfl rfl) ?_
  refine pl_val (.bool (decide (40 < (net.2.2.length : Int)))) (y_pick_f (congrArg Value.bool a4) rfl) ?_
  refine c_nil ?_
  cases hs
  exact ⟨_, fr_ovl 38 ⟨rfl, rfl, rfl, trivial⟩, hMid⟩
 rintro b8 b7 ⟨σ, rfl, a9⟩
 have h0 := h0.ext a9
 have a0 := a0.cn a9
 have hC := hC.ext a9
 have hO := hO.ext a9
 rcases bif_some hs with ⟨b2, hs⟩ | ⟨b2, hs⟩
 ·refine c_condT (congrArg Value.bool b2) ?_
  refine c_sr ?_
  refine pl_val (.bool false) (y_assign rfl) ?_
  refine c_nil ?_
  refine wp_ret ?_
  cases hs
  exact ⟨_, fr_ovl 38 ⟨rfl, trivial⟩, hC⟩
 refine c_condF (congrArg Value.bool b2) ?_
 refine wp_skip ?_
 refine c_seq ?_
 refine c_sr ?_
 refine pl_val (.int .i64 0) (y_assign rfl) ?_
 refine c_nil ?_
 obtain ⟨o26, c4, hs⟩ := bind_some hs
 refine wp_block ?_
 refine wp_forC (id := 0) (net.2.2.length : Int) (I := fun k24 s22 a a2 => ∃ (σ : Nat → Value), a = fr 38 (ovl σ [(1, (.pointer (some ⟨a1, 0, none⟩))), (3, (.int .i64 k24))]) ∧ Chg [] w a2 ∧ Own (Nw w []) M a2 (([a1]) ++ []) ∧ (RT.rs (RT.pr (RT.rs (RT.int .i64)) (RT.pr (RT.int .i64) (RT.rs (RT.rs (RT.int .i64)))))).val M a2 (.slice pa0 pn0 pc0) net.2.2 ([]) ∧ BoxV a2 a1 30 [(.int .i64 net.1), (.int .i64 net.2.1), (.slice pa0 pn0 pc0)]) (J := fun s22 a a2 => ∃ (σ : Nat → Value), a = fr 38 (ovl σ []) ∧ Chg [] w a2 ∧ Own (Nw w []) M a2 (([a1]) ++ []) ∧ (RT.rs (RT.pr (RT.rs (RT.int .i64)) (RT.pr (RT.int .i64) (RT.rs (RT.rs (RT.int .i64)))))).val M a2 (.slice pa0 pn0 pc0) net.2.2 ([]) ∧ BoxV a2 a1 30 [(.int .i64 net.1), (.int .i64 net.2.1), (.slice pa0 pn0 pc0)]) (K := (k_spec_l19Good M w)) ?_ ?_ 0 () o26 _ _ ?_ c4 ?_
 ·rintro k24 s22 a a2 ⟨σ, rfl, hC, hO, h0, a0⟩ hlt
  refine c_seq ?_
  refine c_sr ?_
  refine pl_val (.int .i64 k24) (y_move rfl) ?_
  refine pl_val (.pointer (some ⟨a1, 2, none⟩)) (y_faddr rfl Fa30x2) ?_
  refine pl_val (.slice pa0 pn0 pc0) (y_load rfl ((box_load Ag28 Sz28 a0 [(.int .i64 net.1), (.int .i64 net.2.1)] [(.slice pa0 pn0 pc0)] [] rfl rfl (fun _ => rfl)) _ (Chg.refl _ _))) ?_
  refine pl_val (.int .i64 (net.2.2.length : Int)) (y_len' Sl28 (rs_len h0) rfl) ?_
  refine pl_val (.bool (decide (k24 < (net.2.2.length : Int)))) (y_lss rfl rfl) ?_
  refine c_nil ?_
  refine c_condF (congrArg Value.bool (decide_eq_false hlt)) ?_
  refine wp_exit ?_
  exact ⟨rfl, _, fr_ovl 38 trivial, hC, hO, h0, a0⟩
 ·rintro k24 s22 o26 a a2 ⟨σ, rfl, hC, hO, h0, a0⟩ hlt hw hs
  refine c_seq ?_
  refine c_sr ?_
  refine pl_val (.int .i64 k24) (y_move rfl) ?_
  refine pl_val (.pointer (some ⟨a1, 2, none⟩)) (y_faddr rfl Fa30x2) ?_
  refine pl_val (.slice pa0 pn0 pc0) (y_load rfl ((box_load Ag28 Sz28 a0 [(.int .i64 net.1), (.int .i64 net.2.1)] [(.slice pa0 pn0 pc0)] [] rfl rfl (fun _ => rfl)) _ (Chg.refl _ _))) ?_
  refine pl_val (.int .i64 (net.2.2.length : Int)) (y_len' Sl28 (rs_len h0) rfl) ?_
  refine pl_val (.bool (decide (k24 < (net.2.2.length : Int)))) (y_lss rfl rfl) ?_
  refine c_nil ?_
  refine c_condT (congrArg Value.bool (decide_eq_true hlt)) ?_
  refine wp_skip ?_
  refine c_seq ?_
  refine wp_block ?_
  refine c_seq ?_
  refine x_start [] Mx rfl ?_
  have a8 := Chg.drew a2
  generalize World.drew a2 = c5 at a8 ⊢
  have h0 := h0.ext a8
  have a0 := a0.cn a8
  have hC := hC.ext a8
  have hO := hO.ext a8
  have hS := Chg.refl [] c5
  refine x_p 0 (.pointer (some ⟨a1, 0, none⟩)) rfl (by kernel_rfl)  (fun _ => y_faddr rfl Fa30x0) (fun _ => hS) ?_
  refine x_l 1 (.int .i64 net.1) rfl (by kernel_rfl)  (fun w' hw' => y_load rfl ((box_load Ag3 Sz3 a0 [] [(.int .i64 net.1)] [(.int .i64 net.2.1), (.slice pa0 pn0 pc0)] rfl rfl (fun _ => rfl)) w' hw')) hS ?_
  refine x_p 2 (.pointer (some ⟨a1, 1, none⟩)) rfl (by kernel_rfl)  (fun _ => y_faddr rfl Fa30x1) (fun _ => hS) ?_
  refine x_l 3 (.int .i64 net.2.1) rfl (by kernel_rfl)  (fun w' hw' => y_load rfl ((box_load Ag3 Sz3 a0 [(.int .i64 net.1)] [(.int .i64 net.2.1)] [(.slice pa0 pn0 pc0)] rfl rfl (fun _ => rfl)) w' hw')) hS ?_
  refine x_p 4 (.pointer (some ⟨a1, 2, none⟩)) rfl (by kernel_rfl)  (fun _ => y_faddr rfl Fa30x2) (fun _ => hS) ?_
  refine x_l 5 (.slice pa0 pn0 pc0) rfl (by kernel_rfl)  (fun w' hw' => y_load rfl ((box_load Ag28 Sz28 a0 [(.int .i64 net.1), (.int .i64 net.2.1)] [(.slice pa0 pn0 pc0)] [] rfl rfl (fun _ => rfl)) w' hw')) hS ?_
  refine x_p 6 (.int .i64 k24) rfl (by kernel_rfl)  (fun _ => y_move rfl) (fun _ => hS) ?_
  obtain ⟨x29, c6, hs⟩ := bind_some hs
  obtain ⟨c7, c8, c9, d0⟩ := rs_idx Sl28 Sz56 h0 c6
  refine x_p 7 (.pointer (some ⟨c7, c8, none⟩)) rfl (by kernel_rfl)  (fun _ => c9 _ _ _ _ _ _ _ _ _ rfl rfl) (fun _ => hS) ?_
  obtain ⟨e7, d1, d2⟩ := at_load Ag56 Sz56 (by intro h; cases h) d0
  obtain ⟨e8, rfl, d3⟩ := d2
  obtain ⟨e9, f0, rfl, d4, d5⟩ := pr_open d3
  obtain ⟨d6, d7, d8, rfl, b3⟩ := rs_rel d4
  obtain ⟨f1, f2, rfl, d9, e0⟩ := pr_open d5
  obtain rfl := int_rel d9
  obtain ⟨e1, e2, e3, rfl, b4⟩ := rs_rel e0
  refine x_l 8 (.agg #[(.slice d6 d7 d8), (.int .i64 x29.2.1), (.slice e1 e2 e3)]) rfl (by kernel_rfl)  (fun w' hw' => y_load rfl (d1 w' hw')) hS ?_
  refine x_one (i := 9) (by kernel_rfl) ?_
  obtain ⟨r35, e4, hs⟩ := bind_some hs
  refine xk_call (b := false) rfl  Bd75 rfl (c_spec_l19Is (M := M) net.1 net.2.1 (x29.1, (x29.2.1, x29.2.2)) b3 b4 hO.fut e4) rfl (by rintro _ _ _ ⟨rfl, a5⟩; exact hS.ext a5) ?_
  rintro _ f3 ⟨rfl, a5⟩
  have h0 := h0.ext a5
  have a0 := a0.cn a5
  have b3 := b3.ext a5
  have b4 := b4.ext a5
  have hC := hC.ext a5
  have hO := hO.ext a5
  have hS := hS.ext a5
  refine x_p 10 (.bool (!r35)) rfl (by kernel_rfl)  (fun _ => y_not rfl) (fun _ => hS) ?_
  refine x_end (by kernel_rfl) ?_
  clear hS
  rcases bif_some hs with ⟨b5, hs⟩ | ⟨b5, hs⟩
  ·refine c_condT (congrArg Value.bool b5) ?_
   refine c_sr ?_
   refine pl_val (.bool false) (y_assign rfl) ?_
   refine c_nil ?_
   refine wp_ret ?_
   cases hs
   exact ⟨_, fr_ovl 38 ⟨rfl, trivial⟩, hC⟩
  refine c_condF (congrArg Value.bool b5) ?_
  refine wp_skip ?_
  refine c_region ?_
  refine pl_val (.int .i64 k24) (y_move rfl) ?_
  refine pl_val (.int .i64 (w64 (k24 + 1))) (y_add rfl rfl) ?_
  refine pl_val (.int .i64 (w64 (k24 + 1))) (y_assign rfl) ?_
  refine c_nil ?_
  cases hs
  exact ⟨_, fr_ovl 38 ⟨rfl, congrArg (Value.int .i64) hw, trivial⟩, hC, hO, h0, a0⟩
 ·skip
  exact ⟨_, fr_ovl 38 ⟨rfl, rfl, trivial⟩, hC, hO, h0, a0⟩
 cases o26 with
 | nx _ => exact True.intro
 | rt r_ =>
  have hs := after_rt hs
  intro b8 b9 hK
  cases hs
  exact hK
 | br s22 =>
  have hs := after_br hs
  rintro b8 a2 ⟨σ, rfl, hC, hO, h0, a0⟩
  refine c_sr ?_
  refine pl_val (.bool true) (y_assign rfl) ?_
  refine c_nil ?_
  refine wp_ret ?_
  cases hs
  exact ⟨_, fr_ovl 38 ⟨rfl, trivial⟩, hC⟩

def k_spec_l1Rising (M : Nat → Prop) (w0 : World) (r : Bool) (a : Act) (w : World) : Prop :=
  ∃ (σ : Nat → Value) , a = fr 38 (ovl σ [(6, (.bool r))]) ∧ Chg [] w0 w
def s_spec_l1Rising (l : List Int) (lo : Int) (hi : Int) : Option (Bool) :=
  (forC (S := Unit) (R := Bool) (fun k17 s15 =>
  (idx l k17).bind fun x22 =>
  (s_spec_l1In x22 lo hi).bind fun r25 =>
  (bif (!r25) then some (.rt false) else (bif (decide (0 < k17)) then (idx l (w64 (k17 - 1))).bind fun x28 =>
  (idx l k17).bind fun x30 =>
  (bif (decide (x30 ≤ x28)) then some (.rt false) else some (.nx ())) else some (.nx ())))) 0 (l.length : Int) ()).bind fun o19 => after o19 (fun r_ => some r_) (fun s15 =>
  some true)
set_option maxHeartbeats 4000000 in
theorem c_spec_l1Rising {M : Nat → Prop} {w : World} {pa0 : Option Addr} {pn0 pc0 : Nat} (l : List Int) (lo : Int) (hi : Int) (h0 : (RT.rs (RT.int .i64)).val M w (.slice pa0 pn0 pc0) l ([])) (hM : ∀ g, w.heap.size ≤ g → M g) {r : Bool} (hs : s_spec_l1Rising l lo hi = some r) :
    Gives Try.prog 68 [(.slice pa0 pn0 pc0), (.int .i64 lo), (.int .i64 hi)] w (fun v w' => v = (.bool r) ∧ Chg [] w w') := by
 refine calls_fr Try.func68 rfl Try.ntmps68 (Nat.le_of_ble_eq_true rfl) ?_
 have hO := Own.start (N := Nw w []) hM Nw.fut
 have hC := Chg.refl [] w
 unfold s_spec_l1Rising at hs
 refine wp_mono (Q := KPost (k_spec_l1Rising M w r)) ?_ (fun e a a9 h => ?_)
 rotate_left
 ·cases e
  case ret =>
   obtain ⟨σ, rfl, hrest⟩ := h
   exact ret1x Try.results68 (res_tmp rfl) ⟨rfl, hrest⟩
  all_goals exact (h : False).elim
 refine c_sr ?_
 refine pl_val (.bool false) (y_assign rfl) ?_
 refine c_nil ?_
 refine c_seq ?_
 refine c_sr ?_
 refine pl_val (.int .i64 0) (y_assign rfl) ?_
 refine c_nil ?_
 obtain ⟨o19, b0, hs⟩ := bind_some hs
 refine wp_block ?_
 refine wp_forC (id := 0) (l.length : Int) (I := fun k17 s15 a a2 => ∃ (σ : Nat → Value), a = fr 38 (ovl σ [(0, (.slice pa0 pn0 pc0)), (1, (.int .i64 lo)), (2, (.int .i64 hi)), (7, (.int .i64 k17))]) ∧ Chg [] w a2 ∧ Own (Nw w []) M a2 ([]) ∧ (RT.rs (RT.int .i64)).val M a2 (.slice pa0 pn0 pc0) l ([])) (J := fun s15 a a2 => ∃ (σ : Nat → Value), a = fr 38 (ovl σ []) ∧ Chg [] w a2 ∧ Own (Nw w []) M a2 ([]) ∧ (RT.rs (RT.int .i64)).val M a2 (.slice pa0 pn0 pc0) l ([])) (K := (k_spec_l1Rising M w)) ?_ ?_ 0 () o19 _ _ ?_ b0 ?_
 ·rintro k17 s15 a a2 ⟨σ, rfl, hC, hO, h0⟩ hlt
  refine c_seq ?_
  refine c_sr ?_
  refine pl_val (.int .i64 k17) (y_move rfl) ?_
  refine pl_val (.slice pa0 pn0 pc0) (y_move rfl) ?_
  refine pl_val (.int .i64 (l.length : Int)) (y_len' Sl41 (rs_len h0) rfl) ?_
  refine pl_val (.bool (decide (k17 < (l.length : Int)))) (y_lss rfl rfl) ?_
  refine c_nil ?_
  refine c_condF (congrArg Value.bool (decide_eq_false hlt)) ?_
  refine wp_exit ?_
  exact ⟨rfl, _, fr_ovl 38 trivial, hC, hO, h0⟩
 ·rintro k17 s15 o19 a a2 ⟨σ, rfl, hC, hO, h0⟩ hlt hw hs
  refine c_seq ?_
  refine c_sr ?_
  refine pl_val (.int .i64 k17) (y_move rfl) ?_
  refine pl_val (.slice pa0 pn0 pc0) (y_move rfl) ?_
  refine pl_val (.int .i64 (l.length : Int)) (y_len' Sl41 (rs_len h0) rfl) ?_
  refine pl_val (.bool (decide (k17 < (l.length : Int)))) (y_lss rfl rfl) ?_
  refine c_nil ?_
  refine c_condT (congrArg Value.bool (decide_eq_true hlt)) ?_
  refine wp_skip ?_
  refine c_seq ?_
  refine wp_block ?_
  refine c_seq ?_
  refine x_start [] Mx rfl ?_
  have a4 := Chg.drew a2
  generalize World.drew a2 = b1 at a4 ⊢
  have h0 := h0.ext a4
  have hC := hC.ext a4
  have hO := hO.ext a4
  have hS := Chg.refl [] b1
  refine x_p 0 (.slice pa0 pn0 pc0) rfl (by kernel_rfl)  (fun _ => y_move rfl) (fun _ => hS) ?_
  refine x_p 1 (.int .i64 k17) rfl (by kernel_rfl)  (fun _ => y_move rfl) (fun _ => hS) ?_
  obtain ⟨x22, b2, hs⟩ := bind_some hs
  obtain ⟨b3, b4, b5, b6⟩ := rs_idx Sl41 Sz3 h0 b2
  refine x_p 2 (.pointer (some ⟨b3, b4, none⟩)) rfl (by kernel_rfl)  (fun _ => b5 _ _ _ _ _ _ _ _ _ rfl rfl) (fun _ => hS) ?_
  refine x_l 3 (.int .i64 x22) rfl (by kernel_rfl)  (fun w' hw' => y_load rfl ((at_load_int Ag3 Sz3 b6) w' hw')) hS ?_
  refine x_p 4 (.int .i64 lo) rfl (by kernel_rfl)  (fun _ => y_move rfl) (fun _ => hS) ?_
  refine x_p 5 (.int .i64 hi) rfl (by kernel_rfl)  (fun _ => y_move rfl) (fun _ => hS) ?_
  refine x_one (i := 6) (by kernel_rfl) ?_
  obtain ⟨r25, b7, hs⟩ := bind_some hs
  refine xk_call (b := false) rfl  Bd100 rfl (c_spec_l1In (M := M) x22 lo hi  hO.fut b7) rfl (by rintro _ _ _ ⟨rfl, a3⟩; exact hS.ext a3) ?_
  rintro _ c7 ⟨rfl, a3⟩
  have h0 := h0.ext a3
  have hC := hC.ext a3
  have hO := hO.ext a3
  have hS := hS.ext a3
  refine x_p 7 (.bool (!r25)) rfl (by kernel_rfl)  (fun _ => y_not rfl) (fun _ => hS) ?_
  refine x_p 8 (.bool (!r25)) rfl (by kernel_rfl)  (fun _ => y_move rfl) (fun _ => hS) ?_
  rcases bif_some hs with ⟨a1, hs⟩ | ⟨a1, hs⟩
  ·skip
   refine x_pn 9 rfl (by kernel_rfl) (tg := 22) (by kernel_rfl) (congrArg Value.bool a1) (fun _ => hS) ?_
   refine x_pn 10 rfl (by kernel_rfl) (tg := 22) (by kernel_rfl) (congrArg Value.bool a1) (fun _ => hS) ?_
   refine x_pn 11 rfl (by kernel_rfl) (tg := 22) (by kernel_rfl) (congrArg Value.bool a1) (fun _ => hS) ?_
   refine x_pnu 12 rfl (by kernel_rfl) (tg := 25) (by kernel_rfl) rfl (fun _ => hS) ?_
   refine x_pnu 13 rfl (by kernel_rfl) (tg := 25) (by kernel_rfl) rfl (fun _ => hS) ?_
   refine x_pnu 14 rfl (by kernel_rfl) (tg := 25) (by kernel_rfl) rfl (fun _ => hS) ?_
   refine x_pnu 15 rfl (by kernel_rfl) (tg := 25) (by kernel_rfl) rfl (fun _ => hS) ?_
   refine x_pnu 16 rfl (by kernel_rfl) (tg := 25) (by kernel_rfl) rfl (fun _ => hS) ?_
   refine x_pnu 17 rfl (by kernel_rfl) (tg := 25) (by kernel_rfl) rfl (fun _ => hS) ?_
   refine x_pnu 18 rfl (by kernel_rfl) (tg := 25) (by kernel_rfl) rfl (fun _ => hS) ?_
   refine x_pnu 19 rfl (by kernel_rfl) (tg := 25) (by kernel_rfl) rfl (fun _ => hS) ?_
   refine x_pnu 20 rfl (by kernel_rfl) (tg := 25) (by kernel_rfl) rfl (fun _ => hS) ?_
   refine x_pnu 21 rfl (by kernel_rfl) (tg := 25) (by kernel_rfl) rfl (fun _ => hS) ?_
   refine x_pn 22 rfl (by kernel_rfl) (tg := 22) (by kernel_rfl) (congrArg Value.bool a1) (fun _ => hS) ?_
   refine x_p 23 (.bool true) rfl (by kernel_rfl)  (fun _ => y_pick_t (congrArg Value.bool a1) rfl) (fun _ => hS) ?_
   refine x_end (by kernel_rfl) ?_
   clear hS
   refine c_condT (by rfl) ?_
   refine c_sr ?_
   refine pl_val (.bool false) (y_assign rfl) ?_
   refine c_nil ?_
   refine wp_ret ?_
   cases hs
   exact ⟨_, fr_ovl 38 ⟨rfl, trivial⟩, hC⟩
  refine x_py 9 (.int .i64 k17) rfl (by kernel_rfl) (tg := 22) (by kernel_rfl) (congrArg Value.bool a1) (fun _ => y_move rfl) (fun _ => hS) ?_
  refine x_py 10 (.bool (decide (0 < k17))) rfl (by kernel_rfl) (tg := 22) (by kernel_rfl) (congrArg Value.bool a1) (fun _ => y_gtr rfl rfl) (fun _ => hS) ?_
  refine x_py 11 (.bool (decide (0 < k17))) rfl (by kernel_rfl) (tg := 22) (by kernel_rfl) (congrArg Value.bool a1) (fun _ => y_move rfl) (fun _ => hS) ?_
  rcases bif_some hs with ⟨a0, hs⟩ | ⟨a0, hs⟩
  ·skip
   refine x_py 12 (.slice pa0 pn0 pc0) rfl (by kernel_rfl) (tg := 25) (by kernel_rfl) (congrArg Value.bool a0) (fun _ => y_move rfl) (fun _ => hS) ?_
   refine x_py 13 (.int .i64 k17) rfl (by kernel_rfl) (tg := 25) (by kernel_rfl) (congrArg Value.bool a0) (fun _ => y_move rfl) (fun _ => hS) ?_
   refine x_py 14 (.int .i64 (w64 (k17 - 1))) rfl (by kernel_rfl) (tg := 25) (by kernel_rfl) (congrArg Value.bool a0) (fun _ => y_sub rfl rfl) (fun _ => hS) ?_
   obtain ⟨x28, b8, hs⟩ := bind_some hs
   obtain ⟨b9, c0, c1, a7⟩ := rs_idx Sl41 Sz3 h0 b8
   refine x_py 15 (.pointer (some ⟨b9, c0, none⟩)) rfl (by kernel_rfl) (tg := 25) (by kernel_rfl) (congrArg Value.bool a0) (fun _ => c1 _ _ _ _ _ _ _ _ _ rfl rfl) (fun _ => hS) ?_
   refine x_py 17 (.slice pa0 pn0 pc0) rfl (by kernel_rfl) (tg := 25) (by kernel_rfl) (congrArg Value.bool a0) (fun _ => y_move rfl) (fun _ => hS) ?_
   refine x_py 18 (.int .i64 k17) rfl (by kernel_rfl) (tg := 25) (by kernel_rfl) (congrArg Value.bool a0) (fun _ => y_move rfl) (fun _ => hS) ?_
   obtain ⟨x30, c2, hs⟩ := bind_some hs
   obtain ⟨c3, c4, c5, a8⟩ := rs_idx Sl41 Sz3 h0 c2
   refine x_py 19 (.pointer (some ⟨c3, c4, none⟩)) rfl (by kernel_rfl) (tg := 25) (by kernel_rfl) (congrArg Value.bool a0) (fun _ => c5 _ _ _ _ _ _ _ _ _ rfl rfl) (fun _ => hS) ?_
   refine x_two (i := 16) (j := 20) (by kernel_rfl) ?_ ?_
   ·skip
    refine xk_valy (b := false) (.int .i64 x28) rfl (tg := 25) (by kernel_rfl) (congrArg Value.bool a0) (y_load rfl ((at_load_int Ag3 Sz3 a7) _ (Chg.refl _ _))) rfl (fun _ => hS) ?_
    refine x_one (i := 20) (by kernel_rfl) ?_
    refine xk_valy (b := false) (.int .i64 x30) rfl (tg := 25) (by kernel_rfl) (congrArg Value.bool a0) (y_load rfl ((at_load_int Ag3 Sz3 a8) _ (Chg.refl _ _))) rfl (fun _ => hS) ?_
    refine x_py 21 (.bool (decide (x30 ≤ x28))) rfl (by kernel_rfl) (tg := 25) (by kernel_rfl) (congrArg Value.bool a0) (fun _ => y_geq rfl rfl) (fun _ => hS) ?_
    refine x_py 22 (.bool (decide (x30 ≤ x28))) rfl (by kernel_rfl) (tg := 22) (by kernel_rfl) (congrArg Value.bool a1) (fun _ => y_pick_t (congrArg Value.bool a0) rfl) (fun _ => hS) ?_
    refine x_p 23 (.bool (decide (x30 ≤ x28))) rfl (by kernel_rfl)  (fun _ => y_pick_f (congrArg Value.bool a1) rfl) (fun _ => hS) ?_
    refine x_end (by kernel_rfl) ?_
    clear hS
    rcases bif_some hs with ⟨a5, hs⟩ | ⟨a5, hs⟩
    ·refine c_condT (congrArg Value.bool a5) ?_
     refine c_sr ?_
     refine pl_val (.bool false) (y_assign rfl) ?_
     refine c_nil ?_
     refine wp_ret ?_
     cases hs
     exact ⟨_, fr_ovl 38 ⟨rfl, trivial⟩, hC⟩
    refine c_condF (congrArg Value.bool a5) ?_
    refine wp_skip ?_
    refine c_region ?_
    refine pl_val (.int .i64 k17) (y_move rfl) ?_
    refine pl_val (.int .i64 (w64 (k17 + 1))) (y_add rfl rfl) ?_
    refine pl_val (.int .i64 (w64 (k17 + 1))) (y_assign rfl) ?_
    refine c_nil ?_
    cases hs
    exact ⟨_, fr_ovl 38 ⟨rfl, rfl, rfl, congrArg (Value.int .i64) hw, trivial⟩, hC, hO, h0⟩
   ·skip
    refine xk_valy (b := false) (.int .i64 x30) rfl (tg := 25) (by kernel_rfl) (congrArg Value.bool a0) (y_load rfl ((at_load_int Ag3 Sz3 a8) _ (Chg.refl _ _))) rfl (fun _ => hS) ?_
    refine x_one (i := 16) (by kernel_rfl) ?_
    refine xk_valy (b := false) (.int .i64 x28) rfl (tg := 25) (by kernel_rfl) (congrArg Value.bool a0) (y_load rfl ((at_load_int Ag3 Sz3 a7) _ (Chg.refl _ _))) rfl (fun _ => hS) ?_
    refine x_py 21 (.bool (decide (x30 ≤ x28))) rfl (by kernel_rfl) (tg := 25) (by kernel_rfl) (congrArg Value.bool a0) (fun _ => y_geq rfl rfl) (fun _ => hS) ?_
    refine x_py 22 (.bool (decide (x30 ≤ x28))) rfl (by kernel_rfl) (tg := 22) (by kernel_rfl) (congrArg Value.bool a1) (fun _ => y_pick_t (congrArg Value.bool a0) rfl) (fun _ => hS) ?_
    refine x_p 23 (.bool (decide (x30 ≤ x28))) rfl (by kernel_rfl)  (fun _ => y_pick_f (congrArg Value.bool a1) rfl) (fun _ => hS) ?_
    refine x_end (by kernel_rfl) ?_
    clear hS
    rcases bif_some hs with ⟨a6, hs⟩ | ⟨a6, hs⟩
    ·refine c_condT (congrArg Value.bool a6) ?_
     refine c_sr ?_
     refine pl_val (.bool false) (y_assign rfl) ?_
     refine c_nil ?_
     refine wp_ret ?_
     cases hs
     exact ⟨_, fr_ovl 38 ⟨rfl, trivial⟩, hC⟩
    refine c_condF (congrArg Value.bool a6) ?_
    refine wp_skip ?_
    refine c_region ?_
    refine pl_val (.int .i64 k17) (y_move rfl) ?_
    refine pl_val (.int .i64 (w64 (k17 + 1))) (y_add rfl rfl) ?_
    refine pl_val (.int .i64 (w64 (k17 + 1))) (y_assign rfl) ?_
    refine c_nil ?_
    cases hs
    exact ⟨_, fr_ovl 38 ⟨rfl, rfl, rfl, congrArg (Value.int .i64) hw, trivial⟩, hC, hO, h0⟩
  refine x_pn 12 rfl (by kernel_rfl) (tg := 25) (by kernel_rfl) (congrArg Value.bool a0) (fun _ => hS) ?_
  refine x_pn 13 rfl (by kernel_rfl) (tg := 25) (by kernel_rfl) (congrArg Value.bool a0) (fun _ => hS) ?_
  refine x_pn 14 rfl (by kernel_rfl) (tg := 25) (by kernel_rfl) (congrArg Value.bool a0) (fun _ => hS) ?_
  refine x_pn 15 rfl (by kernel_rfl) (tg := 25) (by kernel_rfl) (congrArg Value.bool a0) (fun _ => hS) ?_
  refine x_pn 16 rfl (by kernel_rfl) (tg := 25) (by kernel_rfl) (congrArg Value.bool a0) (fun _ => hS) ?_
  refine x_pn 17 rfl (by kernel_rfl) (tg := 25) (by kernel_rfl) (congrArg Value.bool a0) (fun _ => hS) ?_
  refine x_pn 18 rfl (by kernel_rfl) (tg := 25) (by kernel_rfl) (congrArg Value.bool a0) (fun _ => hS) ?_
  refine x_pn 19 rfl (by kernel_rfl) (tg := 25) (by kernel_rfl) (congrArg Value.bool a0) (fun _ => hS) ?_
  refine x_pn 20 rfl (by kernel_rfl) (tg := 25) (by kernel_rfl) (congrArg Value.bool a0) (fun _ => hS) ?_
  refine x_pn 21 rfl (by kernel_rfl) (tg := 25) (by kernel_rfl) (congrArg Value.bool a0) (fun _ => hS) ?_
  refine x_py 22 (.bool false) rfl (by kernel_rfl) (tg := 22) (by kernel_rfl) (congrArg Value.bool a1) (fun _ => y_pick_f (congrArg Value.bool a0) rfl) (fun _ => hS) ?_
  refine x_p 23 (.bool false) rfl (by kernel_rfl)  (fun _ => y_pick_f (congrArg Value.bool a1) rfl) (fun _ => hS) ?_
  refine x_end (by kernel_rfl) ?_
  clear hS
  refine c_condF (by rfl) ?_
  refine wp_skip ?_
  refine c_region ?_
  refine pl_val (.int .i64 k17) (y_move rfl) ?_
  refine pl_val (.int .i64 (w64 (k17 + 1))) (y_add rfl rfl) ?_
  refine pl_val (.int .i64 (w64 (k17 + 1))) (y_assign rfl) ?_
  refine c_nil ?_
  cases hs
  exact ⟨_, fr_ovl 38 ⟨rfl, rfl, rfl, congrArg (Value.int .i64) hw, trivial⟩, hC, hO, h0⟩
 ·skip
  exact ⟨_, fr_ovl 38 ⟨rfl, rfl, rfl, rfl, trivial⟩, hC, hO, h0⟩
 cases o19 with
 | nx _ => exact True.intro
 | rt r_ =>
  have hs := after_rt hs
  intro c6 a9 hK
  cases hs
  exact hK
 | br s15 =>
  have hs := after_br hs
  rintro c6 a2 ⟨σ, rfl, hC, hO, h0⟩
  refine c_sr ?_
  refine pl_val (.bool true) (y_assign rfl) ?_
  refine c_nil ?_
  refine wp_ret ?_
  cases hs
  exact ⟨_, fr_ovl 38 ⟨rfl, trivial⟩, hC⟩

def k_spec_l14Free (M : Nat → Prop) (w0 : World) (r : (List Int)) (a : Act) (w : World) : Prop :=
  ∃ (σ : Nat → Value) (ra0 : Option Addr) (rn0 rc0 : Nat) (rf0 : List Nat), a = fr 15 (ovl σ [(2, (.slice ra0 rn0 rc0))]) ∧ Chg [] w0 w ∧ (RT.os 3 (RT.int .i64)).val M w (.slice ra0 rn0 rc0) r rf0 ∧ Own (Nw w0 []) (fun _ => True) w (rf0 ++ ([]))
def s_spec_l14Free (size : Int) : Option ((List Int)) :=
  (forC (S := (List Int)) (R := (List Int)) (fun k12 s10 =>
  (app s10 ([(-1)])).bind fun y23 =>
  some (.nx y23)) 0 size ([])).bind fun o14 => after o14 (fun r_ => some r_) (fun s10 =>
  some s10)
set_option maxHeartbeats 4000000 in
theorem c_spec_l14Free {M : Nat → Prop} {w : World}  (size : Int)  (hM : ∀ g, w.heap.size ≤ g → M g) {r : (List Int)} (hs : s_spec_l14Free size = some r) :
    Gives Try.prog 49 [(.int .i64 size)] w (fun v w' => ∃ (ra0 : Option Addr) (rn0 rc0 : Nat) (rf0 : List Nat), v = (.slice ra0 rn0 rc0) ∧ Chg [] w w' ∧ (RT.os 3 (RT.int .i64)).val M w' (.slice ra0 rn0 rc0) r rf0 ∧ Own (Nw w []) (fun _ => True) w' (rf0 ++ ([]))) := by
 refine calls_fr Try.func49 rfl Try.ntmps49 (Nat.le_of_ble_eq_true rfl) ?_
 have hO := Own.start (N := Nw w []) hM Nw.fut
 have hC := Chg.refl [] w
 unfold s_spec_l14Free at hs
 refine wp_mono (Q := KPost (k_spec_l14Free M w r)) ?_ (fun e a b0 h => ?_)
 rotate_left
 ·cases e
  case ret =>
   obtain ⟨σ, ra0, rn0, rc0, rf0, rfl, hrest⟩ := h
   exact ret1x Try.results49 (res_tmp rfl) ⟨ra0, rn0, rc0, rf0, rfl, hrest⟩
  all_goals exact (h : False).elim
 refine c_sr ?_
 refine pl_val (.slice none 0 0) (y_assign rfl) ?_
 refine c_nil ?_
 refine c_sr ?_
 obtain ⟨b0, a1, c7, c0, c1, c2⟩ := new_block w [] 3
 refine pl_val (w' := b0) (.slice (some ⟨a1, 0, none⟩) 0 0) (y_bslice rfl (by rw [c7, c0]; kernel_rfl)) ?_
 have hC := hC.ext c1
 have hO := hO.new1 c1 c0 c2.lt
 have b2 := os_of_box (r := (RT.int .i64)) (M := M) (css := []) (fps := []) (xs := ([] : List Int)) c2 trivial (Nat.zero_le _) (List.nodup_cons.2 ⟨(fun h => nomatch h), List.nodup_nil⟩)
 have b2 : (RT.os 3 (RT.int .i64)).val M b0 (.slice (some ⟨a1, 0, none⟩) 0 0) [] [a1] := b2
 refine pl_val (.slice (some ⟨a1, 0, none⟩) 0 0) (y_assign rfl) ?_
 refine c_nil ?_
 refine c_seq ?_
 refine c_sr ?_
 refine pl_val (.int .i64 0) (y_assign rfl) ?_
 refine c_nil ?_
 obtain ⟨o14, c8, hs⟩ := bind_some hs
 refine wp_block ?_
 refine wp_forC (id := 0) size (I := fun k12 s10 a a0 => ∃ (σ : Nat → Value) (a2 : Option Addr) (a3 : Nat) (a4 : Nat) (a9 : List Nat), a = fr 15 (ovl σ [(0, (.int .i64 size)), (3, (.slice a2 a3 a4)), (4, (.int .i64 k12))]) ∧ Chg [] w a0 ∧ Own (Nw w []) M a0 (a9 ++ []) ∧ (RT.os 3 (RT.int .i64)).val M a0 (.slice a2 a3 a4) s10 a9) (J := fun s10 a a0 => ∃ (σ : Nat → Value) (a5 : Option Addr) (a6 : Nat) (a7 : Nat) (b1 : List Nat), a = fr 15 (ovl σ [(3, (.slice a5 a6 a7))]) ∧ Chg [] w a0 ∧ Own (Nw w []) M a0 (b1 ++ []) ∧ (RT.os 3 (RT.int .i64)).val M a0 (.slice a5 a6 a7) s10 b1) (K := (k_spec_l14Free M w)) ?_ ?_ 0 ([]) o14 _ _ ?_ c8 ?_
 ·rintro k12 s10 a a0 ⟨σ, a2, a3, a4, a9, rfl, hC, hO, a8⟩ hlt
  refine c_seq ?_
  refine c_sr ?_
  refine pl_val (.int .i64 k12) (y_move rfl) ?_
  refine pl_val (.int .i64 size) (y_move rfl) ?_
  refine pl_val (.bool (decide (k12 < size))) (y_lss rfl rfl) ?_
  refine c_nil ?_
  refine c_condF (congrArg Value.bool (decide_eq_false hlt)) ?_
  refine wp_exit ?_
  exact ⟨rfl, _, a2, a3, a4, a9, fr_ovl 15 ⟨rfl, trivial⟩, hC, hO, a8⟩
 ·rintro k12 s10 o14 a a0 ⟨σ, a2, a3, a4, a9, rfl, hC, hO, a8⟩ hlt hw hs
  refine c_seq ?_
  refine c_sr ?_
  refine pl_val (.int .i64 k12) (y_move rfl) ?_
  refine pl_val (.int .i64 size) (y_move rfl) ?_
  refine pl_val (.bool (decide (k12 < size))) (y_lss rfl rfl) ?_
  refine c_nil ?_
  refine c_condT (congrArg Value.bool (decide_eq_true hlt)) ?_
  refine wp_skip ?_
  refine c_seq ?_
  refine wp_block ?_
  refine c_region ?_
  refine pl_val (.slice a2 a3 a4) (y_move rfl) ?_
  obtain ⟨c3, b3, c9, c4, b4, c5⟩ := new_block a0 [(.int .i64 (-1))] 3
  refine pl_val (w' := c3) (.slice (some ⟨b3, 0, none⟩) 1 1) (y_bslice rfl (by rw [c9, c4]; kernel_rfl)) ?_
  have a8 := a8.ext b4
  have hC := hC.ext b4
  have hO := hO.new1 b4 c4 c5.lt
  have b5 := os_of_box (r := (RT.int .i64)) (M := M) (css := [[(.int .i64 (-1))]]) (fps := [([] : List Nat)]) (xs := ([(-1)] : List Int)) c5 ⟨⟨rfl, rfl⟩, trivial⟩ (Nat.le_of_ble_eq_true rfl) (List.nodup_cons.2 ⟨(fun h => nomatch h), List.nodup_nil⟩)
  have b5 : (RT.os 3 (RT.int .i64)).val M c3 (.slice (some ⟨b3, 0, none⟩) 1 1) [(-1)] [b3] := b5
  obtain ⟨y23, d0, hs⟩ := bind_some hs
  have hO := hO.fr1
  obtain ⟨b6, b7, b8, d1, d2, d3, c6, d4, b9⟩ := app_os Rw41 d0 a8 b5 hO.inM (fun g hg hq => hO.apart g hq (mem_l hg))
  have d5 := os_block a8
  refine pl_val (w' := d1) (.slice b6 b7 b8) (y_append rfl rfl (d3 _)) ?_
  have hO := hO.fr1
  have hO := hO.fr1
  have hC := hC.st c6 hO d5
  have hO := hO.eat c6 d4 (os_nodup b9) b9.fpl
  refine pl_val (.slice b6 b7 b8) (y_assign rfl) ?_
  refine c_nil ?_
  refine c_region ?_
  refine pl_val (.int .i64 k12) (y_move rfl) ?_
  refine pl_val (.int .i64 (w64 (k12 + 1))) (y_add rfl rfl) ?_
  refine pl_val (.int .i64 (w64 (k12 + 1))) (y_assign rfl) ?_
  refine c_nil ?_
  cases hs
  exact ⟨_, b6, b7, b8, d2, fr_ovl 15 ⟨rfl, rfl, congrArg (Value.int .i64) hw, trivial⟩, hC, hO, b9⟩
 ·skip
  exact ⟨_, (some ⟨a1, 0, none⟩), 0, 0, ([a1]), fr_ovl 15 ⟨rfl, rfl, rfl, trivial⟩, hC, hO, b2⟩
 cases o14 with
 | nx _ => exact True.intro
 | rt r_ =>
  have hs := after_rt hs
  intro d6 b0 hK
  cases hs
  exact hK
 | br s10 =>
  have hs := after_br hs
  rintro d6 a0 ⟨σ, a5, a6, a7, b1, rfl, hC, hO, d7⟩
  refine c_sr ?_
  refine pl_val (.slice a5 a6 a7) (y_move rfl) ?_
  refine pl_val (.slice a5 a6 a7) (y_assign rfl) ?_
  refine c_nil ?_
  refine wp_ret ?_
  cases hs
  exact ⟨_, a5, a6, a7, b1, fr_ovl 15 ⟨rfl, trivial⟩, hC, d7, hO.top⟩

def k_spec_l1Most (M : Nat → Prop) (w0 : World) (r : Int) (a : Act) (w : World) : Prop :=
  ∃ (σ : Nat → Value) , a = fr 10 (ovl σ [(4, (.int .i64 r))]) ∧ Chg [] w0 w
def s_spec_l1Most (a_ : Int) (b : Int) : Option (Int) :=
  (bif (decide (b < a_)) then some a_ else some b)
set_option maxHeartbeats 4000000 in
theorem c_spec_l1Most {M : Nat → Prop} {w : World}  (a_ : Int) (b : Int)  (hM : ∀ g, w.heap.size ≤ g → M g) {r : Int} (hs : s_spec_l1Most a_ b = some r) :
    Gives Try.prog 131 [(.int .i64 a_), (.int .i64 b)] w (fun v w' => v = (.int .i64 r) ∧ Chg [] w w') := by
 refine calls_fr Try.func131 rfl Try.ntmps131 (Nat.le_of_ble_eq_true rfl) ?_
 have hO := Own.start (N := Nw w []) hM Nw.fut
 have hC := Chg.refl [] w
 unfold s_spec_l1Most at hs
 refine wp_mono (Q := KPost (k_spec_l1Most M w r)) ?_ (fun e a a1 h => ?_)
 rotate_left
 ·cases e
  case ret =>
   obtain ⟨σ, rfl, hrest⟩ := h
   exact ret1x Try.results131 (res_tmp rfl) ⟨rfl, hrest⟩
  all_goals exact (h : False).elim
 refine c_sr ?_
 refine pl_val (.int .i64 0) (y_assign rfl) ?_
 refine c_nil ?_
 refine c_seq ?_
 refine c_sr ?_
 refine pl_val (.int .i64 a_) (y_move rfl) ?_
 refine pl_val (.int .i64 b) (y_move rfl) ?_
 refine pl_val (.bool (decide (b < a_))) (y_gtr rfl rfl) ?_
 refine c_nil ?_
 rcases bif_some hs with ⟨a0, hs⟩ | ⟨a0, hs⟩
 ·refine c_condT (congrArg Value.bool a0) ?_
  refine c_sr ?_
  refine pl_val (.int .i64 a_) (y_move rfl) ?_
  refine pl_val (.int .i64 a_) (y_assign rfl) ?_
  refine c_nil ?_
  refine wp_ret ?_
  cases hs
  exact ⟨_, fr_ovl 10 ⟨rfl, trivial⟩, hC⟩
 refine c_condF (congrArg Value.bool a0) ?_
 refine wp_skip ?_
 refine c_sr ?_
 refine pl_val (.int .i64 b) (y_move rfl) ?_
 refine pl_val (.int .i64 b) (y_assign rfl) ?_
 refine c_nil ?_
 refine wp_ret ?_
 cases hs
 exact ⟨_, fr_ovl 10 ⟨rfl, trivial⟩, hC⟩

theorem Rw117 : RowT Try.prog 117 28 1 [(.slice none 0 0)] := ⟨Try.underlying117, ⟨_, _, rfl, rfl, rfl, rfl, by decide⟩, rfl, by decide⟩

theorem Bd131 : Bodied Try.prog 131 := bodied Try.func131 (by kernel_rfl) rfl

theorem Sl117 : SlT Try.prog 117 28 := Try.underlying117

def k_spec_l19Most (M : Nat → Prop) (w0 : World) (r : (List (List ((List Int) × (Int × (List (List Int))))))) (a : Act) (w : World) : Prop :=
  ∃ (σ : Nat → Value) (ra0 : Option Addr) (rn0 rc0 : Nat), a = fr 51 (ovl σ [(4, (.slice ra0 rn0 rc0))]) ∧ Chg [] w0 w ∧ (RT.rs (RT.rs (RT.pr (RT.rs (RT.int .i64)) (RT.pr (RT.int .i64) (RT.rs (RT.rs (RT.int .i64))))))).val (Past M w0 w) w (.slice ra0 rn0 rc0) r []
def s_spec_l19Most (vars : Int) (list : List ((List Int) × (Int × (List (List Int))))) : Option ((List (List ((List Int) × (Int × (List (List Int))))))) :=
  (mks vars ([] : List ((List Int) × (Int × (List (List Int)))))).bind fun y3 =>
  (forC (S := (List (List ((List Int) × (Int × (List (List Int))))))) (R := (List (List ((List Int) × (Int × (List (List Int))))))) (fun k116 s114 =>
  (iter (S := Int × Int) (R := (List (List ((List Int) × (Int × (List (List Int))))))) (fun s137 =>
  (idx list k116).bind fun x143 =>
  (bif (decide (s137.2 < (x143.1.length : Int))) then (idx list k116).bind fun x149 =>
  (idx x149.1 s137.2).bind fun x154 =>
  (s_spec_l1Most s137.1 x154).bind fun r157 =>
  some (.nx (r157, w64 (s137.2 + 1))) else some (.br (s137.1, s137.2)))) FU (0, 0)).bind fun o141 => after o141 (fun r_ => some (.rt r_)) (fun s137 =>
  (idx s114 s137.1).bind fun x159 =>
  (idx list k116).bind fun x163 =>
  (app x159 ([(x163.1, (x163.2.1, x163.2.2))])).bind fun y172 =>
  some (.nx (List.set s114 (Int.toNat s137.1) y172)))) 0 (list.length : Int) y3).bind fun o118 => after o118 (fun r_ => some r_) (fun s114 =>
  some s114)
set_option maxHeartbeats 4000000 in
theorem c_spec_l19Most {M : Nat → Prop} {w : World} {pa0 : Option Addr} {pn0 pc0 : Nat} (vars : Int) (list : List ((List Int) × (Int × (List (List Int))))) (h0 : (RT.rs (RT.pr (RT.rs (RT.int .i64)) (RT.pr (RT.int .i64) (RT.rs (RT.rs (RT.int .i64)))))).val M w (.slice pa0 pn0 pc0) list ([])) (hM : ∀ g, w.heap.size ≤ g → M g) {r : (List (List ((List Int) × (Int × (List (List Int))))))} (hs : s_spec_l19Most vars list = some r) :
    Gives Try.prog 102 [(.int .i64 vars), (.slice pa0 pn0 pc0)] w (fun v w' => ∃ (ra0 : Option Addr) (rn0 rc0 : Nat), v = (.slice ra0 rn0 rc0) ∧ Chg [] w w' ∧ (RT.rs (RT.rs (RT.pr (RT.rs (RT.int .i64)) (RT.pr (RT.int .i64) (RT.rs (RT.rs (RT.int .i64))))))).val (Past M w w') w' (.slice ra0 rn0 rc0) r []) := by
 refine calls_fr Try.func102 rfl Try.ntmps102 (Nat.le_of_ble_eq_true rfl) ?_
 have hO := Own.start (N := Nw w []) hM Nw.fut
 have hC := Chg.refl [] w
 unfold s_spec_l19Most at hs
 refine wp_mono (Q := KPost (k_spec_l19Most M w r)) ?_ (fun e a d9 h => ?_)
 rotate_left
 ·cases e
  case ret =>
   obtain ⟨σ, ra0, rn0, rc0, rfl, hrest⟩ := h
   exact ret1x Try.results102 (res_tmp rfl) ⟨ra0, rn0, rc0, rfl, hrest⟩
  all_goals exact (h : False).elim
 refine c_sr ?_
 refine pl_val (.slice none 0 0) (y_assign rfl) ?_
 refine c_nil ?_
 refine c_sr ?_
 refine pl_val (.int .i64 vars) (y_move rfl) ?_
 obtain ⟨y3, f4, hs⟩ := bind_some hs
 obtain ⟨a0, a1, a2, f5, f6, f7, c0, f8, c1⟩ := mk_os (M := M) (w := w) (r := (RT.os 56 (RT.pr (RT.rs (RT.int .i64)) (RT.pr (RT.int .i64) (RT.rs (RT.rs (RT.int .i64))))))) Rw117 f4 (fun _ _ => (os_unval os_nil))
 refine pl_val (w' := f5) (.slice a0 a1 a2) (y_make rfl rfl f7) ?_
 have h0 := h0.ext c0
 have hC := hC.ext c0
 have hO := hO.new c0 f8 (os_nodup c1) c1.fpl
 refine pl_val (.slice a0 a1 a2) (y_assign rfl) ?_
 refine c_nil ?_
 refine c_seq ?_
 refine c_sr ?_
 refine pl_val (.int .i64 0) (y_assign rfl) ?_
 refine c_nil ?_
 obtain ⟨o118, f9, hs⟩ := bind_some hs
 refine wp_block ?_
 refine wp_forC (id := 0) (list.length : Int) (I := fun k116 s114 a a5 => ∃ (σ : Nat → Value) (a7 : List Nat), a = fr 51 (ovl σ [(1, (.slice pa0 pn0 pc0)), (5, (.slice a0 a1 a2)), (6, (.int .i64 k116))]) ∧ Chg [] w a5 ∧ Own (Nw w []) M a5 (a7 ++ []) ∧ (RT.rs (RT.pr (RT.rs (RT.int .i64)) (RT.pr (RT.int .i64) (RT.rs (RT.rs (RT.int .i64)))))).val M a5 (.slice pa0 pn0 pc0) list ([]) ∧ (RT.os 28 (RT.os 56 (RT.pr (RT.rs (RT.int .i64)) (RT.pr (RT.int .i64) (RT.rs (RT.rs (RT.int .i64))))))).val M a5 (.slice a0 a1 a2) s114 a7) (J := fun s114 a a5 => ∃ (σ : Nat → Value) (c2 : List Nat), a = fr 51 (ovl σ [(5, (.slice a0 a1 a2))]) ∧ Chg [] w a5 ∧ Own (Nw w []) M a5 (c2 ++ []) ∧ (RT.rs (RT.pr (RT.rs (RT.int .i64)) (RT.pr (RT.int .i64) (RT.rs (RT.rs (RT.int .i64)))))).val M a5 (.slice pa0 pn0 pc0) list ([]) ∧ (RT.os 28 (RT.os 56 (RT.pr (RT.rs (RT.int .i64)) (RT.pr (RT.int .i64) (RT.rs (RT.rs (RT.int .i64))))))).val M a5 (.slice a0 a1 a2) s114 c2) (K := (k_spec_l19Most M w)) ?_ ?_ 0 y3 o118 _ _ ?_ f9 ?_
 ·rintro k116 s114 a a5 ⟨σ, a7, rfl, hC, hO, h0, a3⟩ hlt
  refine c_seq ?_
  refine c_sr ?_
  refine pl_val (.int .i64 k116) (y_move rfl) ?_
  refine pl_val (.slice pa0 pn0 pc0) (y_move rfl) ?_
  refine pl_val (.int .i64 (list.length : Int)) (y_len' Sl28 (rs_len h0) rfl) ?_
  refine pl_val (.bool (decide (k116 < (list.length : Int)))) (y_lss rfl rfl) ?_
  refine c_nil ?_
  refine c_condF (congrArg Value.bool (decide_eq_false hlt)) ?_
  refine wp_exit ?_
  exact ⟨rfl, _, a7, fr_ovl 51 ⟨rfl, trivial⟩, hC, hO, h0, a3⟩
 ·rintro k116 s114 o118 a a5 ⟨σ, a7, rfl, hC, hO, h0, a3⟩ hlt hw hs
  refine c_seq ?_
  refine c_sr ?_
  refine pl_val (.int .i64 k116) (y_move rfl) ?_
  refine pl_val (.slice pa0 pn0 pc0) (y_move rfl) ?_
  refine pl_val (.int .i64 (list.length : Int)) (y_len' Sl28 (rs_len h0) rfl) ?_
  refine pl_val (.bool (decide (k116 < (list.length : Int)))) (y_lss rfl rfl) ?_
  refine c_nil ?_
  refine c_condT (congrArg Value.bool (decide_eq_true hlt)) ?_
  refine wp_skip ?_
  refine c_seq ?_
  refine wp_block ?_
  refine c_sr ?_
  refine pl_val (.int .i64 0) (y_assign rfl) ?_
  refine c_nil ?_
  refine c_seq ?_
  refine c_sr ?_
  refine pl_val (.int .i64 0) (y_assign rfl) ?_
  refine c_nil ?_
  obtain ⟨o141, g0, hs⟩ := bind_some hs
  refine wp_block ?_
  refine wp_iter (id := 2) (I := fun s137 a a4 => ∃ (σ : Nat → Value), a = fr 51 (ovl σ [(1, (.slice pa0 pn0 pc0)), (5, (.slice a0 a1 a2)), (6, (.int .i64 k116)), (7, (.int .i64 s137.1)), (8, (.int .i64 s137.2))]) ∧ Chg [] w a4 ∧ Own (Nw w []) M a4 (a7 ++ []) ∧ (RT.rs (RT.pr (RT.rs (RT.int .i64)) (RT.pr (RT.int .i64) (RT.rs (RT.rs (RT.int .i64)))))).val M a4 (.slice pa0 pn0 pc0) list ([]) ∧ (RT.os 28 (RT.os 56 (RT.pr (RT.rs (RT.int .i64)) (RT.pr (RT.int .i64) (RT.rs (RT.rs (RT.int .i64))))))).val M a4 (.slice a0 a1 a2) s114 a7) (J := fun s137 a a4 => ∃ (σ : Nat → Value), a = fr 51 (ovl σ [(1, (.slice pa0 pn0 pc0)), (5, (.slice a0 a1 a2)), (6, (.int .i64 k116)), (7, (.int .i64 s137.1))]) ∧ Chg [] w a4 ∧ Own (Nw w []) M a4 (a7 ++ []) ∧ (RT.rs (RT.pr (RT.rs (RT.int .i64)) (RT.pr (RT.int .i64) (RT.rs (RT.rs (RT.int .i64)))))).val M a4 (.slice pa0 pn0 pc0) list ([]) ∧ (RT.os 28 (RT.os 56 (RT.pr (RT.rs (RT.int .i64)) (RT.pr (RT.int .i64) (RT.rs (RT.rs (RT.int .i64))))))).val M a4 (.slice a0 a1 a2) s114 a7) (K := (k_spec_l19Most M w)) ?_ FU (0, 0) o141 _ _ ?_ g0 ?_
  ·rintro s137 o141 a a4 ⟨σ, rfl, hC, hO, h0, a3⟩ hs
   refine c_seq ?_
   refine c_sr ?_
   refine pl_val (.int .i64 s137.2) (y_move rfl) ?_
   refine pl_val (.slice pa0 pn0 pc0) (y_move rfl) ?_
   refine pl_val (.int .i64 k116) (y_move rfl) ?_
   obtain ⟨x143, g1, hs⟩ := bind_some hs
   obtain ⟨e0, e1, g2, g3⟩ := rs_idx Sl28 Sz56 h0 g1
   refine pl_val (.pointer (some ⟨e0, e1, none⟩)) (g2 _ _ _ _ _ _ _ _ _ rfl rfl) ?_
   obtain ⟨g4, _⟩ := pr_at g3
   refine pl_val (.pointer (some ⟨e0, e1 + 0, none⟩)) (y_faddr rfl Fa56x0) ?_
   obtain ⟨m2, g5, e2⟩ := at_load Ag41 Sz41 (fun _ => rfl) g4
   obtain ⟨g6, g7, g8, rfl⟩ := rs_sl e2
   refine pl_val (.slice g6 g7 g8) (y_load rfl (g5 _ (Chg.refl _ _))) ?_
   refine pl_val (.int .i64 (x143.1.length : Int)) (y_len' Sl41 (rs_len e2) rfl) ?_
   refine pl_val (.bool (decide (s137.2 < (x143.1.length : Int)))) (y_lss rfl rfl) ?_
   refine c_nil ?_
   rcases bif_some hs with ⟨c3, hs⟩ | ⟨c3, hs⟩
   ·refine c_condT (congrArg Value.bool c3) ?_
    refine wp_skip ?_
    refine c_seq ?_
    refine wp_block ?_
    refine c_region ?_
    refine pl_val (.int .i64 s137.1) (y_move rfl) ?_
    refine pl_val (.slice pa0 pn0 pc0) (y_move rfl) ?_
    refine pl_val (.int .i64 k116) (y_move rfl) ?_
    obtain ⟨x149, g9, hs⟩ := bind_some hs
    obtain ⟨e3, e4, h1, h2⟩ := rs_idx Sl28 Sz56 h0 g9
    refine pl_val (.pointer (some ⟨e3, e4, none⟩)) (h1 _ _ _ _ _ _ _ _ _ rfl rfl) ?_
    obtain ⟨h3, _⟩ := pr_at h2
    refine pl_val (.pointer (some ⟨e3, e4 + 0, none⟩)) (y_faddr rfl Fa56x0) ?_
    obtain ⟨m3, h4, b7⟩ := at_load Ag41 Sz41 (fun _ => rfl) h3
    obtain ⟨h5, h6, h7, rfl⟩ := rs_sl b7
    refine pl_val (.slice h5 h6 h7) (y_load rfl (h4 _ (Chg.refl _ _))) ?_
    refine pl_val (.int .i64 s137.2) (y_move rfl) ?_
    obtain ⟨x154, h8, hs⟩ := bind_some hs
    obtain ⟨h9, i0, i1, i2⟩ := rs_idx Sl41 Sz3 b7 h8
    refine pl_val (.pointer (some ⟨h9, i0, none⟩)) (i1 _ _ _ _ _ _ _ _ _ rfl rfl) ?_
    refine pl_val (.int .i64 x154) (y_load rfl ((at_load_int Ag3 Sz3 i2) _ (Chg.refl _ _))) ?_
    obtain ⟨r157, i3, hs⟩ := bind_some hs
    refine pl_call Bd131 rfl (c_spec_l1Most (M := M) s137.1 x154  hO.fut i3) ?_
    rintro _ m4 ⟨rfl, b2⟩
    have h0 := h0.ext b2
    have a3 := a3.ext b2
    have b7 := b7.ext b2
    have hC := hC.ext b2
    have hO := hO.ext b2
    refine pl_val (.int .i64 r157) (y_assign rfl) ?_
    refine c_nil ?_
    refine c_region ?_
    refine pl_val (.int .i64 s137.2) (y_move rfl) ?_
    refine pl_val (.int .i64 (w64 (s137.2 + 1))) (y_add rfl rfl) ?_
    refine pl_val (.int .i64 (w64 (s137.2 + 1))) (y_assign rfl) ?_
    refine c_nil ?_
    cases hs
    exact ⟨_, fr_ovl 51 ⟨rfl, rfl, rfl, rfl, rfl, trivial⟩, hC, hO, h0, a3⟩
   refine c_condF (congrArg Value.bool c3) ?_
   refine wp_exit ?_
   cases hs
   exact ⟨rfl, _, fr_ovl 51 ⟨rfl, rfl, rfl, rfl, trivial⟩, hC, hO, h0, a3⟩
  ·skip
   exact ⟨_, fr_ovl 51 ⟨rfl, rfl, rfl, rfl, rfl, trivial⟩, hC, hO, h0, a3⟩
  cases o141 with
  | nx _ => exact True.intro
  | rt r_ =>
   have hs := after_rt hs
   intro c4 d9 hK
   cases hs
   exact hK
  | br s137 =>
   have hs := after_br hs
   rintro c4 a4 ⟨σ, rfl, hC, hO, h0, a3⟩
   refine x_start [11, 13] Mx rfl ?_
   have b3 := Chg.drew a4
   generalize World.drew a4 = e5 at b3 ⊢
   have h0 := h0.ext b3
   have a3 := a3.ext b3
   have hC := hC.ext b3
   have hO := hO.ext b3
   have hS := Chg.refl [] e5
   refine x_p 0 (.slice a0 a1 a2) rfl (by kernel_rfl)  (fun _ => y_move rfl) (fun _ => hS) ?_
   refine x_p 1 (.int .i64 s137.1) rfl (by kernel_rfl)  (fun _ => y_move rfl) (fun _ => hS) ?_
   refine x_p 2 (.slice a0 a1 a2) rfl (by kernel_rfl)  (fun _ => y_move rfl) (fun _ => hS) ?_
   refine x_p 3 (.int .i64 s137.1) rfl (by kernel_rfl)  (fun _ => y_move rfl) (fun _ => hS) ?_
   obtain ⟨x159, c5, hs⟩ := bind_some hs
   obtain ⟨i4, m5, i5, m6, i6, i7, i9⟩ := os_idx Sl117 Sz28 a3 c5
   have j0 := own_row (Frz.os (Frz.pr (Frz.rs Frz.int) (Frz.pr Frz.int (Frz.rs (Frz.rs Frz.int))))) i7 i9
   refine x_p 4 (.pointer (some ⟨i4, 0 + Int.toNat s137.1 * 1, none⟩)) rfl (by kernel_rfl)  (fun _ => i6 _ _ _ _ _ _ _ _ _ rfl rfl) (fun _ => hS) ?_
   obtain ⟨m7, j1, hrow161, c6⟩ := at_load1 Ag28 Sz28 rfl rfl j0
   obtain ⟨c7, c8, c9, rfl⟩ := rs_sl c6
   refine x_l 5 (.slice c7 c8 c9) rfl (by kernel_rfl)  (fun w' hw' => y_load rfl (j1 w' hw')) hS ?_
   refine x_p 6 (.slice pa0 pn0 pc0) rfl (by kernel_rfl)  (fun _ => y_move rfl) (fun _ => hS) ?_
   refine x_p 7 (.int .i64 k116) rfl (by kernel_rfl)  (fun _ => y_move rfl) (fun _ => hS) ?_
   obtain ⟨x163, j2, hs⟩ := bind_some hs
   obtain ⟨j3, j4, j5, j6⟩ := rs_idx Sl28 Sz56 h0 j2
   refine x_p 8 (.pointer (some ⟨j3, j4, none⟩)) rfl (by kernel_rfl)  (fun _ => j5 _ _ _ _ _ _ _ _ _ rfl rfl) (fun _ => hS) ?_
   obtain ⟨m8, j7, j8⟩ := at_load Ag56 Sz56 (by intro h; cases h) j6
   obtain ⟨m9, rfl, j9⟩ := j8
   obtain ⟨n0, n1, rfl, k0, k1⟩ := pr_open j9
   obtain ⟨d0, d1, d2, rfl, a8⟩ := rs_rel k0
   obtain ⟨n2, n3, rfl, k2, k3⟩ := pr_open k1
   obtain rfl := int_rel k2
   obtain ⟨d3, d4, d5, rfl, a9⟩ := rs_rel k3
   refine x_l 9 (.agg #[(.slice d0 d1 d2), (.int .i64 x163.2.1), (.slice d3 d4 d5)]) rfl (by kernel_rfl)  (fun w' hw' => y_load rfl (j7 w' hw')) hS ?_
   refine x_one (i := 10) (by kernel_rfl) ?_
   obtain ⟨d6, d7, k4, e6, a6, e7⟩ := new_block e5 [(.slice d0 d1 d2), (.int .i64 x163.2.1), (.slice d3 d4 d5)] 56
   refine xk_val (w' := d6) (b := false) (.slice (some ⟨d7, 0, none⟩) 1 1) rfl  (y_bslice rfl (by rw [k4, e6]; kernel_rfl)) rfl (fun _ => hS.ext a6) ?_
   have h0 := h0.ext a6
   have a3 := a3.ext a6
   have c6 := c6.ext a6
   have hrow161 := hrow161.cn a6
   have a8 := a8.ext a6
   have a9 := a9.ext a6
   have hC := hC.ext a6
   have hO := hO.new1 a6 e6 e7.lt
   have d8 := os_of_box (r := (RT.pr (RT.rs (RT.int .i64)) (RT.pr (RT.int .i64) (RT.rs (RT.rs (RT.int .i64)))))) (M := M) (css := [[(.slice d0 d1 d2), (.int .i64 x163.2.1), (.slice d3 d4 d5)]]) (fps := [([] : List Nat)]) (xs := ([(x163.1, (x163.2.1, x163.2.2))] : List ((List Int) × (Int × (List (List Int)))))) e7 ⟨⟨_, _, _, _, rfl, rfl, (rs_unval a8), ⟨_, _, _, _, rfl, rfl, ⟨rfl, rfl⟩, (rs_unval a9)⟩⟩, trivial⟩ (Nat.le_of_ble_eq_true rfl) (List.nodup_cons.2 ⟨(fun h => nomatch h), List.nodup_nil⟩)
   have d8 : (RT.os 56 (RT.pr (RT.rs (RT.int .i64)) (RT.pr (RT.int .i64) (RT.rs (RT.rs (RT.int .i64)))))).val M d6 (.slice (some ⟨d7, 0, none⟩) 1 1) [(x163.1, (x163.2.1, x163.2.2))] [d7] := d8
   have hS := hS.ext a6
   refine x_one (i := 11) (by kernel_rfl) ?_
   have hO := hO.fr1
   obtain ⟨k5, k6, k7, n4, k8, b0⟩ := oh_take (c := [(.slice c7 c8 c9)]) i5 (os_hole a3) (idx_map_some c5) hrow161 rfl
   have hO := hO.split k8
   have e8 : (RT.os 56 (RT.pr (RT.rs (RT.int .i64)) (RT.pr (RT.int .i64) (RT.rs (RT.rs (RT.int .i64)))))).val M d6 (.slice c7 c8 c9) x159 k5 := ⟨[_], rfl, k7⟩
   obtain ⟨y172, k9, hs⟩ := bind_some hs
   have hO := hO.fr2
   have hO := hO.fr1
   obtain ⟨e9, f0, f1, l0, n5, l1, b1, l2, b8⟩ := app_os Rw28 k9 e8 d8 hO.inM (fun g hg hq => hO.apart g hq (mem_l hg))
   have b4 := os_block e8
   refine xk_val (w' := l0) (b := true) (.slice e9 f0 f1) rfl  (y_append rfl rfl (l1 _)) rfl (fun h => nomatch h) ?_
   have hO := hO.fr1
   have hO := hO.fr1
   have h0 := h0.mt b1 hO b4
   have b0 := b0.ma b1 hO b4 (fun _ e => (mem_r (mem_l (e))))
   have a8 := a8.mt b1 hO b4
   have a9 := a9.mt b1 hO b4
   have hC := hC.st b1 hO b4
   have hO := hO.eat b1 l2 (os_nodup b8) b8.fpl
   obtain ⟨f2, n6, f3, l3, l4, n7, n8⟩ := os_idx Sl117 Sz28 b0 (idx_hole c5)
   refine x_p 12 (.pointer (some ⟨f2, 0 + Int.toNat s137.1 * 1, none⟩)) rfl (by kernel_rfl)  (fun _ => l4 _ _ _ _ _ _ _ _ _ rfl rfl) (fun h => nomatch h) ?_
   refine x_one (i := 13) (by kernel_rfl) ?_
   have hO := hO.fr1
   obtain ⟨l5, l6, l7, b5, l8, b6⟩ := os_store (P := Try.prog) (y := some y172) (c' := [(.slice e9 f0 f1)]) f3 b0 l3 (fun g hg => hO.inM g (os_block b0 g (by simpa using hg))) (show (RT.hole (RT.os 56 (RT.pr (RT.rs (RT.int .i64)) (RT.pr (RT.int .i64) (RT.rs (RT.rs (RT.int .i64))))))).rel _ _ _ (some _) _ from os_unval b8) (os_nodup b8) (fun g hg hq => hO.apart g hq (mem_l hg)) (fun _ h => .inl h)
   have b9 : ∀ q ∈ [f2], q ∈ k6 := fun q hq => os_block b0 q (by rw [f3]; exact hq)
   have b6 := os_fill b6
   refine xk_skip (w' := l5) (b := true) rfl (ys_store rfl rfl (l7 _ _ rfl Sz28)) rfl (fun h => nomatch h) ?_
   have hO := hO.fr1
   have hO := hO.fr1
   have h0 := h0.mt b5 hO b9
   have a8 := a8.mt b5 hO b9
   have a9 := a9.mt b5 hO b9
   have hC := hC.st b5 hO b9
   have hO := hO.eat b5 (fun q hq => (l8 q hq).elim .inl (fun h => .inr (.inl h))) (os_nodup b6) b6.fpl
   refine x_end (by kernel_rfl) ?_
   clear hS
   refine c_region ?_
   refine pl_val (.int .i64 k116) (y_move rfl) ?_
   refine pl_val (.int .i64 (w64 (k116 + 1))) (y_add rfl rfl) ?_
   refine pl_val (.int .i64 (w64 (k116 + 1))) (y_assign rfl) ?_
   refine c_nil ?_
   cases hs
   exact ⟨_, l6, fr_ovl 51 ⟨rfl, rfl, congrArg (Value.int .i64) hw, trivial⟩, hC, hO, h0, b6⟩
 ·skip
  exact ⟨_, f6, fr_ovl 51 ⟨rfl, rfl, rfl, trivial⟩, hC, hO, h0, c1⟩
 cases o118 with
 | nx _ => exact True.intro
 | rt r_ =>
  have hs := after_rt hs
  intro c4 d9 hK
  cases hs
  exact hK
 | br s114 =>
  have hs := after_br hs
  rintro c4 a5 ⟨σ, c2, rfl, hC, hO, h0, l9⟩
  refine c_sr ?_
  refine pl_val (.slice a0 a1 a2) (y_move rfl) ?_
  refine pl_val (.slice a0 a1 a2) (y_assign rfl) ?_
  refine c_nil ?_
  refine wp_ret ?_
  cases hs
  obtain ⟨n9, o0, o1, m0, hO, m1⟩ := frz_own (Frz.os (Frz.os (Frz.pr (Frz.rs Frz.int) (Frz.pr Frz.int (Frz.rs (Frz.rs Frz.int)))))) l9 hO
  have hK := m0
  exact ⟨_, a0, a1, a2, fr_ovl 51 ⟨rfl, trivial⟩, hC, (Keeps.out hK m1)⟩

def k_spec_l1Own (M : Nat → Prop) (w0 : World) (r : (List Int)) (a : Act) (w : World) : Prop :=
  ∃ (σ : Nat → Value) (ra0 : Option Addr) (rn0 rc0 : Nat) (rf0 : List Nat), a = fr 6 (ovl σ [(2, (.slice ra0 rn0 rc0))]) ∧ Chg [] w0 w ∧ (RT.os 3 (RT.int .i64)).val M w (.slice ra0 rn0 rc0) r rf0 ∧ Own (Nw w0 []) (fun _ => True) w (rf0 ++ ([]))
def s_spec_l1Own (l : List Int) : Option ((List Int)) :=
  (app ([]) l).bind fun y5 =>
  some y5
set_option maxHeartbeats 4000000 in
theorem c_spec_l1Own {M : Nat → Prop} {w : World} {pa0 : Option Addr} {pn0 pc0 : Nat} (l : List Int) (h0 : (RT.rs (RT.int .i64)).val M w (.slice pa0 pn0 pc0) l ([])) (hM : ∀ g, w.heap.size ≤ g → M g) {r : (List Int)} (hs : s_spec_l1Own l = some r) :
    Gives Try.prog 121 [(.slice pa0 pn0 pc0)] w (fun v w' => ∃ (ra0 : Option Addr) (rn0 rc0 : Nat) (rf0 : List Nat), v = (.slice ra0 rn0 rc0) ∧ Chg [] w w' ∧ (RT.os 3 (RT.int .i64)).val M w' (.slice ra0 rn0 rc0) r rf0 ∧ Own (Nw w []) (fun _ => True) w' (rf0 ++ ([]))) := by
 refine calls_fr Try.func121 rfl Try.ntmps121 (Nat.le_of_ble_eq_true rfl) ?_
 have hO := Own.start (N := Nw w []) hM Nw.fut
 have hC := Chg.refl [] w
 unfold s_spec_l1Own at hs
 refine wp_mono (Q := KPost (k_spec_l1Own M w r)) ?_ (fun e a b8 h => ?_)
 rotate_left
 ·cases e
  case ret =>
   obtain ⟨σ, ra0, rn0, rc0, rf0, rfl, hrest⟩ := h
   exact ret1x Try.results121 (res_tmp rfl) ⟨ra0, rn0, rc0, rf0, rfl, hrest⟩
  all_goals exact (h : False).elim
 refine c_sr ?_
 refine pl_val (.slice none 0 0) (y_assign rfl) ?_
 refine c_nil ?_
 refine c_sr ?_
 obtain ⟨a8, a1, b2, a9, a2, b0⟩ := new_block w [] 3
 refine pl_val (w' := a8) (.slice (some ⟨a1, 0, none⟩) 0 0) (y_bslice rfl (by rw [b2, a9]; kernel_rfl)) ?_
 have h0 := h0.ext a2
 have hC := hC.ext a2
 have hO := hO.new1 a2 a9 b0.lt
 have a0 := os_of_box (r := (RT.int .i64)) (M := M) (css := []) (fps := []) (xs := ([] : List Int)) b0 trivial (Nat.zero_le _) (List.nodup_cons.2 ⟨(fun h => nomatch h), List.nodup_nil⟩)
 have a0 : (RT.os 3 (RT.int .i64)).val M a8 (.slice (some ⟨a1, 0, none⟩) 0 0) [] [a1] := a0
 refine pl_val (.slice pa0 pn0 pc0) (y_move rfl) ?_
 obtain ⟨y5, b3, hs⟩ := bind_some hs
 obtain ⟨a3, a4, a5, b4, b5, b6, a6, b7, a7⟩ := app_rs Rw41 b3 a0 h0 hO.inM
 have b1 := os_block a0
 refine pl_val (w' := b4) (.slice a3 a4 a5) (y_append rfl rfl (b6 _)) ?_
 have h0 := h0.mt a6 hO b1
 have hC := hC.st a6 hO b1
 have hO := hO.grow a6 b7 (os_nodup a7) a7.fpl
 refine pl_val (.slice a3 a4 a5) (y_assign rfl) ?_
 refine c_nil ?_
 refine wp_ret ?_
 cases hs
 exact ⟨_, a3, a4, a5, b5, fr_ovl 6 ⟨rfl, trivial⟩, hC, a7, hO.top⟩

end Go.Proofs
