/- What functions of the program compute, as plain functions, and that a call gives just that. Conditions: those named in each theorem. -/
import Derived.Test.YtbicnacclhhlkaaGPtr
import Derived.Test.YtbicnacclhhlkaaRows
set_option linter.unusedVariables false
namespace Go.Proofs
open Go.G Go.RowKit
set_option maxRecDepth 100000

theorem Sl41 : SlT Try.prog 41 3 := Try.underlying41

def k_laws_szIntS (M : Nat → Prop) (w0 : World) (r : Int) (a : Act) (w : World) : Prop :=
  ∃ (σ : Nat → Value) , a = fr 12 (ovl σ [(4, (.int .i64 r))]) ∧ Chg [] w0 w
def s_laws_szIntS (a_ : List Int) (left : Int) : Option (Int) :=
  (bif (decide ((w64 (left - (a_.length : Int))) < 0)) then some (-1) else some (w64 (left - (a_.length : Int))))
set_option maxHeartbeats 4000000 in
theorem c_laws_szIntS {M : Nat → Prop} {w : World} {pa0 : Option Addr} {pn0 pc0 : Nat} (a_ : List Int) (left : Int) (h0 : (RT.rs (RT.int .i64)).val M w (.slice pa0 pn0 pc0) a_ ([])) (hM : ∀ g, w.heap.size ≤ g → M g) {r : Int} (hs : s_laws_szIntS a_ left = some r) :
    Gives Try.prog 74 [(.slice pa0 pn0 pc0), (.int .i64 left)] w (fun v w' => v = (.int .i64 r) ∧ Chg [] w w') := by
 refine calls_fr Try.func74 rfl Try.ntmps74 (Nat.le_of_ble_eq_true rfl) ?_
 have hO := Own.start (N := Nw w []) hM Nw.fut
 have hC := Chg.refl [] w
 unfold s_laws_szIntS at hs
 refine wp_mono (Q := KPost (k_laws_szIntS M w r)) ?_ (fun e a a1 h => ?_)
 rotate_left
 ·cases e
  case ret =>
   obtain ⟨σ, rfl, hrest⟩ := h
   exact ret1x Try.results74 (res_tmp rfl) ⟨rfl, hrest⟩
  all_goals exact (h : False).elim
 refine c_sr ?_
 refine pl_val (.int .i64 0) (y_assign rfl) ?_
 refine c_nil ?_
 refine c_sr ?_
 refine pl_val (.int .i64 left) (y_move rfl) ?_
 refine pl_val (.slice pa0 pn0 pc0) (y_move rfl) ?_
 refine pl_val (.int .i64 (a_.length : Int)) (y_len' Sl41 (rs_len h0) rfl) ?_
 refine pl_val (.int .i64 (w64 (left - (a_.length : Int)))) (y_sub rfl rfl) ?_
 refine pl_val (.int .i64 (w64 (left - (a_.length : Int)))) (y_assign rfl) ?_
 refine c_nil ?_
 refine c_seq ?_
 refine c_sr ?_
 refine pl_val (.int .i64 (w64 (left - (a_.length : Int)))) (y_move rfl) ?_
 refine pl_val (.bool (decide ((w64 (left - (a_.length : Int))) < 0))) (y_lss rfl rfl) ?_
 refine c_nil ?_
 rcases bif_some hs with ⟨a0, hs⟩ | ⟨a0, hs⟩
 ·refine c_condT (congrArg Value.bool a0) ?_
  refine c_sr ?_
  refine pl_val (.int .i64 (-1)) (y_assign rfl) ?_
  refine c_nil ?_
  refine wp_ret ?_
  cases hs
  exact ⟨_, fr_ovl 12 ⟨rfl, trivial⟩, hC⟩
 refine c_condF (congrArg Value.bool a0) ?_
 refine wp_skip ?_
 refine c_sr ?_
 refine pl_val (.int .i64 (w64 (left - (a_.length : Int)))) (y_move rfl) ?_
 refine pl_val (.int .i64 (w64 (left - (a_.length : Int)))) (y_assign rfl) ?_
 refine c_nil ?_
 refine wp_ret ?_
 cases hs
 exact ⟨_, fr_ovl 12 ⟨rfl, trivial⟩, hC⟩

theorem Sl47 : SlT Try.prog 47 41 := Try.underlying47

theorem Sz41 : SzT Try.prog 41 1 := ⟨_, rfl, rfl⟩

theorem Ag41 : AggT Try.prog 41 false := fun _ => by kernel_rfl

theorem Bd74 : Bodied Try.prog 74 := bodied Try.func74 (by kernel_rfl) rfl

def k_laws_szIntSS (M : Nat → Prop) (w0 : World) (r : Int) (a : Act) (w : World) : Prop :=
  ∃ (σ : Nat → Value) , a = fr 27 (ovl σ [(4, (.int .i64 r))]) ∧ Chg [] w0 w
def s_laws_szIntSS (a_ : List (List Int)) (left : Int) : Option (Int) :=
  (bif (decide ((w64 (left - (a_.length : Int))) < 0)) then some (-1) else (forC (S := Int) (R := Int) (fun k12 s10 =>
  (idx a_ k12).bind fun x16 =>
  (s_laws_szIntS x16 s10).bind fun r21 =>
  (bif (decide (r21 < 0)) then some (.rt (-1)) else some (.nx r21))) 0 (a_.length : Int) (w64 (left - (a_.length : Int)))).bind fun o14 => after o14 (fun r_ => some r_) (fun s10 =>
  some s10))
set_option maxHeartbeats 4000000 in
theorem c_laws_szIntSS {M : Nat → Prop} {w : World} {pa0 : Option Addr} {pn0 pc0 : Nat} (a_ : List (List Int)) (left : Int) (h0 : (RT.rs (RT.rs (RT.int .i64))).val M w (.slice pa0 pn0 pc0) a_ ([])) (hM : ∀ g, w.heap.size ≤ g → M g) {r : Int} (hs : s_laws_szIntSS a_ left = some r) :
    Gives Try.prog 106 [(.slice pa0 pn0 pc0), (.int .i64 left)] w (fun v w' => v = (.int .i64 r) ∧ Chg [] w w') := by
 refine calls_fr Try.func106 rfl Try.ntmps106 (Nat.le_of_ble_eq_true rfl) ?_
 have hO := Own.start (N := Nw w []) hM Nw.fut
 have hC := Chg.refl [] w
 unfold s_laws_szIntSS at hs
 refine wp_mono (Q := KPost (k_laws_szIntSS M w r)) ?_ (fun e a a5 h => ?_)
 rotate_left
 ·cases e
  case ret =>
   obtain ⟨σ, rfl, hrest⟩ := h
   exact ret1x Try.results106 (res_tmp rfl) ⟨rfl, hrest⟩
  all_goals exact (h : False).elim
 refine c_sr ?_
 refine pl_val (.int .i64 0) (y_assign rfl) ?_
 refine c_nil ?_
 refine c_sr ?_
 refine pl_val (.int .i64 left) (y_move rfl) ?_
 refine pl_val (.slice pa0 pn0 pc0) (y_move rfl) ?_
 refine pl_val (.int .i64 (a_.length : Int)) (y_len' Sl47 (rs_len h0) rfl) ?_
 refine pl_val (.int .i64 (w64 (left - (a_.length : Int)))) (y_sub rfl rfl) ?_
 refine pl_val (.int .i64 (w64 (left - (a_.length : Int)))) (y_assign rfl) ?_
 refine c_nil ?_
 refine c_seq ?_
 refine c_sr ?_
 refine pl_val (.int .i64 (w64 (left - (a_.length : Int)))) (y_move rfl) ?_
 refine pl_val (.bool (decide ((w64 (left - (a_.length : Int))) < 0))) (y_lss rfl rfl) ?_
 refine c_nil ?_
 rcases bif_some hs with ⟨a3, hs⟩ | ⟨a3, hs⟩
 ·refine c_condT (congrArg Value.bool a3) ?_
  refine c_sr ?_
  refine pl_val (.int .i64 (-1)) (y_assign rfl) ?_
  refine c_nil ?_
  refine wp_ret ?_
  cases hs
  exact ⟨_, fr_ovl 27 ⟨rfl, trivial⟩, hC⟩
 refine c_condF (congrArg Value.bool a3) ?_
 refine wp_skip ?_
 refine c_seq ?_
 refine c_sr ?_
 refine pl_val (.int .i64 0) (y_assign rfl) ?_
 refine c_nil ?_
 obtain ⟨o14, a6, hs⟩ := bind_some hs
 refine wp_block ?_
 refine wp_forC (id := 0) (a_.length : Int) (I := fun k12 s10 a a0 => ∃ (σ : Nat → Value), a = fr 27 (ovl σ [(0, (.slice pa0 pn0 pc0)), (1, (.int .i64 s10)), (5, (.int .i64 k12))]) ∧ Chg [] w a0 ∧ Own (Nw w []) M a0 ([]) ∧ (RT.rs (RT.rs (RT.int .i64))).val M a0 (.slice pa0 pn0 pc0) a_ ([])) (J := fun s10 a a0 => ∃ (σ : Nat → Value), a = fr 27 (ovl σ [(1, (.int .i64 s10))]) ∧ Chg [] w a0 ∧ Own (Nw w []) M a0 ([]) ∧ (RT.rs (RT.rs (RT.int .i64))).val M a0 (.slice pa0 pn0 pc0) a_ ([])) (K := (k_laws_szIntSS M w)) ?_ ?_ 0 (w64 (left - (a_.length : Int))) o14 _ _ ?_ a6 ?_
 ·rintro k12 s10 a a0 ⟨σ, rfl, hC, hO, h0⟩ hlt
  refine c_seq ?_
  refine c_sr ?_
  refine pl_val (.int .i64 k12) (y_move rfl) ?_
  refine pl_val (.slice pa0 pn0 pc0) (y_move rfl) ?_
  refine pl_val (.int .i64 (a_.length : Int)) (y_len' Sl47 (rs_len h0) rfl) ?_
  refine pl_val (.bool (decide (k12 < (a_.length : Int)))) (y_lss rfl rfl) ?_
  refine c_nil ?_
  refine c_condF (congrArg Value.bool (decide_eq_false hlt)) ?_
  refine wp_exit ?_
  exact ⟨rfl, _, fr_ovl 27 ⟨rfl, trivial⟩, hC, hO, h0⟩
 ·rintro k12 s10 o14 a a0 ⟨σ, rfl, hC, hO, h0⟩ hlt hw hs
  refine c_seq ?_
  refine c_sr ?_
  refine pl_val (.int .i64 k12) (y_move rfl) ?_
  refine pl_val (.slice pa0 pn0 pc0) (y_move rfl) ?_
  refine pl_val (.int .i64 (a_.length : Int)) (y_len' Sl47 (rs_len h0) rfl) ?_
  refine pl_val (.bool (decide (k12 < (a_.length : Int)))) (y_lss rfl rfl) ?_
  refine c_nil ?_
  refine c_condT (congrArg Value.bool (decide_eq_true hlt)) ?_
  refine wp_skip ?_
  refine c_seq ?_
  refine wp_block ?_
  refine c_sr ?_
  refine pl_val (.slice pa0 pn0 pc0) (y_move rfl) ?_
  refine pl_val (.int .i64 k12) (y_move rfl) ?_
  obtain ⟨x16, a7, hs⟩ := bind_some hs
  obtain ⟨a8, a9, b0, b1⟩ := rs_idx Sl47 Sz41 h0 a7
  refine pl_val (.pointer (some ⟨a8, a9, none⟩)) (b0 _ _ _ _ _ _ _ _ _ rfl rfl) ?_
  obtain ⟨b8, b2, a1⟩ := at_load Ag41 Sz41 (fun _ => rfl) b1
  obtain ⟨b3, b4, b5, rfl⟩ := rs_sl a1
  refine pl_val (.slice b3 b4 b5) (y_load rfl (b2 _ (Chg.refl _ _))) ?_
  refine pl_val (.int .i64 s10) (y_move rfl) ?_
  obtain ⟨r21, b6, hs⟩ := bind_some hs
  refine pl_call Bd74 rfl (c_laws_szIntS (M := M) x16 s10 a1 hO.fut b6) ?_
  rintro _ b9 ⟨rfl, a2⟩
  have h0 := h0.ext a2
  have a1 := a1.ext a2
  have hC := hC.ext a2
  have hO := hO.ext a2
  refine pl_val (.int .i64 r21) (y_assign rfl) ?_
  refine c_nil ?_
  refine c_sr ?_
  refine pl_val (.int .i64 r21) (y_move rfl) ?_
  refine pl_val (.bool (decide (r21 < 0))) (y_lss rfl rfl) ?_
  refine c_nil ?_
  rcases bif_some hs with ⟨a4, hs⟩ | ⟨a4, hs⟩
  ·refine c_condT (congrArg Value.bool a4) ?_
   refine c_sr ?_
   refine pl_val (.int .i64 (-1)) (y_assign rfl) ?_
   refine c_nil ?_
   refine wp_ret ?_
   cases hs
   exact ⟨_, fr_ovl 27 ⟨rfl, trivial⟩, hC⟩
  refine c_condF (congrArg Value.bool a4) ?_
  refine wp_skip ?_
  refine c_region ?_
  refine pl_val (.int .i64 k12) (y_move rfl) ?_
  refine pl_val (.int .i64 (w64 (k12 + 1))) (y_add rfl rfl) ?_
  refine pl_val (.int .i64 (w64 (k12 + 1))) (y_assign rfl) ?_
  refine c_nil ?_
  cases hs
  exact ⟨_, fr_ovl 27 ⟨rfl, rfl, congrArg (Value.int .i64) hw, trivial⟩, hC, hO, h0⟩
 ·skip
  exact ⟨_, fr_ovl 27 ⟨rfl, rfl, rfl, trivial⟩, hC, hO, h0⟩
 cases o14 with
 | nx _ => exact True.intro
 | rt r_ =>
  have hs := after_rt hs
  intro b7 a5 hK
  cases hs
  exact hK
 | br s10 =>
  have hs := after_br hs
  rintro b7 a0 ⟨σ, rfl, hC, hO, h0⟩
  refine c_sr ?_
  refine pl_val (.int .i64 s10) (y_move rfl) ?_
  refine pl_val (.int .i64 s10) (y_assign rfl) ?_
  refine c_nil ?_
  refine wp_ret ?_
  cases hs
  exact ⟨_, fr_ovl 27 ⟨rfl, trivial⟩, hC⟩

theorem Fa49x1 : ∀ (a : Addr) (w : World), (Instr.fieldAt 49 (.pointer (some a)) 1).run Try.prog w = .ok (.pointer (some (a.add 1))) w := fun _ _ => by kernel_rfl

theorem Ag47 : AggT Try.prog 47 false := fun _ => by kernel_rfl

theorem Sz47 : SzT Try.prog 47 1 := ⟨_, rfl, rfl⟩

theorem Bd106 : Bodied Try.prog 106 := bodied Try.func106 (by kernel_rfl) rfl

def k_laws_szRelation (M : Nat → Prop) (w0 : World) (r : Int) (a : Act) (w : World) : Prop :=
  ∃ (σ : Nat → Value) , a = fr 12 (ovl σ [(4, (.int .i64 r))]) ∧ Chg [] w0 w
def s_laws_szRelation (a_ : Int × (List (List Int))) (left : Int) : Option (Int) :=
  (s_laws_szIntSS a_.2 left).bind fun r4 =>
  (bif (decide (r4 < 0)) then some (-1) else some r4)
set_option maxHeartbeats 4000000 in
theorem c_laws_szRelation {M : Nat → Prop} {w : World} {pa0 : Option Addr} {pn0 pc0 : Nat} (a_ : Int × (List (List Int))) (left : Int) (h0 : (RT.rs (RT.rs (RT.int .i64))).val M w (.slice pa0 pn0 pc0) a_.2 ([])) (hM : ∀ g, w.heap.size ≤ g → M g) {r : Int} (hs : s_laws_szRelation a_ left = some r) :
    Gives Try.prog 55 [(.agg #[(.int .i64 a_.1), (.slice pa0 pn0 pc0)]), (.int .i64 left)] w (fun v w' => v = (.int .i64 r) ∧ Chg [] w w') := by
 refine calls_fr Try.func55 rfl Try.ntmps55 (Nat.le_of_ble_eq_true rfl) ?_
 have hO := Own.start (N := Nw w []) hM Nw.fut
 have hC := Chg.refl [] w
 unfold s_laws_szRelation at hs
 refine wp_mono (Q := KPost (k_laws_szRelation M w r)) ?_ (fun e a a9 h => ?_)
 rotate_left
 ·cases e
  case ret =>
   obtain ⟨σ, rfl, hrest⟩ := h
   exact ret1x Try.results55 (res_tmp rfl) ⟨rfl, hrest⟩
  all_goals exact (h : False).elim
 refine c_sr ?_
 obtain ⟨a6, a4, a7, a5, a2, a0⟩ := new_block w [(.int .i64 a_.1), (.slice pa0 pn0 pc0)] 49
 refine pl_val (w' := a6) (.pointer (some ⟨a4, 0, none⟩)) (y_box rfl (by rw [a7, a5]; kernel_rfl)) ?_
 have h0 := h0.ext a2
 have hC := hC.ext a2
 have hO := hO.new1 a2 a5 a0.lt
 refine pl_val (.int .i64 0) (y_assign rfl) ?_
 refine c_nil ?_
 refine c_sr ?_
 refine pl_val (.pointer (some ⟨a4, 1, none⟩)) (y_faddr rfl Fa49x1) ?_
 refine pl_val (.slice pa0 pn0 pc0) (y_load rfl ((box_load Ag47 Sz47 a0 [(.int .i64 a_.1)] [(.slice pa0 pn0 pc0)] [] rfl rfl (fun _ => rfl)) _ (Chg.refl _ _))) ?_
 refine pl_val (.int .i64 left) (y_move rfl) ?_
 obtain ⟨r4, a8, hs⟩ := bind_some hs
 refine pl_call Bd106 rfl (c_laws_szIntSS (M := M) a_.2 left h0 hO.fut a8) ?_
 rintro _ b0 ⟨rfl, a1⟩
 have h0 := h0.ext a1
 have a0 := a0.cn a1
 have hC := hC.ext a1
 have hO := hO.ext a1
 refine pl_val (.int .i64 r4) (y_assign rfl) ?_
 refine c_nil ?_
 have hO := hO.drop
 refine c_seq ?_
 refine c_sr ?_
 refine pl_val (.int .i64 r4) (y_move rfl) ?_
 refine pl_val (.bool (decide (r4 < 0))) (y_lss rfl rfl) ?_
 refine c_nil ?_
 rcases bif_some hs with ⟨a3, hs⟩ | ⟨a3, hs⟩
 ·refine c_condT (congrArg Value.bool a3) ?_
  refine c_sr ?_
  refine pl_val (.int .i64 (-1)) (y_assign rfl) ?_
  refine c_nil ?_
  refine wp_ret ?_
  cases hs
  exact ⟨_, fr_ovl 12 ⟨rfl, trivial⟩, hC⟩
 refine c_condF (congrArg Value.bool a3) ?_
 refine wp_skip ?_
 refine c_sr ?_
 refine pl_val (.int .i64 r4) (y_move rfl) ?_
 refine pl_val (.int .i64 r4) (y_assign rfl) ?_
 refine c_nil ?_
 refine wp_ret ?_
 cases hs
 exact ⟨_, fr_ovl 12 ⟨rfl, trivial⟩, hC⟩

theorem Sl34 : SlT Try.prog 34 49 := Try.underlying34

theorem Sz49 : SzT Try.prog 49 2 := ⟨_, rfl, rfl⟩

theorem Ag49 : AggT Try.prog 49 true := fun _ => by kernel_rfl

theorem Bd55 : Bodied Try.prog 55 := bodied Try.func55 (by kernel_rfl) rfl

def k_laws_szRelationS (M : Nat → Prop) (w0 : World) (r : Int) (a : Act) (w : World) : Prop :=
  ∃ (σ : Nat → Value) , a = fr 27 (ovl σ [(4, (.int .i64 r))]) ∧ Chg [] w0 w
def s_laws_szRelationS (a_ : List (Int × (List (List Int)))) (left : Int) : Option (Int) :=
  (bif (decide ((w64 (left - (a_.length : Int))) < 0)) then some (-1) else (forC (S := Int) (R := Int) (fun k12 s10 =>
  (idx a_ k12).bind fun x16 =>
  (s_laws_szRelation (x16.1, x16.2) s10).bind fun r21 =>
  (bif (decide (r21 < 0)) then some (.rt (-1)) else some (.nx r21))) 0 (a_.length : Int) (w64 (left - (a_.length : Int)))).bind fun o14 => after o14 (fun r_ => some r_) (fun s10 =>
  some s10))
set_option maxHeartbeats 4000000 in
theorem c_laws_szRelationS {M : Nat → Prop} {w : World} {pa0 : Option Addr} {pn0 pc0 : Nat} (a_ : List (Int × (List (List Int)))) (left : Int) (h0 : (RT.rs (RT.pr (RT.int .i64) (RT.rs (RT.rs (RT.int .i64))))).val M w (.slice pa0 pn0 pc0) a_ ([])) (hM : ∀ g, w.heap.size ≤ g → M g) {r : Int} (hs : s_laws_szRelationS a_ left = some r) :
    Gives Try.prog 16 [(.slice pa0 pn0 pc0), (.int .i64 left)] w (fun v w' => v = (.int .i64 r) ∧ Chg [] w w') := by
 refine calls_fr Try.func16 rfl Try.ntmps16 (Nat.le_of_ble_eq_true rfl) ?_
 have hO := Own.start (N := Nw w []) hM Nw.fut
 have hC := Chg.refl [] w
 unfold s_laws_szRelationS at hs
 refine wp_mono (Q := KPost (k_laws_szRelationS M w r)) ?_ (fun e a a5 h => ?_)
 rotate_left
 ·cases e
  case ret =>
   obtain ⟨σ, rfl, hrest⟩ := h
   exact ret1x Try.results16 (res_tmp rfl) ⟨rfl, hrest⟩
  all_goals exact (h : False).elim
 refine c_sr ?_
 refine pl_val (.int .i64 0) (y_assign rfl) ?_
 refine c_nil ?_
 refine c_sr ?_
 refine pl_val (.int .i64 left) (y_move rfl) ?_
 refine pl_val (.slice pa0 pn0 pc0) (y_move rfl) ?_
 refine pl_val (.int .i64 (a_.length : Int)) (y_len' Sl34 (rs_len h0) rfl) ?_
 refine pl_val (.int .i64 (w64 (left - (a_.length : Int)))) (y_sub rfl rfl) ?_
 refine pl_val (.int .i64 (w64 (left - (a_.length : Int)))) (y_assign rfl) ?_
 refine c_nil ?_
 refine c_seq ?_
 refine c_sr ?_
 refine pl_val (.int .i64 (w64 (left - (a_.length : Int)))) (y_move rfl) ?_
 refine pl_val (.bool (decide ((w64 (left - (a_.length : Int))) < 0))) (y_lss rfl rfl) ?_
 refine c_nil ?_
 rcases bif_some hs with ⟨a2, hs⟩ | ⟨a2, hs⟩
 ·refine c_condT (congrArg Value.bool a2) ?_
  refine c_sr ?_
  refine pl_val (.int .i64 (-1)) (y_assign rfl) ?_
  refine c_nil ?_
  refine wp_ret ?_
  cases hs
  exact ⟨_, fr_ovl 27 ⟨rfl, trivial⟩, hC⟩
 refine c_condF (congrArg Value.bool a2) ?_
 refine wp_skip ?_
 refine c_seq ?_
 refine c_sr ?_
 refine pl_val (.int .i64 0) (y_assign rfl) ?_
 refine c_nil ?_
 obtain ⟨o14, a6, hs⟩ := bind_some hs
 refine wp_block ?_
 refine wp_forC (id := 0) (a_.length : Int) (I := fun k12 s10 a a0 => ∃ (σ : Nat → Value), a = fr 27 (ovl σ [(0, (.slice pa0 pn0 pc0)), (1, (.int .i64 s10)), (5, (.int .i64 k12))]) ∧ Chg [] w a0 ∧ Own (Nw w []) M a0 ([]) ∧ (RT.rs (RT.pr (RT.int .i64) (RT.rs (RT.rs (RT.int .i64))))).val M a0 (.slice pa0 pn0 pc0) a_ ([])) (J := fun s10 a a0 => ∃ (σ : Nat → Value), a = fr 27 (ovl σ [(1, (.int .i64 s10))]) ∧ Chg [] w a0 ∧ Own (Nw w []) M a0 ([]) ∧ (RT.rs (RT.pr (RT.int .i64) (RT.rs (RT.rs (RT.int .i64))))).val M a0 (.slice pa0 pn0 pc0) a_ ([])) (K := (k_laws_szRelationS M w)) ?_ ?_ 0 (w64 (left - (a_.length : Int))) o14 _ _ ?_ a6 ?_
 ·rintro k12 s10 a a0 ⟨σ, rfl, hC, hO, h0⟩ hlt
  refine c_seq ?_
  refine c_sr ?_
  refine pl_val (.int .i64 k12) (y_move rfl) ?_
  refine pl_val (.slice pa0 pn0 pc0) (y_move rfl) ?_
  refine pl_val (.int .i64 (a_.length : Int)) (y_len' Sl34 (rs_len h0) rfl) ?_
  refine pl_val (.bool (decide (k12 < (a_.length : Int)))) (y_lss rfl rfl) ?_
  refine c_nil ?_
  refine c_condF (congrArg Value.bool (decide_eq_false hlt)) ?_
  refine wp_exit ?_
  exact ⟨rfl, _, fr_ovl 27 ⟨rfl, trivial⟩, hC, hO, h0⟩
 ·rintro k12 s10 o14 a a0 ⟨σ, rfl, hC, hO, h0⟩ hlt hw hs
  refine c_seq ?_
  refine c_sr ?_
  refine pl_val (.int .i64 k12) (y_move rfl) ?_
  refine pl_val (.slice pa0 pn0 pc0) (y_move rfl) ?_
  refine pl_val (.int .i64 (a_.length : Int)) (y_len' Sl34 (rs_len h0) rfl) ?_
  refine pl_val (.bool (decide (k12 < (a_.length : Int)))) (y_lss rfl rfl) ?_
  refine c_nil ?_
  refine c_condT (congrArg Value.bool (decide_eq_true hlt)) ?_
  refine wp_skip ?_
  refine c_seq ?_
  refine wp_block ?_
  refine c_sr ?_
  refine pl_val (.slice pa0 pn0 pc0) (y_move rfl) ?_
  refine pl_val (.int .i64 k12) (y_move rfl) ?_
  obtain ⟨x16, a7, hs⟩ := bind_some hs
  obtain ⟨a8, a9, b0, b1⟩ := rs_idx Sl34 Sz49 h0 a7
  refine pl_val (.pointer (some ⟨a8, a9, none⟩)) (b0 _ _ _ _ _ _ _ _ _ rfl rfl) ?_
  obtain ⟨c2, b2, b3⟩ := at_load Ag49 Sz49 (by intro h; cases h) b1
  obtain ⟨c3, rfl, b4⟩ := b3
  obtain ⟨c4, c5, rfl, b5, b6⟩ := pr_open b4
  obtain rfl := int_rel b5
  obtain ⟨b7, b8, b9, rfl, a3⟩ := rs_rel b6
  refine pl_val (.agg #[(.int .i64 x16.1), (.slice b7 b8 b9)]) (y_load rfl (b2 _ (Chg.refl _ _))) ?_
  refine pl_val (.int .i64 s10) (y_move rfl) ?_
  obtain ⟨r21, c0, hs⟩ := bind_some hs
  refine pl_call Bd55 rfl (c_laws_szRelation (M := M) (x16.1, x16.2) s10 a3 hO.fut c0) ?_
  rintro _ c6 ⟨rfl, a1⟩
  have h0 := h0.ext a1
  have a3 := a3.ext a1
  have hC := hC.ext a1
  have hO := hO.ext a1
  refine pl_val (.int .i64 r21) (y_assign rfl) ?_
  refine c_nil ?_
  refine c_sr ?_
  refine pl_val (.int .i64 r21) (y_move rfl) ?_
  refine pl_val (.bool (decide (r21 < 0))) (y_lss rfl rfl) ?_
  refine c_nil ?_
  rcases bif_some hs with ⟨a4, hs⟩ | ⟨a4, hs⟩
  ·refine c_condT (congrArg Value.bool a4) ?_
   refine c_sr ?_
   refine pl_val (.int .i64 (-1)) (y_assign rfl) ?_
   refine c_nil ?_
   refine wp_ret ?_
   cases hs
   exact ⟨_, fr_ovl 27 ⟨rfl, trivial⟩, hC⟩
  refine c_condF (congrArg Value.bool a4) ?_
  refine wp_skip ?_
  refine c_region ?_
  refine pl_val (.int .i64 k12) (y_move rfl) ?_
  refine pl_val (.int .i64 (w64 (k12 + 1))) (y_add rfl rfl) ?_
  refine pl_val (.int .i64 (w64 (k12 + 1))) (y_assign rfl) ?_
  refine c_nil ?_
  cases hs
  exact ⟨_, fr_ovl 27 ⟨rfl, rfl, congrArg (Value.int .i64) hw, trivial⟩, hC, hO, h0⟩
 ·skip
  exact ⟨_, fr_ovl 27 ⟨rfl, rfl, rfl, trivial⟩, hC, hO, h0⟩
 cases o14 with
 | nx _ => exact True.intro
 | rt r_ =>
  have hs := after_rt hs
  intro c1 a5 hK
  cases hs
  exact hK
 | br s10 =>
  have hs := after_br hs
  rintro c1 a0 ⟨σ, rfl, hC, hO, h0⟩
  refine c_sr ?_
  refine pl_val (.int .i64 s10) (y_move rfl) ?_
  refine pl_val (.int .i64 s10) (y_assign rfl) ?_
  refine c_nil ?_
  refine wp_ret ?_
  cases hs
  exact ⟨_, fr_ovl 27 ⟨rfl, trivial⟩, hC⟩

theorem Rw41 : RowT Try.prog 41 3 1 [(.int .i64 0)] := ⟨Try.underlying41, ⟨_, _, rfl, rfl, rfl, rfl, by decide⟩, rfl, by decide⟩

theorem Sz3 : SzT Try.prog 3 1 := ⟨_, rfl, rfl⟩

theorem Ag3 : AggT Try.prog 3 false := fun _ => by kernel_rfl

def k_laws_toIntS (M : Nat → Prop) (w0 : World) (r : (List Int)) (a : Act) (w : World) : Prop :=
  ∃ (σ : Nat → Value) (ra0 : Option Addr) (rn0 rc0 : Nat) (rf0 : List Nat), a = fr 22 (ovl σ [(2, (.slice ra0 rn0 rc0))]) ∧ Chg [] w0 w ∧ (RT.os 3 (RT.int .i64)).val M w (.slice ra0 rn0 rc0) r rf0 ∧ Own (Nw w0 []) (fun _ => True) w (rf0 ++ ([]))
def s_laws_toIntS (a_ : List Int) : Option ((List Int)) :=
  (mks (a_.length : Int) (0 : Int)).bind fun y3 =>
  (forC (S := (List Int)) (R := (List Int)) (fun k18 s16 =>
  (idx a_ k18).bind fun x24 =>
  (idx s16 k18).bind fun x26 =>
  some (.nx (List.set s16 (Int.toNat k18) x24))) 0 (a_.length : Int) y3).bind fun o20 => after o20 (fun r_ => some r_) (fun s16 =>
  some s16)
set_option maxHeartbeats 4000000 in
theorem c_laws_toIntS {M : Nat → Prop} {w : World} {pa0 : Option Addr} {pn0 pc0 : Nat} (a_ : List Int) (h0 : (RT.rs (RT.int .i64)).val M w (.slice pa0 pn0 pc0) a_ ([])) (hM : ∀ g, w.heap.size ≤ g → M g) {r : (List Int)} (hs : s_laws_toIntS a_ = some r) :
    Gives Try.prog 22 [(.slice pa0 pn0 pc0)] w (fun v w' => ∃ (ra0 : Option Addr) (rn0 rc0 : Nat) (rf0 : List Nat), v = (.slice ra0 rn0 rc0) ∧ Chg [] w w' ∧ (RT.os 3 (RT.int .i64)).val M w' (.slice ra0 rn0 rc0) r rf0 ∧ Own (Nw w []) (fun _ => True) w' (rf0 ++ ([]))) := by
 refine calls_fr Try.func22 rfl Try.ntmps22 (Nat.le_of_ble_eq_true rfl) ?_
 have hO := Own.start (N := Nw w []) hM Nw.fut
 have hC := Chg.refl [] w
 unfold s_laws_toIntS at hs
 refine wp_mono (Q := KPost (k_laws_toIntS M w r)) ?_ (fun e a b4 h => ?_)
 rotate_left
 ·cases e
  case ret =>
   obtain ⟨σ, ra0, rn0, rc0, rf0, rfl, hrest⟩ := h
   exact ret1x Try.results22 (res_tmp rfl) ⟨ra0, rn0, rc0, rf0, rfl, hrest⟩
  all_goals exact (h : False).elim
 refine c_sr ?_
 refine pl_val (.slice none 0 0) (y_assign rfl) ?_
 refine c_nil ?_
 refine c_sr ?_
 refine pl_val (.slice pa0 pn0 pc0) (y_move rfl) ?_
 refine pl_val (.int .i64 (a_.length : Int)) (y_len' Sl41 (rs_len h0) rfl) ?_
 obtain ⟨y3, b5, hs⟩ := bind_some hs
 obtain ⟨a1, a2, a3, b6, b7, b8, a7, b9, a8⟩ := mk_os (M := M) (w := w) (r := (RT.int .i64)) Rw41 b5 (fun _ _ => ⟨rfl, rfl⟩)
 refine pl_val (w' := b6) (.slice a1 a2 a3) (y_make rfl rfl b8) ?_
 have h0 := h0.ext a7
 have hC := hC.ext a7
 have hO := hO.new a7 b9 (os_nodup a8) a8.fpl
 refine pl_val (.slice a1 a2 a3) (y_assign rfl) ?_
 refine c_nil ?_
 refine c_seq ?_
 refine c_sr ?_
 refine pl_val (.int .i64 0) (y_assign rfl) ?_
 refine c_nil ?_
 obtain ⟨o20, c0, hs⟩ := bind_some hs
 refine wp_block ?_
 refine wp_forC (id := 0) (a_.length : Int) (I := fun k18 s16 a a0 => ∃ (σ : Nat → Value) (a4 : List Nat), a = fr 22 (ovl σ [(0, (.slice pa0 pn0 pc0)), (3, (.slice a1 a2 a3)), (4, (.int .i64 k18))]) ∧ Chg [] w a0 ∧ Own (Nw w []) M a0 (a4 ++ []) ∧ (RT.rs (RT.int .i64)).val M a0 (.slice pa0 pn0 pc0) a_ ([]) ∧ (RT.os 3 (RT.int .i64)).val M a0 (.slice a1 a2 a3) s16 a4) (J := fun s16 a a0 => ∃ (σ : Nat → Value) (a6 : List Nat), a = fr 22 (ovl σ [(3, (.slice a1 a2 a3))]) ∧ Chg [] w a0 ∧ Own (Nw w []) M a0 (a6 ++ []) ∧ (RT.rs (RT.int .i64)).val M a0 (.slice pa0 pn0 pc0) a_ ([]) ∧ (RT.os 3 (RT.int .i64)).val M a0 (.slice a1 a2 a3) s16 a6) (K := (k_laws_toIntS M w)) ?_ ?_ 0 y3 o20 _ _ ?_ c0 ?_
 ·rintro k18 s16 a a0 ⟨σ, a4, rfl, hC, hO, h0, a5⟩ hlt
  refine c_seq ?_
  refine c_sr ?_
  refine pl_val (.int .i64 k18) (y_move rfl) ?_
  refine pl_val (.slice pa0 pn0 pc0) (y_move rfl) ?_
  refine pl_val (.int .i64 (a_.length : Int)) (y_len' Sl41 (rs_len h0) rfl) ?_
  refine pl_val (.bool (decide (k18 < (a_.length : Int)))) (y_lss rfl rfl) ?_
  refine c_nil ?_
  refine c_condF (congrArg Value.bool (decide_eq_false hlt)) ?_
  refine wp_exit ?_
  exact ⟨rfl, _, a4, fr_ovl 22 ⟨rfl, trivial⟩, hC, hO, h0, a5⟩
 ·rintro k18 s16 o20 a a0 ⟨σ, a4, rfl, hC, hO, h0, a5⟩ hlt hw hs
  refine c_seq ?_
  refine c_sr ?_
  refine pl_val (.int .i64 k18) (y_move rfl) ?_
  refine pl_val (.slice pa0 pn0 pc0) (y_move rfl) ?_
  refine pl_val (.int .i64 (a_.length : Int)) (y_len' Sl41 (rs_len h0) rfl) ?_
  refine pl_val (.bool (decide (k18 < (a_.length : Int)))) (y_lss rfl rfl) ?_
  refine c_nil ?_
  refine c_condT (congrArg Value.bool (decide_eq_true hlt)) ?_
  refine wp_skip ?_
  refine c_seq ?_
  refine wp_block ?_
  refine c_region ?_
  refine pl_val (.slice a1 a2 a3) (y_move rfl) ?_
  refine pl_val (.int .i64 k18) (y_move rfl) ?_
  refine pl_val (.slice pa0 pn0 pc0) (y_move rfl) ?_
  refine pl_val (.int .i64 k18) (y_move rfl) ?_
  obtain ⟨x24, c1, hs⟩ := bind_some hs
  obtain ⟨c2, c3, c4, c5⟩ := rs_idx Sl41 Sz3 h0 c1
  refine pl_val (.pointer (some ⟨c2, c3, none⟩)) (c4 _ _ _ _ _ _ _ _ _ rfl rfl) ?_
  refine pl_val (.int .i64 x24) (y_load rfl ((at_load_int Ag3 Sz3 c5) _ (Chg.refl _ _))) ?_
  obtain ⟨x26, c6, hs⟩ := bind_some hs
  obtain ⟨b1, d5, b2, c7, c8, d6, d7⟩ := os_idx Sl41 Sz3 a5 c6
  refine pl_val (.pointer (some ⟨b1, 0 + Int.toNat k18 * 1, none⟩)) (c8 _ _ _ _ _ _ _ _ _ rfl rfl) ?_
  obtain ⟨c9, d0, d1, a9, d2, b0⟩ := os_store (P := Try.prog) (c' := [(.int .i64 x24)]) b2 a5 c7 (fun g hg => hO.inM g (os_block a5 g (by simpa using hg))) ⟨rfl, rfl⟩ List.nodup_nil (fun _ h => nomatch h) (fun _ h => .inl h)
  have b3 : ∀ q ∈ [b1], q ∈ a4 := fun q hq => os_block a5 q (by rw [b2]; exact hq)
  refine pl_skip (w' := c9) (ys_store rfl rfl (d1 _ _ rfl Sz3)) ?_
  have h0 := h0.mt a9 hO b3
  have hC := hC.st a9 hO b3
  have hO := hO.grow a9 (fun q hq => .inl ((d2 q hq).resolve_right (fun h => nomatch h))) (os_nodup b0) b0.fpl
  refine c_nil ?_
  refine c_region ?_
  refine pl_val (.int .i64 k18) (y_move rfl) ?_
  refine pl_val (.int .i64 (w64 (k18 + 1))) (y_add rfl rfl) ?_
  refine pl_val (.int .i64 (w64 (k18 + 1))) (y_assign rfl) ?_
  refine c_nil ?_
  cases hs
  exact ⟨_, d0, fr_ovl 22 ⟨rfl, rfl, congrArg (Value.int .i64) hw, trivial⟩, hC, hO, h0, b0⟩
 ·skip
  exact ⟨_, b7, fr_ovl 22 ⟨rfl, rfl, rfl, trivial⟩, hC, hO, h0, a8⟩
 cases o20 with
 | nx _ => exact True.intro
 | rt r_ =>
  have hs := after_rt hs
  intro d3 b4 hK
  cases hs
  exact hK
 | br s16 =>
  have hs := after_br hs
  rintro d3 a0 ⟨σ, a6, rfl, hC, hO, h0, d4⟩
  refine c_sr ?_
  refine pl_val (.slice a1 a2 a3) (y_move rfl) ?_
  refine pl_val (.slice a1 a2 a3) (y_assign rfl) ?_
  refine c_nil ?_
  refine wp_ret ?_
  cases hs
  exact ⟨_, a1, a2, a3, a6, fr_ovl 22 ⟨rfl, trivial⟩, hC, d4, hO.top⟩

theorem Rw47 : RowT Try.prog 47 41 1 [(.slice none 0 0)] := ⟨Try.underlying47, ⟨_, _, rfl, rfl, rfl, rfl, by decide⟩, rfl, by decide⟩

theorem Bd22 : Bodied Try.prog 22 := bodied Try.func22 (by kernel_rfl) rfl

def k_laws_toIntSS (M : Nat → Prop) (w0 : World) (r : (List (List Int))) (a : Act) (w : World) : Prop :=
  ∃ (σ : Nat → Value) (ra0 : Option Addr) (rn0 rc0 : Nat) (rf0 : List Nat), a = fr 23 (ovl σ [(2, (.slice ra0 rn0 rc0))]) ∧ Chg [] w0 w ∧ (RT.os 41 (RT.os 3 (RT.int .i64))).val M w (.slice ra0 rn0 rc0) r rf0 ∧ Own (Nw w0 []) (fun _ => True) w (rf0 ++ ([]))
def s_laws_toIntSS (a_ : List (List Int)) : Option ((List (List Int))) :=
  (mks (a_.length : Int) ([] : List Int)).bind fun y3 =>
  (forC (S := (List (List Int))) (R := (List (List Int))) (fun k28 s26 =>
  (idx a_ k28).bind fun x34 =>
  (s_laws_toIntS x34).bind fun r39 =>
  (idx s26 k28).bind fun x41 =>
  some (.nx (List.set s26 (Int.toNat k28) r39))) 0 (a_.length : Int) y3).bind fun o30 => after o30 (fun r_ => some r_) (fun s26 =>
  some s26)
set_option maxHeartbeats 4000000 in
theorem c_laws_toIntSS {M : Nat → Prop} {w : World} {pa0 : Option Addr} {pn0 pc0 : Nat} (a_ : List (List Int)) (h0 : (RT.rs (RT.rs (RT.int .i64))).val M w (.slice pa0 pn0 pc0) a_ ([])) (hM : ∀ g, w.heap.size ≤ g → M g) {r : (List (List Int))} (hs : s_laws_toIntSS a_ = some r) :
    Gives Try.prog 109 [(.slice pa0 pn0 pc0)] w (fun v w' => ∃ (ra0 : Option Addr) (rn0 rc0 : Nat) (rf0 : List Nat), v = (.slice ra0 rn0 rc0) ∧ Chg [] w w' ∧ (RT.os 41 (RT.os 3 (RT.int .i64))).val M w' (.slice ra0 rn0 rc0) r rf0 ∧ Own (Nw w []) (fun _ => True) w' (rf0 ++ ([]))) := by
 refine calls_fr Try.func109 rfl Try.ntmps109 (Nat.le_of_ble_eq_true rfl) ?_
 have hO := Own.start (N := Nw w []) hM Nw.fut
 have hC := Chg.refl [] w
 unfold s_laws_toIntSS at hs
 refine wp_mono (Q := KPost (k_laws_toIntSS M w r)) ?_ (fun e a b7 h => ?_)
 rotate_left
 ·cases e
  case ret =>
   obtain ⟨σ, ra0, rn0, rc0, rf0, rfl, hrest⟩ := h
   exact ret1x Try.results109 (res_tmp rfl) ⟨ra0, rn0, rc0, rf0, rfl, hrest⟩
  all_goals exact (h : False).elim
 refine c_sr ?_
 refine pl_val (.slice none 0 0) (y_assign rfl) ?_
 refine c_nil ?_
 refine c_sr ?_
 refine pl_val (.slice pa0 pn0 pc0) (y_move rfl) ?_
 refine pl_val (.int .i64 (a_.length : Int)) (y_len' Sl47 (rs_len h0) rfl) ?_
 obtain ⟨y3, b8, hs⟩ := bind_some hs
 obtain ⟨a1, a2, a3, b9, c0, c1, b0, c2, b1⟩ := mk_os (M := M) (w := w) (r := (RT.os 3 (RT.int .i64))) Rw47 b8 (fun _ _ => (os_unval os_nil))
 refine pl_val (w' := b9) (.slice a1 a2 a3) (y_make rfl rfl c1) ?_
 have h0 := h0.ext b0
 have hC := hC.ext b0
 have hO := hO.new b0 c2 (os_nodup b1) b1.fpl
 refine pl_val (.slice a1 a2 a3) (y_assign rfl) ?_
 refine c_nil ?_
 refine c_seq ?_
 refine c_sr ?_
 refine pl_val (.int .i64 0) (y_assign rfl) ?_
 refine c_nil ?_
 obtain ⟨o30, c3, hs⟩ := bind_some hs
 refine wp_block ?_
 refine wp_forC (id := 0) (a_.length : Int) (I := fun k28 s26 a a0 => ∃ (σ : Nat → Value) (a4 : List Nat), a = fr 23 (ovl σ [(0, (.slice pa0 pn0 pc0)), (3, (.slice a1 a2 a3)), (4, (.int .i64 k28))]) ∧ Chg [] w a0 ∧ Own (Nw w []) M a0 (a4 ++ []) ∧ (RT.rs (RT.rs (RT.int .i64))).val M a0 (.slice pa0 pn0 pc0) a_ ([]) ∧ (RT.os 41 (RT.os 3 (RT.int .i64))).val M a0 (.slice a1 a2 a3) s26 a4) (J := fun s26 a a0 => ∃ (σ : Nat → Value) (a8 : List Nat), a = fr 23 (ovl σ [(3, (.slice a1 a2 a3))]) ∧ Chg [] w a0 ∧ Own (Nw w []) M a0 (a8 ++ []) ∧ (RT.rs (RT.rs (RT.int .i64))).val M a0 (.slice pa0 pn0 pc0) a_ ([]) ∧ (RT.os 41 (RT.os 3 (RT.int .i64))).val M a0 (.slice a1 a2 a3) s26 a8) (K := (k_laws_toIntSS M w)) ?_ ?_ 0 y3 o30 _ _ ?_ c3 ?_
 ·rintro k28 s26 a a0 ⟨σ, a4, rfl, hC, hO, h0, a5⟩ hlt
  refine c_seq ?_
  refine c_sr ?_
  refine pl_val (.int .i64 k28) (y_move rfl) ?_
  refine pl_val (.slice pa0 pn0 pc0) (y_move rfl) ?_
  refine pl_val (.int .i64 (a_.length : Int)) (y_len' Sl47 (rs_len h0) rfl) ?_
  refine pl_val (.bool (decide (k28 < (a_.length : Int)))) (y_lss rfl rfl) ?_
  refine c_nil ?_
  refine c_condF (congrArg Value.bool (decide_eq_false hlt)) ?_
  refine wp_exit ?_
  exact ⟨rfl, _, a4, fr_ovl 23 ⟨rfl, trivial⟩, hC, hO, h0, a5⟩
 ·rintro k28 s26 o30 a a0 ⟨σ, a4, rfl, hC, hO, h0, a5⟩ hlt hw hs
  refine c_seq ?_
  refine c_sr ?_
  refine pl_val (.int .i64 k28) (y_move rfl) ?_
  refine pl_val (.slice pa0 pn0 pc0) (y_move rfl) ?_
  refine pl_val (.int .i64 (a_.length : Int)) (y_len' Sl47 (rs_len h0) rfl) ?_
  refine pl_val (.bool (decide (k28 < (a_.length : Int)))) (y_lss rfl rfl) ?_
  refine c_nil ?_
  refine c_condT (congrArg Value.bool (decide_eq_true hlt)) ?_
  refine wp_skip ?_
  refine c_seq ?_
  refine wp_block ?_
  refine c_region ?_
  refine pl_val (.slice a1 a2 a3) (y_move rfl) ?_
  refine pl_val (.int .i64 k28) (y_move rfl) ?_
  refine pl_val (.slice pa0 pn0 pc0) (y_move rfl) ?_
  refine pl_val (.int .i64 k28) (y_move rfl) ?_
  obtain ⟨x34, c4, hs⟩ := bind_some hs
  obtain ⟨c5, c6, c7, c8⟩ := rs_idx Sl47 Sz41 h0 c4
  refine pl_val (.pointer (some ⟨c5, c6, none⟩)) (c7 _ _ _ _ _ _ _ _ _ rfl rfl) ?_
  obtain ⟨f0, c9, a6⟩ := at_load Ag41 Sz41 (fun _ => rfl) c8
  obtain ⟨d0, d1, d2, rfl⟩ := rs_sl a6
  refine pl_val (.slice d0 d1 d2) (y_load rfl (c9 _ (Chg.refl _ _))) ?_
  obtain ⟨r39, d3, hs⟩ := bind_some hs
  refine pl_call Bd22 rfl (c_laws_toIntS (M := M) x34 a6 hO.fut d3) ?_
  rintro _ f1 ⟨d4, d5, d6, b2, rfl, a7, d7, d8⟩
  have h0 := h0.ext a7
  have a5 := a5.ext a7
  have a6 := a6.ext a7
  have hC := hC.ext a7
  have hO := Own.join0 hO a7 d8
  have hO := hO.perm (R := b2 ++ (a4 ++ ([]))) (by simp)
  obtain ⟨x41, d9, hs⟩ := bind_some hs
  obtain ⟨b5, f2, b6, e0, e1, e2, e3⟩ := os_idx Sl47 Sz41 a5 d9
  have f3 := own_row (Frz.os Frz.int) e2 e3
  refine pl_val (.pointer (some ⟨b5, 0 + Int.toNat k28 * 1, none⟩)) (e1 _ _ _ _ _ _ _ _ _ rfl rfl) ?_
  have hO := hO.fr1
  obtain ⟨e4, e5, e6, a9, e7, b3⟩ := os_store (P := Try.prog) (c' := [(.slice d4 d5 d6)]) b6 a5 e0 (fun g hg => hO.inM g (os_block a5 g (by simpa using hg))) (os_unval d7) (hO.drop.perm (R := b2 ++ ([])) (by simp)).nd (fun g hg hq => hO.apart g hq (by simp only [List.mem_append, List.not_mem_nil, false_or, or_false] at hg ⊢; simp [hg])) (fun _ h => .inl h)
  have b4 : ∀ q ∈ [b5], q ∈ a4 := fun q hq => os_block a5 q (by rw [b6]; exact hq)
  refine pl_skip (w' := e4) (ys_store rfl rfl (e6 _ _ rfl Sz41)) ?_
  have hO := hO.fr1
  have hO := hO.fr1
  have h0 := h0.mt a9 hO b4
  have a6 := a6.mt a9 hO b4
  have hC := hC.st a9 hO b4
  have hO := hO.perm (R := a4 ++ (b2 ++ ([]))) (by simp)
  have hO := hO.eat a9 (fun q hq => (e7 q hq).elim .inl (fun h => .inr (.inl h))) (os_nodup b3) b3.fpl
  refine c_nil ?_
  refine c_region ?_
  refine pl_val (.int .i64 k28) (y_move rfl) ?_
  refine pl_val (.int .i64 (w64 (k28 + 1))) (y_add rfl rfl) ?_
  refine pl_val (.int .i64 (w64 (k28 + 1))) (y_assign rfl) ?_
  refine c_nil ?_
  cases hs
  exact ⟨_, e5, fr_ovl 23 ⟨rfl, rfl, congrArg (Value.int .i64) hw, trivial⟩, hC, hO, h0, b3⟩
 ·skip
  exact ⟨_, c0, fr_ovl 23 ⟨rfl, rfl, rfl, trivial⟩, hC, hO, h0, b1⟩
 cases o30 with
 | nx _ => exact True.intro
 | rt r_ =>
  have hs := after_rt hs
  intro e8 b7 hK
  cases hs
  exact hK
 | br s26 =>
  have hs := after_br hs
  rintro e8 a0 ⟨σ, a8, rfl, hC, hO, h0, e9⟩
  refine c_sr ?_
  refine pl_val (.slice a1 a2 a3) (y_move rfl) ?_
  refine pl_val (.slice a1 a2 a3) (y_assign rfl) ?_
  refine c_nil ?_
  refine wp_ret ?_
  cases hs
  exact ⟨_, a1, a2, a3, a8, fr_ovl 23 ⟨rfl, trivial⟩, hC, e9, hO.top⟩

theorem Ag54 : AggT Try.prog 54 true := fun _ => by kernel_rfl

theorem Sz54 : SzT Try.prog 54 2 := ⟨_, rfl, rfl⟩

theorem Fa49x0 : ∀ (a : Addr) (w : World), (Instr.fieldAt 49 (.pointer (some a)) 0).run Try.prog w = .ok (.pointer (some (a.add 0))) w := fun _ _ => by kernel_rfl

theorem Fa54x0 : ∀ (a : Addr) (w : World), (Instr.fieldAt 54 (.pointer (some a)) 0).run Try.prog w = .ok (.pointer (some (a.add 0))) w := fun _ _ => by kernel_rfl

theorem Bd109 : Bodied Try.prog 109 := bodied Try.func109 (by kernel_rfl) rfl

theorem Fa54x1 : ∀ (a : Addr) (w : World), (Instr.fieldAt 54 (.pointer (some a)) 1).run Try.prog w = .ok (.pointer (some (a.add 1))) w := fun _ _ => by kernel_rfl

def k_laws_toRelation (M : Nat → Prop) (w0 : World) (r : (Int × (List (List Int)))) (a : Act) (w : World) : Prop :=
  ∃ (σ : Nat → Value) (rg2 : Nat) (ra0 : Option Addr) (rn0 rc0 : Nat) (rf0 : List Nat), a = fr 12 (ovl σ [(2, (.pointer (some ⟨rg2, 0, none⟩)))]) ∧ BoxV w rg2 54 [(.int .i64 r.1), (.slice ra0 rn0 rc0)] ∧ Chg [] w0 w ∧ (RT.os 41 (RT.os 3 (RT.int .i64))).val M w (.slice ra0 rn0 rc0) r.2 rf0 ∧ Own (Nw w0 []) (fun _ => True) w (rf0 ++ ([]))
def s_laws_toRelation (a_ : Int × (List (List Int))) : Option ((Int × (List (List Int)))) :=
  (s_laws_toIntSS a_.2).bind fun r7 =>
  some (a_.1, r7)
set_option maxHeartbeats 4000000 in
theorem c_laws_toRelation {M : Nat → Prop} {w : World} {pa0 : Option Addr} {pn0 pc0 : Nat} (a_ : Int × (List (List Int))) (h0 : (RT.rs (RT.rs (RT.int .i64))).val M w (.slice pa0 pn0 pc0) a_.2 ([])) (hM : ∀ g, w.heap.size ≤ g → M g) {r : (Int × (List (List Int)))} (hs : s_laws_toRelation a_ = some r) :
    Gives Try.prog 59 [(.agg #[(.int .i64 a_.1), (.slice pa0 pn0 pc0)])] w (fun v w' => ∃ (ra0 : Option Addr) (rn0 rc0 : Nat) (rf0 : List Nat), v = (.agg #[(.int .i64 r.1), (.slice ra0 rn0 rc0)]) ∧ Chg [] w w' ∧ (RT.os 41 (RT.os 3 (RT.int .i64))).val M w' (.slice ra0 rn0 rc0) r.2 rf0 ∧ Own (Nw w []) (fun _ => True) w' (rf0 ++ ([]))) := by
 refine calls_fr Try.func59 rfl Try.ntmps59 (Nat.le_of_ble_eq_true rfl) ?_
 have hO := Own.start (N := Nw w []) hM Nw.fut
 have hC := Chg.refl [] w
 unfold s_laws_toRelation at hs
 refine wp_mono (Q := KPost (k_laws_toRelation M w r)) ?_ (fun e a d8 h => ?_)
 rotate_left
 ·cases e
  case ret =>
   obtain ⟨σ, rg2, ra0, rn0, rc0, rf0, rfl, hbrg2, hrest⟩ := h
   exact ret1x Try.results59 (res_cell rfl (box_load Ag54 Sz54 hbrg2 [] _ [] rfl rfl (fun h => nomatch h))) ⟨ra0, rn0, rc0, rf0, rfl, hrest⟩
  all_goals exact (h : False).elim
 refine c_sr ?_
 obtain ⟨b9, b3, c9, c0, b7, a0⟩ := new_block w [(.int .i64 a_.1), (.slice pa0 pn0 pc0)] 49
 refine pl_val (w' := b9) (.pointer (some ⟨b3, 0, none⟩)) (y_box rfl (by rw [c9, c0]; kernel_rfl)) ?_
 have h0 := h0.ext b7
 have hC := hC.ext b7
 have hO := hO.new1 b7 c0 a0.lt
 obtain ⟨c1, b4, d0, c2, b5, a1⟩ := new_block b9 [(.int .i64 0), (.slice none 0 0)] 54
 refine pl_val (w' := c1) (.pointer (some ⟨b4, 0, none⟩)) (y_alloc (by rw [d0, c2]; kernel_rfl)) ?_
 have h0 := h0.ext b5
 have a0 := a0.cn b5
 have hC := hC.ext b5
 have hO := hO.new1 b5 c2 a1.lt
 refine c_nil ?_
 refine c_sr ?_
 obtain ⟨d1, a5, d2, c3, a8, c4⟩ := new_block c1 [(.int .i64 0), (.slice none 0 0)] 54
 refine pl_val (w' := d1) (.pointer (some ⟨a5, 0, none⟩)) (y_alloc (by rw [d2, c3]; kernel_rfl)) ?_
 have h0 := h0.ext a8
 have a0 := a0.cn a8
 have a1 := a1.cn a8
 have hC := hC.ext a8
 have hO := hO.new1 a8 c3 c4.lt
 refine c_nil ?_
 refine c_sr ?_
 refine pl_val (.pointer (some ⟨b3, 0, none⟩)) (y_faddr rfl Fa49x0) ?_
 refine pl_val (.int .i64 a_.1) (y_load rfl ((box_load Ag3 Sz3 a0 [] [(.int .i64 a_.1)] [(.slice pa0 pn0 pc0)] rfl rfl (fun _ => rfl)) _ (Chg.refl _ _))) ?_
 refine pl_val (.pointer (some ⟨a5, 0, none⟩)) (y_faddr rfl Fa54x0) ?_
 obtain ⟨c5, d3, a9, b0⟩ := box_store (P := Try.prog) c4 [] [(.int .i64 0)] [(.slice none 0 0)] [(.int .i64 a_.1)] rfl rfl (by intro u hu; simp only [List.mem_cons, List.not_mem_nil, or_false] at hu; rcases hu with rfl <;> rfl)
 refine pl_skip (w' := c5) (ys_store rfl rfl (d3 _ _ rfl Sz3)) ?_
 have h0 := h0.mt a9 hO same_
 have a0 := a0.ap a9 hO same_ (mem_r (mem_l (List.mem_singleton.2 rfl)))
 have a1 := a1.ap a9 hO same_ (mem_l (List.mem_singleton.2 rfl))
 have hC := hC.st a9 hO same_
 have hO := hO.ext a9
 have b0 : BoxV c5 a5 54 [(.int .i64 a_.1), (.slice none 0 0)] := b0
 refine c_nil ?_
 refine c_sr ?_
 refine pl_val (.pointer (some ⟨b3, 1, none⟩)) (y_faddr rfl Fa49x1) ?_
 refine pl_val (.slice pa0 pn0 pc0) (y_load rfl ((box_load Ag47 Sz47 a0 [(.int .i64 a_.1)] [(.slice pa0 pn0 pc0)] [] rfl rfl (fun _ => rfl)) _ (Chg.refl _ _))) ?_
 obtain ⟨r7, d4, hs⟩ := bind_some hs
 refine pl_call Bd109 rfl (c_laws_toIntSS (M := M) a_.2 h0 hO.fut d4) ?_
 rintro _ d9 ⟨a2, a3, a4, c6, rfl, a6, b1, d5⟩
 have h0 := h0.ext a6
 have a0 := a0.cn a6
 have a1 := a1.cn a6
 have b0 := b0.cn a6
 have hC := hC.ext a6
 have hO := Own.join0 hO a6 d5
 have hO := hO.perm (R := c6 ++ (([a5]) ++ (([b4]) ++ (([b3]) ++ ([]))))) (by simp)
 refine pl_val (.pointer (some ⟨a5, 1, none⟩)) (y_faddr rfl Fa54x1) ?_
 obtain ⟨c7, d6, a7, b2⟩ := box_store (P := Try.prog) b0 [(.int .i64 a_.1)] [(.slice none 0 0)] [] [(.slice a2 a3 a4)] rfl rfl (by intro u hu; simp only [List.mem_cons, List.not_mem_nil, or_false] at hu; rcases hu with rfl <;> rfl)
 refine pl_skip (w' := c7) (ys_store rfl rfl (d6 _ _ rfl Sz47)) ?_
 have hO := hO.fr1
 have h0 := h0.mt a7 hO same_
 have a0 := a0.ap a7 hO same_ (mem_r (mem_r (mem_l (List.mem_singleton.2 rfl))))
 have a1 := a1.ap a7 hO same_ (mem_r (mem_l (List.mem_singleton.2 rfl)))
 have b1 := b1.ma a7 hO same_ (fun _ e => (mem_l (e)))
 have hC := hC.st a7 hO same_
 have hO := hO.ext a7
 have b2 : BoxV c7 a5 54 [(.int .i64 a_.1), (.slice a2 a3 a4)] := b2
 refine c_nil ?_
 have hO := hO.fr3
 have hO := hO.drop
 refine c_sr ?_
 refine pl_val (.agg #[(.int .i64 a_.1), (.slice a2 a3 a4)]) (y_load rfl ((box_load Ag54 Sz54 b2 [] [(.int .i64 a_.1), (.slice a2 a3 a4)] [] rfl rfl (fun h => nomatch h)) _ (Chg.refl _ _))) ?_
 obtain ⟨c8, d7, b6, b8⟩ := box_store (P := Try.prog) a1 [] [(.int .i64 0), (.slice none 0 0)] [] [(.int .i64 a_.1), (.slice a2 a3 a4)] rfl rfl (by intro u hu; simp only [List.mem_cons, List.not_mem_nil, or_false] at hu; rcases hu with rfl | rfl <;> rfl)
 refine pl_skip (w' := c8) (ys_store rfl rfl (d7 _ _ rfl Sz54)) ?_
 have hO := hO.fr2
 have b2 := b2.ap b6 hO same_ (mem_l (List.mem_singleton.2 rfl))
 have b1 := b1.ma b6 hO same_ (fun _ e => (mem_r (mem_l (e))))
 have hC := hC.st b6 hO same_
 have hO := hO.ext b6
 have b8 : BoxV c8 b4 54 [(.int .i64 a_.1), (.slice a2 a3 a4)] := b8
 refine c_nil ?_
 have hO := hO.fr1
 have hO := hO.drop
 refine wp_ret ?_
 cases hs
 have hO := hO.drop
 exact ⟨_, b4, a2, a3, a4, c6, fr_ovl 12 ⟨rfl, trivial⟩, b8, hC, b1, hO.top⟩

theorem Rw37 : RowT Try.prog 37 54 2 [(.int .i64 0), (.slice none 0 0)] := ⟨Try.underlying37, ⟨_, _, rfl, rfl, rfl, rfl, by decide⟩, rfl, by decide⟩

theorem Bd59 : Bodied Try.prog 59 := bodied Try.func59 (by kernel_rfl) rfl

theorem Sl37 : SlT Try.prog 37 54 := Try.underlying37

def k_laws_toRelationS (M : Nat → Prop) (w0 : World) (r : (List (Int × (List (List Int))))) (a : Act) (w : World) : Prop :=
  ∃ (σ : Nat → Value) (ra0 : Option Addr) (rn0 rc0 : Nat) (rf0 : List Nat), a = fr 23 (ovl σ [(2, (.slice ra0 rn0 rc0))]) ∧ Chg [] w0 w ∧ (RT.os 54 (RT.pr (RT.int .i64) (RT.os 41 (RT.os 3 (RT.int .i64))))).val M w (.slice ra0 rn0 rc0) r rf0 ∧ Own (Nw w0 []) (fun _ => True) w (rf0 ++ ([]))
def s_laws_toRelationS (a_ : List (Int × (List (List Int)))) : Option ((List (Int × (List (List Int))))) :=
  (mks (a_.length : Int) ((0, []) : Int × (List (List Int)))).bind fun y3 =>
  (forC (S := (List (Int × (List (List Int))))) (R := (List (Int × (List (List Int))))) (fun k28 s26 =>
  (idx a_ k28).bind fun x34 =>
  (s_laws_toRelation (x34.1, x34.2)).bind fun r39 =>
  (idx s26 k28).bind fun x41 =>
  some (.nx (List.set s26 (Int.toNat k28) (r39.1, r39.2)))) 0 (a_.length : Int) y3).bind fun o30 => after o30 (fun r_ => some r_) (fun s26 =>
  some s26)
set_option maxHeartbeats 4000000 in
theorem c_laws_toRelationS {M : Nat → Prop} {w : World} {pa0 : Option Addr} {pn0 pc0 : Nat} (a_ : List (Int × (List (List Int)))) (h0 : (RT.rs (RT.pr (RT.int .i64) (RT.rs (RT.rs (RT.int .i64))))).val M w (.slice pa0 pn0 pc0) a_ ([])) (hM : ∀ g, w.heap.size ≤ g → M g) {r : (List (Int × (List (List Int))))} (hs : s_laws_toRelationS a_ = some r) :
    Gives Try.prog 18 [(.slice pa0 pn0 pc0)] w (fun v w' => ∃ (ra0 : Option Addr) (rn0 rc0 : Nat) (rf0 : List Nat), v = (.slice ra0 rn0 rc0) ∧ Chg [] w w' ∧ (RT.os 54 (RT.pr (RT.int .i64) (RT.os 41 (RT.os 3 (RT.int .i64))))).val M w' (.slice ra0 rn0 rc0) r rf0 ∧ Own (Nw w []) (fun _ => True) w' (rf0 ++ ([]))) := by
 refine calls_fr Try.func18 rfl Try.ntmps18 (Nat.le_of_ble_eq_true rfl) ?_
 have hO := Own.start (N := Nw w []) hM Nw.fut
 have hC := Chg.refl [] w
 unfold s_laws_toRelationS at hs
 refine wp_mono (Q := KPost (k_laws_toRelationS M w r)) ?_ (fun e a b7 h => ?_)
 rotate_left
 ·cases e
  case ret =>
   obtain ⟨σ, ra0, rn0, rc0, rf0, rfl, hrest⟩ := h
   exact ret1x Try.results18 (res_tmp rfl) ⟨ra0, rn0, rc0, rf0, rfl, hrest⟩
  all_goals exact (h : False).elim
 refine c_sr ?_
 refine pl_val (.slice none 0 0) (y_assign rfl) ?_
 refine c_nil ?_
 refine c_sr ?_
 refine pl_val (.slice pa0 pn0 pc0) (y_move rfl) ?_
 refine pl_val (.int .i64 (a_.length : Int)) (y_len' Sl34 (rs_len h0) rfl) ?_
 obtain ⟨y3, b8, hs⟩ := bind_some hs
 obtain ⟨a1, a2, a3, b9, c0, c1, b0, c2, b1⟩ := mk_os (M := M) (w := w) (r := (RT.pr (RT.int .i64) (RT.os 41 (RT.os 3 (RT.int .i64))))) Rw37 b8 (fun _ _ => ⟨_, _, [], [], rfl, rfl, ⟨rfl, rfl⟩, (os_unval os_nil)⟩)
 refine pl_val (w' := b9) (.slice a1 a2 a3) (y_make rfl rfl c1) ?_
 have h0 := h0.ext b0
 have hC := hC.ext b0
 have hO := hO.new b0 c2 (os_nodup b1) b1.fpl
 refine pl_val (.slice a1 a2 a3) (y_assign rfl) ?_
 refine c_nil ?_
 refine c_seq ?_
 refine c_sr ?_
 refine pl_val (.int .i64 0) (y_assign rfl) ?_
 refine c_nil ?_
 obtain ⟨o30, c3, hs⟩ := bind_some hs
 refine wp_block ?_
 refine wp_forC (id := 0) (a_.length : Int) (I := fun k28 s26 a a0 => ∃ (σ : Nat → Value) (a4 : List Nat), a = fr 23 (ovl σ [(0, (.slice pa0 pn0 pc0)), (3, (.slice a1 a2 a3)), (4, (.int .i64 k28))]) ∧ Chg [] w a0 ∧ Own (Nw w []) M a0 (a4 ++ []) ∧ (RT.rs (RT.pr (RT.int .i64) (RT.rs (RT.rs (RT.int .i64))))).val M a0 (.slice pa0 pn0 pc0) a_ ([]) ∧ (RT.os 54 (RT.pr (RT.int .i64) (RT.os 41 (RT.os 3 (RT.int .i64))))).val M a0 (.slice a1 a2 a3) s26 a4) (J := fun s26 a a0 => ∃ (σ : Nat → Value) (a8 : List Nat), a = fr 23 (ovl σ [(3, (.slice a1 a2 a3))]) ∧ Chg [] w a0 ∧ Own (Nw w []) M a0 (a8 ++ []) ∧ (RT.rs (RT.pr (RT.int .i64) (RT.rs (RT.rs (RT.int .i64))))).val M a0 (.slice pa0 pn0 pc0) a_ ([]) ∧ (RT.os 54 (RT.pr (RT.int .i64) (RT.os 41 (RT.os 3 (RT.int .i64))))).val M a0 (.slice a1 a2 a3) s26 a8) (K := (k_laws_toRelationS M w)) ?_ ?_ 0 y3 o30 _ _ ?_ c3 ?_
 ·rintro k28 s26 a a0 ⟨σ, a4, rfl, hC, hO, h0, a5⟩ hlt
  refine c_seq ?_
  refine c_sr ?_
  refine pl_val (.int .i64 k28) (y_move rfl) ?_
  refine pl_val (.slice pa0 pn0 pc0) (y_move rfl) ?_
  refine pl_val (.int .i64 (a_.length : Int)) (y_len' Sl34 (rs_len h0) rfl) ?_
  refine pl_val (.bool (decide (k28 < (a_.length : Int)))) (y_lss rfl rfl) ?_
  refine c_nil ?_
  refine c_condF (congrArg Value.bool (decide_eq_false hlt)) ?_
  refine wp_exit ?_
  exact ⟨rfl, _, a4, fr_ovl 23 ⟨rfl, trivial⟩, hC, hO, h0, a5⟩
 ·rintro k28 s26 o30 a a0 ⟨σ, a4, rfl, hC, hO, h0, a5⟩ hlt hw hs
  refine c_seq ?_
  refine c_sr ?_
  refine pl_val (.int .i64 k28) (y_move rfl) ?_
  refine pl_val (.slice pa0 pn0 pc0) (y_move rfl) ?_
  refine pl_val (.int .i64 (a_.length : Int)) (y_len' Sl34 (rs_len h0) rfl) ?_
  refine pl_val (.bool (decide (k28 < (a_.length : Int)))) (y_lss rfl rfl) ?_
  refine c_nil ?_
  refine c_condT (congrArg Value.bool (decide_eq_true hlt)) ?_
  refine wp_skip ?_
  refine c_seq ?_
  refine wp_block ?_
  refine c_region ?_
  refine pl_val (.slice a1 a2 a3) (y_move rfl) ?_
  refine pl_val (.int .i64 k28) (y_move rfl) ?_
  refine pl_val (.slice pa0 pn0 pc0) (y_move rfl) ?_
  refine pl_val (.int .i64 k28) (y_move rfl) ?_
  obtain ⟨x34, c4, hs⟩ := bind_some hs
  obtain ⟨c5, c6, c7, c8⟩ := rs_idx Sl34 Sz49 h0 c4
  refine pl_val (.pointer (some ⟨c5, c6, none⟩)) (c7 _ _ _ _ _ _ _ _ _ rfl rfl) ?_
  obtain ⟨f4, c9, d0⟩ := at_load Ag49 Sz49 (by intro h; cases h) c8
  obtain ⟨f5, rfl, d1⟩ := d0
  obtain ⟨f6, f7, rfl, d2, d3⟩ := pr_open d1
  obtain rfl := int_rel d2
  obtain ⟨d4, d5, d6, rfl, a6⟩ := rs_rel d3
  refine pl_val (.agg #[(.int .i64 x34.1), (.slice d4 d5 d6)]) (y_load rfl (c9 _ (Chg.refl _ _))) ?_
  obtain ⟨r39, d7, hs⟩ := bind_some hs
  refine pl_call Bd59 rfl (c_laws_toRelation (M := M) (x34.1, x34.2) a6 hO.fut d7) ?_
  rintro _ f8 ⟨d8, d9, e0, b2, rfl, a7, e1, e2⟩
  have h0 := h0.ext a7
  have a5 := a5.ext a7
  have a6 := a6.ext a7
  have hC := hC.ext a7
  have hO := Own.join0 hO a7 e2
  have hO := hO.perm (R := b2 ++ (a4 ++ ([]))) (by simp)
  obtain ⟨x41, e3, hs⟩ := bind_some hs
  obtain ⟨b5, f9, b6, e4, e5, e6, e7⟩ := os_idx Sl37 Sz54 a5 e3
  have g0 := own_row (Frz.pr Frz.int (Frz.os (Frz.os Frz.int))) e6 e7
  refine pl_val (.pointer (some ⟨b5, 0 + Int.toNat k28 * 2, none⟩)) (e5 _ _ _ _ _ _ _ _ _ rfl rfl) ?_
  have hO := hO.fr1
  obtain ⟨e8, e9, f0, a9, f1, b3⟩ := os_store (P := Try.prog) (c' := [(.int .i64 r39.1), (.slice d8 d9 e0)]) b6 a5 e4 (fun g hg => hO.inM g (os_block a5 g (by simpa using hg))) ⟨_, _, _, _, rfl, rfl, ⟨rfl, rfl⟩, (os_unval e1)⟩ (hO.drop.perm (R := (([] : List Nat) ++ b2) ++ ([])) (by simp)).nd (fun g hg hq => hO.apart g hq (by simp only [List.mem_append, List.not_mem_nil, false_or, or_false] at hg ⊢; simp [hg])) (fun _ h => .inl h)
  have b4 : ∀ q ∈ [b5], q ∈ a4 := fun q hq => os_block a5 q (by rw [b6]; exact hq)
  refine pl_skip (w' := e8) (ys_store rfl rfl (f0 _ _ rfl Sz54)) ?_
  have hO := hO.fr1
  have hO := hO.fr1
  have h0 := h0.mt a9 hO b4
  have a6 := a6.mt a9 hO b4
  have hC := hC.st a9 hO b4
  have hO := hO.perm (R := a4 ++ ((([] : List Nat) ++ b2) ++ ([]))) (by simp)
  have hO := hO.eat a9 (fun q hq => (f1 q hq).elim .inl (fun h => .inr (.inl h))) (os_nodup b3) b3.fpl
  refine c_nil ?_
  refine c_region ?_
  refine pl_val (.int .i64 k28) (y_move rfl) ?_
  refine pl_val (.int .i64 (w64 (k28 + 1))) (y_add rfl rfl) ?_
  refine pl_val (.int .i64 (w64 (k28 + 1))) (y_assign rfl) ?_
  refine c_nil ?_
  cases hs
  exact ⟨_, e9, fr_ovl 23 ⟨rfl, rfl, congrArg (Value.int .i64) hw, trivial⟩, hC, hO, h0, b3⟩
 ·skip
  exact ⟨_, c0, fr_ovl 23 ⟨rfl, rfl, rfl, trivial⟩, hC, hO, h0, b1⟩
 cases o30 with
 | nx _ => exact True.intro
 | rt r_ =>
  have hs := after_rt hs
  intro f2 b7 hK
  cases hs
  exact hK
 | br s26 =>
  have hs := after_br hs
  rintro f2 a0 ⟨σ, a8, rfl, hC, hO, h0, f3⟩
  refine c_sr ?_
  refine pl_val (.slice a1 a2 a3) (y_move rfl) ?_
  refine pl_val (.slice a1 a2 a3) (y_assign rfl) ?_
  refine c_nil ?_
  refine wp_ret ?_
  cases hs
  exact ⟨_, a1, a2, a3, a8, fr_ovl 23 ⟨rfl, trivial⟩, hC, f3, hO.top⟩

def k_spec_l1In (M : Nat → Prop) (w0 : World) (r : Bool) (a : Act) (w : World) : Prop :=
  ∃ (σ : Nat → Value) , a = fr 15 (ovl σ [(6, (.bool r))]) ∧ Chg [] w0 w
def s_spec_l1In (x_ : Int) (a_ : Int) (b : Int) : Option (Bool) :=
  (bif (decide (a_ ≤ x_)) then some (decide (x_ ≤ b)) else some false)
set_option maxHeartbeats 4000000 in
theorem c_spec_l1In {M : Nat → Prop} {w : World}  (x_ : Int) (a_ : Int) (b : Int)  (hM : ∀ g, w.heap.size ≤ g → M g) {r : Bool} (hs : s_spec_l1In x_ a_ b = some r) :
    Gives Try.prog 100 [(.int .i64 x_), (.int .i64 a_), (.int .i64 b)] w (fun v w' => v = (.bool r) ∧ Chg [] w w') := by
 refine calls_fr Try.func100 rfl Try.ntmps100 (Nat.le_of_ble_eq_true rfl) ?_
 have hO := Own.start (N := Nw w []) hM Nw.fut
 have hC := Chg.refl [] w
 unfold s_spec_l1In at hs
 refine wp_mono (Q := KPost (k_spec_l1In M w r)) ?_ (fun e a a1 h => ?_)
 rotate_left
 ·cases e
  case ret =>
   obtain ⟨σ, rfl, hrest⟩ := h
   exact ret1x Try.results100 (res_tmp rfl) ⟨rfl, hrest⟩
  all_goals exact (h : False).elim
 refine c_sr ?_
 refine pl_val (.bool false) (y_assign rfl) ?_
 refine c_nil ?_
 refine c_sr ?_
 refine pl_val (.int .i64 x_) (y_move rfl) ?_
 refine pl_val (.int .i64 a_) (y_move rfl) ?_
 refine pl_val (.bool (decide (a_ ≤ x_))) (y_geq rfl rfl) ?_
 refine pl_val (.bool (decide (a_ ≤ x_))) (y_move rfl) ?_
 rcases bif_some hs with ⟨a0, hs⟩ | ⟨a0, hs⟩
 ·skip
  refine pl_yes (.int .i64 x_) (tg := 10) (by kernel_rfl) (congrArg Value.bool a0) (y_move rfl) ?_
  refine pl_yes (.int .i64 b) (tg := 10) (by kernel_rfl) (congrArg Value.bool a0) (y_move rfl) ?_
  refine pl_yes (.bool (decide (x_ ≤ b))) (tg := 10) (by kernel_rfl) (congrArg Value.bool a0) (y_leq rfl rfl) ?_
  refine pl_val (.bool (decide (x_ ≤ b))) (y_pick_t (congrArg Value.bool a0) rfl) ?_
  refine pl_val (.bool (decide (x_ ≤ b))) (y_assign rfl) ?_
  refine c_nil ?_
  refine wp_ret ?_
  cases hs
  exact ⟨_, fr_ovl 15 ⟨rfl, trivial⟩, hC⟩
 refine pl_not (tg := 10) (by kernel_rfl) (congrArg Value.bool a0) ?_
 refine pl_not (tg := 10) (by kernel_rfl) (congrArg Value.bool a0) ?_
 refine pl_not (tg := 10) (by kernel_rfl) (congrArg Value.bool a0) ?_
 refine pl_val (.bool false) (y_pick_f (congrArg Value.bool a0) rfl) ?_
 refine pl_val (.bool false) (y_assign rfl) ?_
 refine c_nil ?_
 refine wp_ret ?_
 cases hs
 exact ⟨_, fr_ovl 15 ⟨rfl, trivial⟩, hC⟩

theorem Bd100 : Bodied Try.prog 100 := bodied Try.func100 (by kernel_rfl) rfl

def k_spec_l14Size (M : Nat → Prop) (w0 : World) (r : Bool) (a : Act) (w : World) : Prop :=
  ∃ (σ : Nat → Value) , a = fr 5 (ovl σ [(2, (.bool r))]) ∧ Chg [] w0 w
def s_spec_l14Size (n : Int) : Option (Bool) :=
  (s_spec_l1In n 1 4).bind fun r2 =>
  some r2
set_option maxHeartbeats 4000000 in
theorem c_spec_l14Size {M : Nat → Prop} {w : World}  (n : Int)  (hM : ∀ g, w.heap.size ≤ g → M g) {r : Bool} (hs : s_spec_l14Size n = some r) :
    Gives Try.prog 124 [(.int .i64 n)] w (fun v w' => v = (.bool r) ∧ Chg [] w w') := by
 refine calls_fr Try.func124 rfl Try.ntmps124 (Nat.le_of_ble_eq_true rfl) ?_
 have hO := Own.start (N := Nw w []) hM Nw.fut
 have hC := Chg.refl [] w
 unfold s_spec_l14Size at hs
 refine wp_mono (Q := KPost (k_spec_l14Size M w r)) ?_ (fun e a a1 h => ?_)
 rotate_left
 ·cases e
  case ret =>
   obtain ⟨σ, rfl, hrest⟩ := h
   exact ret1x Try.results124 (res_tmp rfl) ⟨rfl, hrest⟩
  all_goals exact (h : False).elim
 refine c_sr ?_
 refine pl_val (.bool false) (y_assign rfl) ?_
 refine c_nil ?_
 refine c_sr ?_
 refine pl_val (.int .i64 n) (y_move rfl) ?_
 obtain ⟨r2, a2, hs⟩ := bind_some hs
 refine pl_call Bd100 rfl (c_spec_l1In (M := M) n 1 4  hO.fut a2) ?_
 rintro _ a1 ⟨rfl, a0⟩
 have hC := hC.ext a0
 have hO := hO.ext a0
 refine pl_val (.bool r2) (y_assign rfl) ?_
 refine c_nil ?_
 refine wp_ret ?_
 cases hs
 exact ⟨_, fr_ovl 5 ⟨rfl, trivial⟩, hC⟩

def k_spec_l2Pow (M : Nat → Prop) (w0 : World) (r : Int) (a : Act) (w : World) : Prop :=
  ∃ (σ : Nat → Value) , a = fr 14 (ovl σ [(4, (.int .i64 r))]) ∧ Chg [] w0 w
def s_spec_l2Pow (n : Int) (k : Int) : Option (Int) :=
  (iter (S := Int × Int) (R := Int) (fun s2 =>
  (bif (decide (0 < s2.1)) then some (.nx (w64 (s2.1 - 1), w64 (s2.2 * n))) else some (.br (s2.1, s2.2)))) FU (k, 1)).bind fun o6 => after o6 (fun r_ => some r_) (fun s2 =>
  some s2.2)
set_option maxHeartbeats 4000000 in
theorem c_spec_l2Pow {M : Nat → Prop} {w : World}  (n : Int) (k : Int)  (hM : ∀ g, w.heap.size ≤ g → M g) {r : Int} (hs : s_spec_l2Pow n k = some r) :
    Gives Try.prog 58 [(.int .i64 n), (.int .i64 k)] w (fun v w' => v = (.int .i64 r) ∧ Chg [] w w') := by
 refine calls_fr Try.func58 rfl Try.ntmps58 (Nat.le_of_ble_eq_true rfl) ?_
 have hO := Own.start (N := Nw w []) hM Nw.fut
 have hC := Chg.refl [] w
 unfold s_spec_l2Pow at hs
 refine wp_mono (Q := KPost (k_spec_l2Pow M w r)) ?_ (fun e a a2 h => ?_)
 rotate_left
 ·cases e
  case ret =>
   obtain ⟨σ, rfl, hrest⟩ := h
   exact ret1x Try.results58 (res_tmp rfl) ⟨rfl, hrest⟩
  all_goals exact (h : False).elim
 refine c_sr ?_
 refine pl_val (.int .i64 0) (y_assign rfl) ?_
 refine c_nil ?_
 refine c_sr ?_
 refine pl_val (.int .i64 1) (y_assign rfl) ?_
 refine c_nil ?_
 refine c_seq ?_
 obtain ⟨o6, a3, hs⟩ := bind_some hs
 refine wp_block ?_
 refine wp_iter (id := 0) (I := fun s2 a a0 => ∃ (σ : Nat → Value), a = fr 14 (ovl σ [(0, (.int .i64 n)), (1, (.int .i64 s2.1)), (5, (.int .i64 s2.2))]) ∧ Chg [] w a0 ∧ Own (Nw w []) M a0 ([])) (J := fun s2 a a0 => ∃ (σ : Nat → Value), a = fr 14 (ovl σ [(5, (.int .i64 s2.2))]) ∧ Chg [] w a0 ∧ Own (Nw w []) M a0 ([])) (K := (k_spec_l2Pow M w)) ?_ FU (k, 1) o6 _ _ ?_ a3 ?_
 ·rintro s2 o6 a a0 ⟨σ, rfl, hC, hO⟩ hs
  refine c_seq ?_
  refine c_sr ?_
  refine pl_val (.int .i64 s2.1) (y_move rfl) ?_
  refine pl_val (.bool (decide (0 < s2.1))) (y_gtr rfl rfl) ?_
  refine c_nil ?_
  rcases bif_some hs with ⟨a1, hs⟩ | ⟨a1, hs⟩
  ·refine c_condT (congrArg Value.bool a1) ?_
   refine wp_skip ?_
   refine c_seq ?_
   refine wp_block ?_
   refine c_region ?_
   refine pl_val (.int .i64 s2.2) (y_move rfl) ?_
   refine pl_val (.int .i64 n) (y_move rfl) ?_
   refine pl_val (.int .i64 (w64 (s2.2 * n))) (y_mul rfl rfl) ?_
   refine pl_val (.int .i64 (w64 (s2.2 * n))) (y_assign rfl) ?_
   refine c_nil ?_
   refine c_region ?_
   refine pl_val (.int .i64 s2.1) (y_move rfl) ?_
   refine pl_val (.int .i64 (w64 (s2.1 - 1))) (y_sub rfl rfl) ?_
   refine pl_val (.int .i64 (w64 (s2.1 - 1))) (y_assign rfl) ?_
   refine c_nil ?_
   cases hs
   exact ⟨_, fr_ovl 14 ⟨rfl, rfl, rfl, trivial⟩, hC, hO⟩
  refine c_condF (congrArg Value.bool a1) ?_
  refine wp_exit ?_
  cases hs
  exact ⟨rfl, _, fr_ovl 14 ⟨rfl, trivial⟩, hC, hO⟩
 ·skip
  exact ⟨_, fr_ovl 14 ⟨rfl, rfl, rfl, trivial⟩, hC, hO⟩
 cases o6 with
 | nx _ => exact True.intro
 | rt r_ =>
  have hs := after_rt hs
  intro a4 a2 hK
  cases hs
  exact hK
 | br s2 =>
  have hs := after_br hs
  rintro a4 a0 ⟨σ, rfl, hC, hO⟩
  refine c_sr ?_
  refine pl_val (.int .i64 s2.2) (y_move rfl) ?_
  refine pl_val (.int .i64 s2.2) (y_assign rfl) ?_
  refine c_nil ?_
  refine wp_ret ?_
  cases hs
  exact ⟨_, fr_ovl 14 ⟨rfl, trivial⟩, hC⟩

def k_spec_l2Elements (M : Nat → Prop) (w0 : World) (r : Bool) (a : Act) (w : World) : Prop :=
  ∃ (σ : Nat → Value) , a = fr 20 (ovl σ [(4, (.bool r))]) ∧ Chg [] w0 w
def s_spec_l2Elements (n : Int) (list : List Int) : Option (Bool) :=
  (forC (S := Unit) (R := Bool) (fun k9 s7 =>
  (idx list k9).bind fun x13 =>
  (s_spec_l1In x13 0 (w64 (n - 1))).bind fun r16 =>
  (bif (!r16) then some (.rt false) else some (.nx ()))) 0 (list.length : Int) ()).bind fun o11 => after o11 (fun r_ => some r_) (fun s7 =>
  some true)
set_option maxHeartbeats 4000000 in
theorem c_spec_l2Elements {M : Nat → Prop} {w : World} {pa0 : Option Addr} {pn0 pc0 : Nat} (n : Int) (list : List Int) (h0 : (RT.rs (RT.int .i64)).val M w (.slice pa0 pn0 pc0) list ([])) (hM : ∀ g, w.heap.size ≤ g → M g) {r : Bool} (hs : s_spec_l2Elements n list = some r) :
    Gives Try.prog 116 [(.int .i64 n), (.slice pa0 pn0 pc0)] w (fun v w' => v = (.bool r) ∧ Chg [] w w') := by
 refine calls_fr Try.func116 rfl Try.ntmps116 (Nat.le_of_ble_eq_true rfl) ?_
 have hO := Own.start (N := Nw w []) hM Nw.fut
 have hC := Chg.refl [] w
 unfold s_spec_l2Elements at hs
 refine wp_mono (Q := KPost (k_spec_l2Elements M w r)) ?_ (fun e a a3 h => ?_)
 rotate_left
 ·cases e
  case ret =>
   obtain ⟨σ, rfl, hrest⟩ := h
   exact ret1x Try.results116 (res_tmp rfl) ⟨rfl, hrest⟩
  all_goals exact (h : False).elim
 refine c_sr ?_
 refine pl_val (.bool false) (y_assign rfl) ?_
 refine c_nil ?_
 refine c_seq ?_
 refine c_sr ?_
 refine pl_val (.int .i64 0) (y_assign rfl) ?_
 refine c_nil ?_
 obtain ⟨o11, a4, hs⟩ := bind_some hs
 refine wp_block ?_
 refine wp_forC (id := 0) (list.length : Int) (I := fun k9 s7 a a0 => ∃ (σ : Nat → Value), a = fr 20 (ovl σ [(0, (.int .i64 n)), (1, (.slice pa0 pn0 pc0)), (5, (.int .i64 k9))]) ∧ Chg [] w a0 ∧ Own (Nw w []) M a0 ([]) ∧ (RT.rs (RT.int .i64)).val M a0 (.slice pa0 pn0 pc0) list ([])) (J := fun s7 a a0 => ∃ (σ : Nat → Value), a = fr 20 (ovl σ []) ∧ Chg [] w a0 ∧ Own (Nw w []) M a0 ([]) ∧ (RT.rs (RT.int .i64)).val M a0 (.slice pa0 pn0 pc0) list ([])) (K := (k_spec_l2Elements M w)) ?_ ?_ 0 () o11 _ _ ?_ a4 ?_
 ·rintro k9 s7 a a0 ⟨σ, rfl, hC, hO, h0⟩ hlt
  refine c_seq ?_
  refine c_sr ?_
  refine pl_val (.int .i64 k9) (y_move rfl) ?_
  refine pl_val (.slice pa0 pn0 pc0) (y_move rfl) ?_
  refine pl_val (.int .i64 (list.length : Int)) (y_len' Sl41 (rs_len h0) rfl) ?_
  refine pl_val (.bool (decide (k9 < (list.length : Int)))) (y_lss rfl rfl) ?_
  refine c_nil ?_
  refine c_condF (congrArg Value.bool (decide_eq_false hlt)) ?_
  refine wp_exit ?_
  exact ⟨rfl, _, fr_ovl 20 trivial, hC, hO, h0⟩
 ·rintro k9 s7 o11 a a0 ⟨σ, rfl, hC, hO, h0⟩ hlt hw hs
  refine c_seq ?_
  refine c_sr ?_
  refine pl_val (.int .i64 k9) (y_move rfl) ?_
  refine pl_val (.slice pa0 pn0 pc0) (y_move rfl) ?_
  refine pl_val (.int .i64 (list.length : Int)) (y_len' Sl41 (rs_len h0) rfl) ?_
  refine pl_val (.bool (decide (k9 < (list.length : Int)))) (y_lss rfl rfl) ?_
  refine c_nil ?_
  refine c_condT (congrArg Value.bool (decide_eq_true hlt)) ?_
  refine wp_skip ?_
  refine c_seq ?_
  refine wp_block ?_
  refine c_sr ?_
  refine pl_val (.slice pa0 pn0 pc0) (y_move rfl) ?_
  refine pl_val (.int .i64 k9) (y_move rfl) ?_
  obtain ⟨x13, a5, hs⟩ := bind_some hs
  obtain ⟨a6, a7, a8, a9⟩ := rs_idx Sl41 Sz3 h0 a5
  refine pl_val (.pointer (some ⟨a6, a7, none⟩)) (a8 _ _ _ _ _ _ _ _ _ rfl rfl) ?_
  refine pl_val (.int .i64 x13) (y_load rfl ((at_load_int Ag3 Sz3 a9) _ (Chg.refl _ _))) ?_
  refine pl_val (.int .i64 n) (y_move rfl) ?_
  refine pl_val (.int .i64 (w64 (n - 1))) (y_sub rfl rfl) ?_
  obtain ⟨r16, b0, hs⟩ := bind_some hs
  refine pl_call Bd100 rfl (c_spec_l1In (M := M) x13 0 (w64 (n - 1))  hO.fut b0) ?_
  rintro _ b2 ⟨rfl, a1⟩
  have h0 := h0.ext a1
  have hC := hC.ext a1
  have hO := hO.ext a1
  refine pl_val (.bool (!r16)) (y_not rfl) ?_
  refine c_nil ?_
  rcases bif_some hs with ⟨a2, hs⟩ | ⟨a2, hs⟩
  ·refine c_condT (congrArg Value.bool a2) ?_
   refine c_sr ?_
   refine pl_val (.bool false) (y_assign rfl) ?_
   refine c_nil ?_
   refine wp_ret ?_
   cases hs
   exact ⟨_, fr_ovl 20 ⟨rfl, trivial⟩, hC⟩
  refine c_condF (congrArg Value.bool a2) ?_
  refine wp_skip ?_
  refine c_region ?_
  refine pl_val (.int .i64 k9) (y_move rfl) ?_
  refine pl_val (.int .i64 (w64 (k9 + 1))) (y_add rfl rfl) ?_
  refine pl_val (.int .i64 (w64 (k9 + 1))) (y_assign rfl) ?_
  refine c_nil ?_
  cases hs
  exact ⟨_, fr_ovl 20 ⟨rfl, rfl, congrArg (Value.int .i64) hw, trivial⟩, hC, hO, h0⟩
 ·skip
  exact ⟨_, fr_ovl 20 ⟨rfl, rfl, rfl, trivial⟩, hC, hO, h0⟩
 cases o11 with
 | nx _ => exact True.intro
 | rt r_ =>
  have hs := after_rt hs
  intro b1 a3 hK
  cases hs
  exact hK
 | br s7 =>
  have hs := after_br hs
  rintro b1 a0 ⟨σ, rfl, hC, hO, h0⟩
  refine c_sr ?_
  refine pl_val (.bool true) (y_assign rfl) ?_
  refine c_nil ?_
  refine wp_ret ?_
  cases hs
  exact ⟨_, fr_ovl 20 ⟨rfl, trivial⟩, hC⟩

theorem Bd116 : Bodied Try.prog 116 := bodied Try.func116 (by kernel_rfl) rfl

def k_spec_l8Tuple (M : Nat → Prop) (w0 : World) (r : Bool) (a : Act) (w : World) : Prop :=
  ∃ (σ : Nat → Value) , a = fr 16 (ovl σ [(6, (.bool r))]) ∧ Chg [] w0 w
def s_spec_l8Tuple (n : Int) (k : Int) (t : List Int) : Option (Bool) :=
  (bif ((t.length : Int) == k) then (s_spec_l2Elements n t).bind fun r4 =>
  some r4 else some false)
set_option maxHeartbeats 4000000 in
theorem c_spec_l8Tuple {M : Nat → Prop} {w : World} {pa0 : Option Addr} {pn0 pc0 : Nat} (n : Int) (k : Int) (t : List Int) (h0 : (RT.rs (RT.int .i64)).val M w (.slice pa0 pn0 pc0) t ([])) (hM : ∀ g, w.heap.size ≤ g → M g) {r : Bool} (hs : s_spec_l8Tuple n k t = some r) :
    Gives Try.prog 134 [(.int .i64 n), (.int .i64 k), (.slice pa0 pn0 pc0)] w (fun v w' => v = (.bool r) ∧ Chg [] w w') := by
 refine calls_fr Try.func134 rfl Try.ntmps134 (Nat.le_of_ble_eq_true rfl) ?_
 have hO := Own.start (N := Nw w []) hM Nw.fut
 have hC := Chg.refl [] w
 unfold s_spec_l8Tuple at hs
 refine wp_mono (Q := KPost (k_spec_l8Tuple M w r)) ?_ (fun e a a3 h => ?_)
 rotate_left
 ·cases e
  case ret =>
   obtain ⟨σ, rfl, hrest⟩ := h
   exact ret1x Try.results134 (res_tmp rfl) ⟨rfl, hrest⟩
  all_goals exact (h : False).elim
 refine c_sr ?_
 refine pl_val (.bool false) (y_assign rfl) ?_
 refine c_nil ?_
 refine c_sr ?_
 refine pl_val (.slice pa0 pn0 pc0) (y_move rfl) ?_
 refine pl_val (.int .i64 (t.length : Int)) (y_len' Sl41 (rs_len h0) rfl) ?_
 refine pl_val (.int .i64 k) (y_move rfl) ?_
 refine pl_val (.bool ((t.length : Int) == k)) (y_eql rfl rfl) ?_
 refine pl_val (.bool ((t.length : Int) == k)) (y_move rfl) ?_
 rcases bif_some hs with ⟨a0, hs⟩ | ⟨a0, hs⟩
 ·skip
  refine pl_yes (.int .i64 n) (tg := 11) (by kernel_rfl) (congrArg Value.bool a0) (y_move rfl) ?_
  refine pl_yes (.slice pa0 pn0 pc0) (tg := 11) (by kernel_rfl) (congrArg Value.bool a0) (y_move rfl) ?_
  obtain ⟨r4, a2, hs⟩ := bind_some hs
  refine pl_cally (tg := 11) (by kernel_rfl) (congrArg Value.bool a0) Bd116 rfl (c_spec_l2Elements (M := M) n t h0 hO.fut a2) ?_
  rintro _ a4 ⟨rfl, a1⟩
  have h0 := h0.ext a1
  have hC := hC.ext a1
  have hO := hO.ext a1
  refine pl_val (.bool r4) (y_pick_t (congrArg Value.bool a0) rfl) ?_
  refine pl_val (.bool r4) (y_assign rfl) ?_
  refine c_nil ?_
  refine wp_ret ?_
  cases hs
  exact ⟨_, fr_ovl 16 ⟨rfl, trivial⟩, hC⟩
 refine pl_not (tg := 11) (by kernel_rfl) (congrArg Value.bool a0) ?_
 refine pl_not (tg := 11) (by kernel_rfl) (congrArg Value.bool a0) ?_
 refine pl_not (tg := 11) (by kernel_rfl) (congrArg Value.bool a0) ?_
 refine pl_val (.bool false) (y_pick_f (congrArg Value.bool a0) rfl) ?_
 refine pl_val (.bool false) (y_assign rfl) ?_
 refine c_nil ?_
 refine wp_ret ?_
 cases hs
 exact ⟨_, fr_ovl 16 ⟨rfl, trivial⟩, hC⟩

theorem Mx : Try.prog.follows .mixedOrders = true := by kernel_rfl

def k_spec_l3Less (M : Nat → Prop) (w0 : World) (r : Bool) (a : Act) (w : World) : Prop :=
  ∃ (σ : Nat → Value) , a = fr 30 (ovl σ [(4, (.bool r))]) ∧ Chg [] w0 w
def s_spec_l3Less (a_ : List Int) (b : List Int) : Option (Bool) :=
  (forC (S := Unit) (R := Bool) (fun k21 s19 =>
  (idx a_ k21).bind fun x31 =>
  (idx b k21).bind fun x33 =>
  (bif (x31 != x33) then (idx a_ k21).bind fun x37 =>
  (idx b k21).bind fun x39 =>
  some (.rt (decide (x37 < x39))) else some (.nx ()))) 0 (a_.length : Int) ()).bind fun o23 => after o23 (fun r_ => some r_) (fun s19 =>
  some false)
set_option maxHeartbeats 4000000 in
theorem c_spec_l3Less {M : Nat → Prop} {w : World} {pa0 : Option Addr} {pn0 pc0 : Nat} {pa1 : Option Addr} {pn1 pc1 : Nat} (a_ : List Int) (b : List Int) (h0 : (RT.rs (RT.int .i64)).val M w (.slice pa0 pn0 pc0) a_ ([])) (h1 : (RT.rs (RT.int .i64)).val M w (.slice pa1 pn1 pc1) b ([])) (hM : ∀ g, w.heap.size ≤ g → M g) {r : Bool} (hs : s_spec_l3Less a_ b = some r) :
    Gives Try.prog 135 [(.slice pa0 pn0 pc0), (.slice pa1 pn1 pc1)] w (fun v w' => v = (.bool r) ∧ Chg [] w w') := by
 refine calls_fr Try.func135 rfl Try.ntmps135 (Nat.le_of_ble_eq_true rfl) ?_
 have hO := Own.start (N := Nw w []) hM Nw.fut
 have hC := Chg.refl [] w
 unfold s_spec_l3Less at hs
 refine wp_mono (Q := KPost (k_spec_l3Less M w r)) ?_ (fun e a a5 h => ?_)
 rotate_left
 ·cases e
  case ret =>
   obtain ⟨σ, rfl, hrest⟩ := h
   exact ret1x Try.results135 (res_tmp rfl) ⟨rfl, hrest⟩
  all_goals exact (h : False).elim
 refine c_sr ?_
 refine pl_val (.bool false) (y_assign rfl) ?_
 refine c_nil ?_
 refine c_seq ?_
 refine c_sr ?_
 refine pl_val (.int .i64 0) (y_assign rfl) ?_
 refine c_nil ?_
 obtain ⟨o23, a6, hs⟩ := bind_some hs
 refine wp_block ?_
 refine wp_forC (id := 0) (a_.length : Int) (I := fun k21 s19 a a0 => ∃ (σ : Nat → Value), a = fr 30 (ovl σ [(0, (.slice pa0 pn0 pc0)), (1, (.slice pa1 pn1 pc1)), (5, (.int .i64 k21))]) ∧ Chg [] w a0 ∧ Own (Nw w []) M a0 ([]) ∧ (RT.rs (RT.int .i64)).val M a0 (.slice pa0 pn0 pc0) a_ ([]) ∧ (RT.rs (RT.int .i64)).val M a0 (.slice pa1 pn1 pc1) b ([])) (J := fun s19 a a0 => ∃ (σ : Nat → Value), a = fr 30 (ovl σ []) ∧ Chg [] w a0 ∧ Own (Nw w []) M a0 ([]) ∧ (RT.rs (RT.int .i64)).val M a0 (.slice pa0 pn0 pc0) a_ ([]) ∧ (RT.rs (RT.int .i64)).val M a0 (.slice pa1 pn1 pc1) b ([])) (K := (k_spec_l3Less M w)) ?_ ?_ 0 () o23 _ _ ?_ a6 ?_
 ·rintro k21 s19 a a0 ⟨σ, rfl, hC, hO, h0, h1⟩ hlt
  refine c_seq ?_
  refine c_sr ?_
  refine pl_val (.int .i64 k21) (y_move rfl) ?_
  refine pl_val (.slice pa0 pn0 pc0) (y_move rfl) ?_
  refine pl_val (.int .i64 (a_.length : Int)) (y_len' Sl41 (rs_len h0) rfl) ?_
  refine pl_val (.bool (decide (k21 < (a_.length : Int)))) (y_lss rfl rfl) ?_
  refine c_nil ?_
  refine c_condF (congrArg Value.bool (decide_eq_false hlt)) ?_
  refine wp_exit ?_
  exact ⟨rfl, _, fr_ovl 30 trivial, hC, hO, h0, h1⟩
 ·rintro k21 s19 o23 a a0 ⟨σ, rfl, hC, hO, h0, h1⟩ hlt hw hs
  refine c_seq ?_
  refine c_sr ?_
  refine pl_val (.int .i64 k21) (y_move rfl) ?_
  refine pl_val (.slice pa0 pn0 pc0) (y_move rfl) ?_
  refine pl_val (.int .i64 (a_.length : Int)) (y_len' Sl41 (rs_len h0) rfl) ?_
  refine pl_val (.bool (decide (k21 < (a_.length : Int)))) (y_lss rfl rfl) ?_
  refine c_nil ?_
  refine c_condT (congrArg Value.bool (decide_eq_true hlt)) ?_
  refine wp_skip ?_
  refine c_seq ?_
  refine wp_block ?_
  refine c_seq ?_
  refine x_start [] Mx rfl ?_
  have a1 := Chg.drew a0
  generalize World.drew a0 = a3 at a1 ⊢
  have h0 := h0.ext a1
  have h1 := h1.ext a1
  have hC := hC.ext a1
  have hO := hO.ext a1
  have hS := Chg.refl [] a3
  refine x_p 0 (.slice pa0 pn0 pc0) rfl (by kernel_rfl)  (fun _ => y_move rfl) (fun _ => hS) ?_
  refine x_p 1 (.int .i64 k21) rfl (by kernel_rfl)  (fun _ => y_move rfl) (fun _ => hS) ?_
  obtain ⟨x31, a7, hs⟩ := bind_some hs
  obtain ⟨a8, a9, b0, b1⟩ := rs_idx Sl41 Sz3 h0 a7
  refine x_p 2 (.pointer (some ⟨a8, a9, none⟩)) rfl (by kernel_rfl)  (fun _ => b0 _ _ _ _ _ _ _ _ _ rfl rfl) (fun _ => hS) ?_
  refine x_l 3 (.int .i64 x31) rfl (by kernel_rfl)  (fun w' hw' => y_load rfl ((at_load_int Ag3 Sz3 b1) w' hw')) hS ?_
  refine x_p 4 (.slice pa1 pn1 pc1) rfl (by kernel_rfl)  (fun _ => y_move rfl) (fun _ => hS) ?_
  refine x_p 5 (.int .i64 k21) rfl (by kernel_rfl)  (fun _ => y_move rfl) (fun _ => hS) ?_
  obtain ⟨x33, b2, hs⟩ := bind_some hs
  obtain ⟨b3, b4, b5, b6⟩ := rs_idx Sl41 Sz3 h1 b2
  refine x_p 6 (.pointer (some ⟨b3, b4, none⟩)) rfl (by kernel_rfl)  (fun _ => b5 _ _ _ _ _ _ _ _ _ rfl rfl) (fun _ => hS) ?_
  refine x_l 7 (.int .i64 x33) rfl (by kernel_rfl)  (fun w' hw' => y_load rfl ((at_load_int Ag3 Sz3 b6) w' hw')) hS ?_
  refine x_p 8 (.bool (x31 != x33)) rfl (by kernel_rfl)  (fun _ => y_neq rfl rfl) (fun _ => hS) ?_
  refine x_end (by kernel_rfl) ?_
  clear hS
  rcases bif_some hs with ⟨a4, hs⟩ | ⟨a4, hs⟩
  ·refine c_condT (congrArg Value.bool a4) ?_
   refine c_seq ?_
   refine x_start [] Mx rfl ?_
   have a2 := Chg.drew a3
   generalize World.drew a3 = b7 at a2 ⊢
   have h0 := h0.ext a2
   have h1 := h1.ext a2
   have hC := hC.ext a2
   have hO := hO.ext a2
   have hS := Chg.refl [] b7
   refine x_p 0 (.slice pa0 pn0 pc0) rfl (by kernel_rfl)  (fun _ => y_move rfl) (fun _ => hS) ?_
   refine x_p 1 (.int .i64 k21) rfl (by kernel_rfl)  (fun _ => y_move rfl) (fun _ => hS) ?_
   obtain ⟨x37, b8, hs⟩ := bind_some hs
   obtain ⟨b9, c0, c1, c2⟩ := rs_idx Sl41 Sz3 h0 b8
   refine x_p 2 (.pointer (some ⟨b9, c0, none⟩)) rfl (by kernel_rfl)  (fun _ => c1 _ _ _ _ _ _ _ _ _ rfl rfl) (fun _ => hS) ?_
   refine x_l 3 (.int .i64 x37) rfl (by kernel_rfl)  (fun w' hw' => y_load rfl ((at_load_int Ag3 Sz3 c2) w' hw')) hS ?_
   refine x_p 4 (.slice pa1 pn1 pc1) rfl (by kernel_rfl)  (fun _ => y_move rfl) (fun _ => hS) ?_
   refine x_p 5 (.int .i64 k21) rfl (by kernel_rfl)  (fun _ => y_move rfl) (fun _ => hS) ?_
   obtain ⟨x39, c3, hs⟩ := bind_some hs
   obtain ⟨c4, c5, c6, c7⟩ := rs_idx Sl41 Sz3 h1 c3
   refine x_p 6 (.pointer (some ⟨c4, c5, none⟩)) rfl (by kernel_rfl)  (fun _ => c6 _ _ _ _ _ _ _ _ _ rfl rfl) (fun _ => hS) ?_
   refine x_l 7 (.int .i64 x39) rfl (by kernel_rfl)  (fun w' hw' => y_load rfl ((at_load_int Ag3 Sz3 c7) w' hw')) hS ?_
   refine x_p 8 (.bool (decide (x37 < x39))) rfl (by kernel_rfl)  (fun _ => y_lss rfl rfl) (fun _ => hS) ?_
   refine x_p 9 (.bool (decide (x37 < x39))) rfl (by kernel_rfl)  (fun _ => y_assign rfl) (fun _ => hS) ?_
   refine x_end (by kernel_rfl) ?_
   clear hS
   refine wp_ret ?_
   cases hs
   exact ⟨_, fr_ovl 30 ⟨rfl, trivial⟩, hC⟩
  refine c_condF (congrArg Value.bool a4) ?_
  refine wp_skip ?_
  refine c_region ?_
  refine pl_val (.int .i64 k21) (y_move rfl) ?_
  refine pl_val (.int .i64 (w64 (k21 + 1))) (y_add rfl rfl) ?_
  refine pl_val (.int .i64 (w64 (k21 + 1))) (y_assign rfl) ?_
  refine c_nil ?_
  cases hs
  exact ⟨_, fr_ovl 30 ⟨rfl, rfl, congrArg (Value.int .i64) hw, trivial⟩, hC, hO, h0, h1⟩
 ·skip
  exact ⟨_, fr_ovl 30 ⟨rfl, rfl, rfl, trivial⟩, hC, hO, h0, h1⟩
 cases o23 with
 | nx _ => exact True.intro
 | rt r_ =>
  have hs := after_rt hs
  intro c8 a5 hK
  cases hs
  exact hK
 | br s19 =>
  have hs := after_br hs
  rintro c8 a0 ⟨σ, rfl, hC, hO, h0, h1⟩
  refine c_sr ?_
  refine pl_val (.bool false) (y_assign rfl) ?_
  refine c_nil ?_
  refine wp_ret ?_
  cases hs
  exact ⟨_, fr_ovl 30 ⟨rfl, trivial⟩, hC⟩

theorem Bd58 : Bodied Try.prog 58 := bodied Try.func58 (by kernel_rfl) rfl

theorem Bd134 : Bodied Try.prog 134 := bodied Try.func134 (by kernel_rfl) rfl

theorem Bd135 : Bodied Try.prog 135 := bodied Try.func135 (by kernel_rfl) rfl

def k_spec_l13Good (M : Nat → Prop) (w0 : World) (r : Bool) (a : Act) (w : World) : Prop :=
  ∃ (σ : Nat → Value) , a = fr 56 (ovl σ [(4, (.bool r))]) ∧ Chg [] w0 w
def s_spec_l13Good (n : Int) (r_ : Int × (List (List Int))) : Option (Bool) :=
  ((s_spec_l1In r_.1 1 3).bind fun r8 =>
  (bif (!r8) then some true else (s_spec_l2Pow n r_.1).bind fun r11 =>
  some (decide (r11 < (r_.2.length : Int))))).bind fun s3 =>
  (bif s3 then some false else (forC (S := Unit) (R := Bool) (fun k83 s81 =>
  (idx r_.2 k83).bind fun x88 =>
  (s_spec_l8Tuple n r_.1 x88).bind fun r93 =>
  (bif (!r93) then some (.rt false) else (bif (decide (0 < k83)) then (idx r_.2 (w64 (k83 - 1))).bind fun x96 =>
  (idx r_.2 k83).bind fun x100 =>
  (s_spec_l3Less x96 x100).bind fun r105 =>
  (bif (!r105) then some (.rt false) else some (.nx ())) else some (.nx ())))) 0 (r_.2.length : Int) ()).bind fun o85 => after o85 (fun r_ => some r_) (fun s81 =>
  some true))
set_option maxHeartbeats 4000000 in
theorem c_spec_l13Good {M : Nat → Prop} {w : World} {pa0 : Option Addr} {pn0 pc0 : Nat} (n : Int) (r_ : Int × (List (List Int))) (h0 : (RT.rs (RT.rs (RT.int .i64))).val M w (.slice pa0 pn0 pc0) r_.2 ([])) (hM : ∀ g, w.heap.size ≤ g → M g) {r : Bool} (hs : s_spec_l13Good n r_ = some r) :
    Gives Try.prog 115 [(.int .i64 n), (.agg #[(.int .i64 r_.1), (.slice pa0 pn0 pc0)])] w (fun v w' => v = (.bool r) ∧ Chg [] w w') := by
 refine calls_fr Try.func115 rfl Try.ntmps115 (Nat.le_of_ble_eq_true rfl) ?_
 have hO := Own.start (N := Nw w []) hM Nw.fut
 have hC := Chg.refl [] w
 unfold s_spec_l13Good at hs
 refine wp_mono (Q := KPost (k_spec_l13Good M w r)) ?_ (fun e a f3 h => ?_)
 rotate_left
 ·cases e
  case ret =>
   obtain ⟨σ, rfl, hrest⟩ := h
   exact ret1x Try.results115 (res_tmp rfl) ⟨rfl, hrest⟩
  all_goals exact (h : False).elim
 refine c_sr ?_
 obtain ⟨c0, a4, f4, e8, d8, a1⟩ := new_block w [(.int .i64 r_.1), (.slice pa0 pn0 pc0)] 54
 refine pl_val (w' := c0) (.pointer (some ⟨a4, 0, none⟩)) (y_box rfl (by rw [f4, e8]; kernel_rfl)) ?_
 have h0 := h0.ext d8
 have hC := hC.ext d8
 have hO := hO.new1 d8 e8 a1.lt
 refine pl_val (.bool false) (y_assign rfl) ?_
 refine c_nil ?_
 refine c_seq ?_
 refine c_seq ?_
 obtain ⟨s3, f5, hs⟩ := bind_some hs
 refine c_mid (I := fun a e9 => ∃ (σ : Nat → Value), a = fr 56 (ovl σ [(0, (.int .i64 n)), (3, (.pointer (some ⟨a4, 0, none⟩))), (4, (.bool false)), (19, (.bool s3))]) ∧ Chg [] c0 e9) ?_ ?_
 ·replace hs := f5
  have hMid := Chg.refl [] c0
  refine x_start [] Mx rfl ?_
  have b9 := Chg.drew c0
  generalize World.drew c0 = f6 at b9 ⊢
  have h0 := h0.ext b9
  have a1 := a1.cn b9
  have hMid := hMid.ext b9
  have hC := hC.ext b9
  have hO := hO.ext b9
  have hS := Chg.refl [] f6
  refine x_p 0 (.pointer (some ⟨a4, 0, none⟩)) rfl (by kernel_rfl)  (fun _ => y_faddr rfl Fa54x0) (fun _ => hS) ?_
  refine x_l 1 (.int .i64 r_.1) rfl (by kernel_rfl)  (fun w' hw' => y_load rfl ((box_load Ag3 Sz3 a1 [] [(.int .i64 r_.1)] [(.slice pa0 pn0 pc0)] rfl rfl (fun _ => rfl)) w' hw')) hS ?_
  refine x_one (i := 2) (by kernel_rfl) ?_
  obtain ⟨r8, f7, hs⟩ := bind_some hs
  refine xk_call (b := false) rfl  Bd100 rfl (c_spec_l1In (M := M) r_.1 1 3  hO.fut f7) rfl (by rintro _ _ _ ⟨rfl, b4⟩; exact hS.ext b4) ?_
  rintro _ o0 ⟨rfl, b4⟩
  have h0 := h0.ext b4
  have a1 := a1.cn b4
  have hMid := hMid.ext b4
  have hC := hC.ext b4
  have hO := hO.ext b4
  have hS := hS.ext b4
  refine x_p 3 (.bool (!r8)) rfl (by kernel_rfl)  (fun _ => y_not rfl) (fun _ => hS) ?_
  refine x_p 4 (.bool (!r8)) rfl (by kernel_rfl)  (fun _ => y_move rfl) (fun _ => hS) ?_
  rcases bif_some hs with ⟨a2, hs⟩ | ⟨a2, hs⟩
  ·skip
   refine x_pn 5 rfl (by kernel_rfl) (tg := 10) (by kernel_rfl) (congrArg Value.bool a2) (fun _ => hS) ?_
   refine x_pn 6 rfl (by kernel_rfl) (tg := 10) (by kernel_rfl) (congrArg Value.bool a2) (fun _ => hS) ?_
   refine x_pn 7 rfl (by kernel_rfl) (tg := 10) (by kernel_rfl) (congrArg Value.bool a2) (fun _ => hS) ?_
   refine x_pn 8 rfl (by kernel_rfl) (tg := 10) (by kernel_rfl) (congrArg Value.bool a2) (fun _ => hS) ?_
   refine x_pn 9 rfl (by kernel_rfl) (tg := 10) (by kernel_rfl) (congrArg Value.bool a2) (fun _ => hS) ?_
   refine x_pn 10 rfl (by kernel_rfl) (tg := 10) (by kernel_rfl) (congrArg Value.bool a2) (fun _ => hS) ?_
   refine x_pn 11 rfl (by kernel_rfl) (tg := 10) (by kernel_rfl) (congrArg Value.bool a2) (fun _ => hS) ?_
   refine x_pn 12 rfl (by kernel_rfl) (tg := 10) (by kernel_rfl) (congrArg Value.bool a2) (fun _ => hS) ?_
   refine x_p 13 (.bool true) rfl (by kernel_rfl)  (fun _ => y_pick_t (congrArg Value.bool a2) rfl) (fun _ => hS) ?_
   refine x_end (by kernel_rfl) ?_
   clear hS
   cases hs
   exact ⟨_, fr_ovl 56 ⟨rfl, rfl, rfl, rfl, trivial⟩, hMid⟩
  refine x_py 5 (.pointer (some ⟨a4, 1, none⟩)) rfl (by kernel_rfl) (tg := 10) (by kernel_rfl) (congrArg Value.bool a2) (fun _ => y_faddr rfl Fa54x1) (fun _ => hS) ?_
  refine x_py 8 (.int .i64 n) rfl (by kernel_rfl) (tg := 10) (by kernel_rfl) (congrArg Value.bool a2) (fun _ => y_move rfl) (fun _ => hS) ?_
  refine x_py 9 (.pointer (some ⟨a4, 0, none⟩)) rfl (by kernel_rfl) (tg := 10) (by kernel_rfl) (congrArg Value.bool a2) (fun _ => y_faddr rfl Fa54x0) (fun _ => hS) ?_
  refine x_two (i := 6) (j := 10) (by kernel_rfl) ?_ ?_
  ·skip
   refine xk_valy (b := false) (.slice pa0 pn0 pc0) rfl (tg := 10) (by kernel_rfl) (congrArg Value.bool a2) (y_load rfl ((box_load Ag47 Sz47 a1 [(.int .i64 r_.1)] [(.slice pa0 pn0 pc0)] [] rfl rfl (fun _ => rfl)) _ (Chg.refl _ _))) rfl (fun _ => hS) ?_
   refine x_py 7 (.int .i64 (r_.2.length : Int)) rfl (by kernel_rfl) (tg := 10) (by kernel_rfl) (congrArg Value.bool a2) (fun _ => y_len' Sl47 (rs_len h0) rfl) (fun _ => hS) ?_
   refine x_one (i := 10) (by kernel_rfl) ?_
   refine xk_valy (b := false) (.int .i64 r_.1) rfl (tg := 10) (by kernel_rfl) (congrArg Value.bool a2) (y_load rfl ((box_load Ag3 Sz3 a1 [] [(.int .i64 r_.1)] [(.slice pa0 pn0 pc0)] rfl rfl (fun _ => rfl)) _ (Chg.refl _ _))) rfl (fun _ => hS) ?_
   refine x_one (i := 11) (by kernel_rfl) ?_
   obtain ⟨r11, c1, hs⟩ := bind_some hs
   refine xk_cally (b := false) rfl (tg := 10) (by kernel_rfl) (congrArg Value.bool a2) Bd58 rfl (c_spec_l2Pow (M := M) n r_.1  hO.fut c1) rfl (by rintro _ _ _ ⟨rfl, b5⟩; exact hS.ext b5) ?_
   rintro _ o1 ⟨rfl, b5⟩
   have h0 := h0.ext b5
   have a1 := a1.cn b5
   have hMid := hMid.ext b5
   have hC := hC.ext b5
   have hO := hO.ext b5
   have hS := hS.ext b5
   refine x_py 12 (.bool (decide (r11 < (r_.2.length : Int)))) rfl (by kernel_rfl) (tg := 10) (by kernel_rfl) (congrArg Value.bool a2) (fun _ => y_gtr rfl rfl) (fun _ => hS) ?_
   refine x_p 13 (.bool (decide (r11 < (r_.2.length : Int)))) rfl (by kernel_rfl)  (fun _ => y_pick_f (congrArg Value.bool a2) rfl) (fun _ => hS) ?_
   refine x_end (by kernel_rfl) ?_
   clear hS
   cases hs
   exact ⟨_, fr_ovl 56 ⟨rfl, rfl, rfl, rfl, trivial⟩, hMid⟩
  ·skip
   refine xk_valy (b := false) (.int .i64 r_.1) rfl (tg := 10) (by kernel_rfl) (congrArg Value.bool a2) (y_load rfl ((box_load Ag3 Sz3 a1 [] [(.int .i64 r_.1)] [(.slice pa0 pn0 pc0)] rfl rfl (fun _ => rfl)) _ (Chg.refl _ _))) rfl (fun _ => hS) ?_
   refine x_two (i := 6) (j := 11) (by kernel_rfl) ?_ ?_
   ·skip
    refine xk_valy (b := false) (.slice pa0 pn0 pc0) rfl (tg := 10) (by kernel_rfl) (congrArg Value.bool a2) (y_load rfl ((box_load Ag47 Sz47 a1 [(.int .i64 r_.1)] [(.slice pa0 pn0 pc0)] [] rfl rfl (fun _ => rfl)) _ (Chg.refl _ _))) rfl (fun _ => hS) ?_
    refine x_py 7 (.int .i64 (r_.2.length : Int)) rfl (by kernel_rfl) (tg := 10) (by kernel_rfl) (congrArg Value.bool a2) (fun _ => y_len' Sl47 (rs_len h0) rfl) (fun _ => hS) ?_
    refine x_one (i := 11) (by kernel_rfl) ?_
    obtain ⟨r11, c1, hs⟩ := bind_some hs
    refine xk_cally (b := false) rfl (tg := 10) (by kernel_rfl) (congrArg Value.bool a2) Bd58 rfl (c_spec_l2Pow (M := M) n r_.1  hO.fut c1) rfl (by rintro _ _ _ ⟨rfl, b6⟩; exact hS.ext b6) ?_
    rintro _ o2 ⟨rfl, b6⟩
    have h0 := h0.ext b6
    have a1 := a1.cn b6
    have hMid := hMid.ext b6
    have hC := hC.ext b6
    have hO := hO.ext b6
    have hS := hS.ext b6
    refine x_py 12 (.bool (decide (r11 < (r_.2.length : Int)))) rfl (by kernel_rfl) (tg := 10) (by kernel_rfl) (congrArg Value.bool a2) (fun _ => y_gtr rfl rfl) (fun _ => hS) ?_
    refine x_p 13 (.bool (decide (r11 < (r_.2.length : Int)))) rfl (by kernel_rfl)  (fun _ => y_pick_f (congrArg Value.bool a2) rfl) (fun _ => hS) ?_
    refine x_end (by kernel_rfl) ?_
    clear hS
    cases hs
    exact ⟨_, fr_ovl 56 ⟨rfl, rfl, rfl, rfl, trivial⟩, hMid⟩
   ·skip
    obtain ⟨r11, c1, hs⟩ := bind_some hs
    refine xk_cally (b := false) rfl (tg := 10) (by kernel_rfl) (congrArg Value.bool a2) Bd58 rfl (c_spec_l2Pow (M := M) n r_.1  hO.fut c1) rfl (by rintro _ _ _ ⟨rfl, b7⟩; exact hS.ext b7) ?_
    rintro _ o3 ⟨rfl, b7⟩
    have h0 := h0.ext b7
    have a1 := a1.cn b7
    have hMid := hMid.ext b7
    have hC := hC.ext b7
    have hO := hO.ext b7
    have hS := hS.ext b7
    refine x_one (i := 6) (by kernel_rfl) ?_
    refine xk_valy (b := false) (.slice pa0 pn0 pc0) rfl (tg := 10) (by kernel_rfl) (congrArg Value.bool a2) (y_load rfl ((box_load Ag47 Sz47 a1 [(.int .i64 r_.1)] [(.slice pa0 pn0 pc0)] [] rfl rfl (fun _ => rfl)) _ (Chg.refl _ _))) rfl (fun _ => hS) ?_
    refine x_py 7 (.int .i64 (r_.2.length : Int)) rfl (by kernel_rfl) (tg := 10) (by kernel_rfl) (congrArg Value.bool a2) (fun _ => y_len' Sl47 (rs_len h0) rfl) (fun _ => hS) ?_
    refine x_py 12 (.bool (decide (r11 < (r_.2.length : Int)))) rfl (by kernel_rfl) (tg := 10) (by kernel_rfl) (congrArg Value.bool a2) (fun _ => y_gtr rfl rfl) (fun _ => hS) ?_
    refine x_p 13 (.bool (decide (r11 < (r_.2.length : Int)))) rfl (by kernel_rfl)  (fun _ => y_pick_f (congrArg Value.bool a2) rfl) (fun _ => hS) ?_
    refine x_end (by kernel_rfl) ?_
    clear hS
    cases hs
    exact ⟨_, fr_ovl 56 ⟨rfl, rfl, rfl, rfl, trivial⟩, hMid⟩
 rintro f0 e9 ⟨σ, rfl, c4⟩
 have h0 := h0.ext c4
 have a1 := a1.cn c4
 have hC := hC.ext c4
 have hO := hO.ext c4
 rcases bif_some hs with ⟨d9, hs⟩ | ⟨d9, hs⟩
 ·refine c_condT (congrArg Value.bool d9) ?_
  refine c_sr ?_
  refine pl_val (.bool false) (y_assign rfl) ?_
  refine c_nil ?_
  refine wp_ret ?_
  cases hs
  exact ⟨_, fr_ovl 56 ⟨rfl, trivial⟩, hC⟩
 refine c_condF (congrArg Value.bool d9) ?_
 refine wp_skip ?_
 refine c_seq ?_
 refine c_sr ?_
 refine pl_val (.int .i64 0) (y_assign rfl) ?_
 refine c_nil ?_
 obtain ⟨o85, f8, hs⟩ := bind_some hs
 refine wp_block ?_
 refine wp_forC (id := 0) (r_.2.length : Int) (I := fun k83 s81 a a6 => ∃ (σ : Nat → Value), a = fr 56 (ovl σ [(0, (.int .i64 n)), (3, (.pointer (some ⟨a4, 0, none⟩))), (5, (.int .i64 k83))]) ∧ Chg [] w a6 ∧ Own (Nw w []) M a6 (([a4]) ++ []) ∧ (RT.rs (RT.rs (RT.int .i64))).val M a6 (.slice pa0 pn0 pc0) r_.2 ([]) ∧ BoxV a6 a4 54 [(.int .i64 r_.1), (.slice pa0 pn0 pc0)]) (J := fun s81 a a6 => ∃ (σ : Nat → Value), a = fr 56 (ovl σ []) ∧ Chg [] w a6 ∧ Own (Nw w []) M a6 (([a4]) ++ []) ∧ (RT.rs (RT.rs (RT.int .i64))).val M a6 (.slice pa0 pn0 pc0) r_.2 ([]) ∧ BoxV a6 a4 54 [(.int .i64 r_.1), (.slice pa0 pn0 pc0)]) (K := (k_spec_l13Good M w)) ?_ ?_ 0 () o85 _ _ ?_ f8 ?_
 ·rintro k83 s81 a a6 ⟨σ, rfl, hC, hO, h0, a1⟩ hlt
  refine c_seq ?_
  refine c_sr ?_
  refine pl_val (.int .i64 k83) (y_move rfl) ?_
  refine pl_val (.pointer (some ⟨a4, 1, none⟩)) (y_faddr rfl Fa54x1) ?_
  refine pl_val (.slice pa0 pn0 pc0) (y_load rfl ((box_load Ag47 Sz47 a1 [(.int .i64 r_.1)] [(.slice pa0 pn0 pc0)] [] rfl rfl (fun _ => rfl)) _ (Chg.refl _ _))) ?_
  refine pl_val (.int .i64 (r_.2.length : Int)) (y_len' Sl47 (rs_len h0) rfl) ?_
  refine pl_val (.bool (decide (k83 < (r_.2.length : Int)))) (y_lss rfl rfl) ?_
  refine c_nil ?_
  refine c_condF (congrArg Value.bool (decide_eq_false hlt)) ?_
  refine wp_exit ?_
  exact ⟨rfl, _, fr_ovl 56 trivial, hC, hO, h0, a1⟩
 ·rintro k83 s81 o85 a a6 ⟨σ, rfl, hC, hO, h0, a1⟩ hlt hw hs
  refine c_seq ?_
  refine c_sr ?_
  refine pl_val (.int .i64 k83) (y_move rfl) ?_
  refine pl_val (.pointer (some ⟨a4, 1, none⟩)) (y_faddr rfl Fa54x1) ?_
  refine pl_val (.slice pa0 pn0 pc0) (y_load rfl ((box_load Ag47 Sz47 a1 [(.int .i64 r_.1)] [(.slice pa0 pn0 pc0)] [] rfl rfl (fun _ => rfl)) _ (Chg.refl _ _))) ?_
  refine pl_val (.int .i64 (r_.2.length : Int)) (y_len' Sl47 (rs_len h0) rfl) ?_
  refine pl_val (.bool (decide (k83 < (r_.2.length : Int)))) (y_lss rfl rfl) ?_
  refine c_nil ?_
  refine c_condT (congrArg Value.bool (decide_eq_true hlt)) ?_
  refine wp_skip ?_
  refine c_seq ?_
  refine wp_block ?_
  refine c_seq ?_
  refine x_start [] Mx rfl ?_
  have c2 := Chg.drew a6
  generalize World.drew a6 = f9 at c2 ⊢
  have h0 := h0.ext c2
  have a1 := a1.cn c2
  have hC := hC.ext c2
  have hO := hO.ext c2
  have hS := Chg.refl [] f9
  refine x_p 0 (.int .i64 n) rfl (by kernel_rfl)  (fun _ => y_move rfl) (fun _ => hS) ?_
  refine x_p 1 (.pointer (some ⟨a4, 0, none⟩)) rfl (by kernel_rfl)  (fun _ => y_faddr rfl Fa54x0) (fun _ => hS) ?_
  refine x_l 2 (.int .i64 r_.1) rfl (by kernel_rfl)  (fun w' hw' => y_load rfl ((box_load Ag3 Sz3 a1 [] [(.int .i64 r_.1)] [(.slice pa0 pn0 pc0)] rfl rfl (fun _ => rfl)) w' hw')) hS ?_
  refine x_p 3 (.pointer (some ⟨a4, 1, none⟩)) rfl (by kernel_rfl)  (fun _ => y_faddr rfl Fa54x1) (fun _ => hS) ?_
  refine x_l 4 (.slice pa0 pn0 pc0) rfl (by kernel_rfl)  (fun w' hw' => y_load rfl ((box_load Ag47 Sz47 a1 [(.int .i64 r_.1)] [(.slice pa0 pn0 pc0)] [] rfl rfl (fun _ => rfl)) w' hw')) hS ?_
  refine x_p 5 (.int .i64 k83) rfl (by kernel_rfl)  (fun _ => y_move rfl) (fun _ => hS) ?_
  obtain ⟨x88, g0, hs⟩ := bind_some hs
  obtain ⟨g1, g2, g3, g4⟩ := rs_idx Sl47 Sz41 h0 g0
  refine x_p 6 (.pointer (some ⟨g1, g2, none⟩)) rfl (by kernel_rfl)  (fun _ => g3 _ _ _ _ _ _ _ _ _ rfl rfl) (fun _ => hS) ?_
  obtain ⟨o4, g5, a5⟩ := at_load Ag41 Sz41 (fun _ => rfl) g4
  obtain ⟨g6, g7, g8, rfl⟩ := rs_sl a5
  refine x_l 7 (.slice g6 g7 g8) rfl (by kernel_rfl)  (fun w' hw' => y_load rfl (g5 w' hw')) hS ?_
  refine x_one (i := 8) (by kernel_rfl) ?_
  obtain ⟨r93, g9, hs⟩ := bind_some hs
  refine xk_call (b := false) rfl  Bd134 rfl (c_spec_l8Tuple (M := M) n r_.1 x88 a5 hO.fut g9) rfl (by rintro _ _ _ ⟨rfl, b8⟩; exact hS.ext b8) ?_
  rintro _ o5 ⟨rfl, b8⟩
  have h0 := h0.ext b8
  have a1 := a1.cn b8
  have a5 := a5.ext b8
  have hC := hC.ext b8
  have hO := hO.ext b8
  have hS := hS.ext b8
  refine x_p 9 (.bool (!r93)) rfl (by kernel_rfl)  (fun _ => y_not rfl) (fun _ => hS) ?_
  refine x_p 10 (.bool (!r93)) rfl (by kernel_rfl)  (fun _ => y_move rfl) (fun _ => hS) ?_
  rcases bif_some hs with ⟨a3, hs⟩ | ⟨a3, hs⟩
  ·skip
   refine x_pn 11 rfl (by kernel_rfl) (tg := 37) (by kernel_rfl) (congrArg Value.bool a3) (fun _ => hS) ?_
   refine x_pn 12 rfl (by kernel_rfl) (tg := 37) (by kernel_rfl) (congrArg Value.bool a3) (fun _ => hS) ?_
   refine x_pn 13 rfl (by kernel_rfl) (tg := 37) (by kernel_rfl) (congrArg Value.bool a3) (fun _ => hS) ?_
   refine x_pnu 14 rfl (by kernel_rfl) (tg := 40) (by kernel_rfl) rfl (fun _ => hS) ?_
   refine x_pnu 15 rfl (by kernel_rfl) (tg := 40) (by kernel_rfl) rfl (fun _ => hS) ?_
   refine x_pnu 16 rfl (by kernel_rfl) (tg := 40) (by kernel_rfl) rfl (fun _ => hS) ?_
   refine x_pnu 17 rfl (by kernel_rfl) (tg := 40) (by kernel_rfl) rfl (fun _ => hS) ?_
   refine x_pnu 18 rfl (by kernel_rfl) (tg := 40) (by kernel_rfl) rfl (fun _ => hS) ?_
   refine x_pnu 19 rfl (by kernel_rfl) (tg := 40) (by kernel_rfl) rfl (fun _ => hS) ?_
   refine x_pnu 20 rfl (by kernel_rfl) (tg := 40) (by kernel_rfl) rfl (fun _ => hS) ?_
   refine x_pnu 21 rfl (by kernel_rfl) (tg := 40) (by kernel_rfl) rfl (fun _ => hS) ?_
   refine x_pnu 22 rfl (by kernel_rfl) (tg := 40) (by kernel_rfl) rfl (fun _ => hS) ?_
   refine x_pnu 23 rfl (by kernel_rfl) (tg := 40) (by kernel_rfl) rfl (fun _ => hS) ?_
   refine x_pnu 24 rfl (by kernel_rfl) (tg := 40) (by kernel_rfl) rfl (fun _ => hS) ?_
   refine x_pnu 25 rfl (by kernel_rfl) (tg := 40) (by kernel_rfl) rfl (fun _ => hS) ?_
   refine x_pnu 26 rfl (by kernel_rfl) (tg := 40) (by kernel_rfl) rfl (fun _ => hS) ?_
   refine x_pn 27 rfl (by kernel_rfl) (tg := 37) (by kernel_rfl) (congrArg Value.bool a3) (fun _ => hS) ?_
   refine x_p 28 (.bool true) rfl (by kernel_rfl)  (fun _ => y_pick_t (congrArg Value.bool a3) rfl) (fun _ => hS) ?_
   refine x_end (by kernel_rfl) ?_
   clear hS
   refine c_condT (by rfl) ?_
   refine c_sr ?_
   refine pl_val (.bool false) (y_assign rfl) ?_
   refine c_nil ?_
   refine wp_ret ?_
   cases hs
   exact ⟨_, fr_ovl 56 ⟨rfl, trivial⟩, hC⟩
  refine x_py 11 (.int .i64 k83) rfl (by kernel_rfl) (tg := 37) (by kernel_rfl) (congrArg Value.bool a3) (fun _ => y_move rfl) (fun _ => hS) ?_
  refine x_py 12 (.bool (decide (0 < k83))) rfl (by kernel_rfl) (tg := 37) (by kernel_rfl) (congrArg Value.bool a3) (fun _ => y_gtr rfl rfl) (fun _ => hS) ?_
  refine x_py 13 (.bool (decide (0 < k83))) rfl (by kernel_rfl) (tg := 37) (by kernel_rfl) (congrArg Value.bool a3) (fun _ => y_move rfl) (fun _ => hS) ?_
  rcases bif_some hs with ⟨a0, hs⟩ | ⟨a0, hs⟩
  ·skip
   refine x_py 14 (.pointer (some ⟨a4, 1, none⟩)) rfl (by kernel_rfl) (tg := 40) (by kernel_rfl) (congrArg Value.bool a0) (fun _ => y_faddr rfl Fa54x1) (fun _ => hS) ?_
   refine x_py 16 (.int .i64 k83) rfl (by kernel_rfl) (tg := 40) (by kernel_rfl) (congrArg Value.bool a0) (fun _ => y_move rfl) (fun _ => hS) ?_
   refine x_py 17 (.int .i64 (w64 (k83 - 1))) rfl (by kernel_rfl) (tg := 40) (by kernel_rfl) (congrArg Value.bool a0) (fun _ => y_sub rfl rfl) (fun _ => hS) ?_
   refine x_py 20 (.pointer (some ⟨a4, 1, none⟩)) rfl (by kernel_rfl) (tg := 40) (by kernel_rfl) (congrArg Value.bool a0) (fun _ => y_faddr rfl Fa54x1) (fun _ => hS) ?_
   refine x_py 22 (.int .i64 k83) rfl (by kernel_rfl) (tg := 40) (by kernel_rfl) (congrArg Value.bool a0) (fun _ => y_move rfl) (fun _ => hS) ?_
   refine x_two (i := 15) (j := 21) (by kernel_rfl) ?_ ?_
   ·skip
    refine xk_valy (b := false) (.slice pa0 pn0 pc0) rfl (tg := 40) (by kernel_rfl) (congrArg Value.bool a0) (y_load rfl ((box_load Ag47 Sz47 a1 [(.int .i64 r_.1)] [(.slice pa0 pn0 pc0)] [] rfl rfl (fun _ => rfl)) _ (Chg.refl _ _))) rfl (fun _ => hS) ?_
    obtain ⟨x96, c5, hs⟩ := bind_some hs
    obtain ⟨h1, h2, h3, e0⟩ := rs_idx Sl47 Sz41 h0 c5
    refine x_py 18 (.pointer (some ⟨h1, h2, none⟩)) rfl (by kernel_rfl) (tg := 40) (by kernel_rfl) (congrArg Value.bool a0) (fun _ => h3 _ _ _ _ _ _ _ _ _ rfl rfl) (fun _ => hS) ?_
    refine x_two (i := 19) (j := 21) (by kernel_rfl) ?_ ?_
    ·skip
     obtain ⟨o6, h4, c6⟩ := at_load Ag41 Sz41 (fun _ => rfl) e0
     obtain ⟨h5, h6, h7, rfl⟩ := rs_sl c6
     refine xk_valy (b := false) (.slice h5 h6 h7) rfl (tg := 40) (by kernel_rfl) (congrArg Value.bool a0) (y_load rfl (h4 _ (Chg.refl _ _))) rfl (fun _ => hS) ?_
     refine x_one (i := 21) (by kernel_rfl) ?_
     refine xk_valy (b := false) (.slice pa0 pn0 pc0) rfl (tg := 40) (by kernel_rfl) (congrArg Value.bool a0) (y_load rfl ((box_load Ag47 Sz47 a1 [(.int .i64 r_.1)] [(.slice pa0 pn0 pc0)] [] rfl rfl (fun _ => rfl)) _ (Chg.refl _ _))) rfl (fun _ => hS) ?_
     obtain ⟨x100, c3, hs⟩ := bind_some hs
     obtain ⟨h8, h9, i0, i1⟩ := rs_idx Sl47 Sz41 h0 c3
     refine x_py 23 (.pointer (some ⟨h8, h9, none⟩)) rfl (by kernel_rfl) (tg := 40) (by kernel_rfl) (congrArg Value.bool a0) (fun _ => i0 _ _ _ _ _ _ _ _ _ rfl rfl) (fun _ => hS) ?_
     refine x_one (i := 24) (by kernel_rfl) ?_
     obtain ⟨o7, i2, c7⟩ := at_load Ag41 Sz41 (fun _ => rfl) i1
     obtain ⟨i3, i4, i5, rfl⟩ := rs_sl c7
     refine xk_valy (b := false) (.slice i3 i4 i5) rfl (tg := 40) (by kernel_rfl) (congrArg Value.bool a0) (y_load rfl (i2 _ (Chg.refl _ _))) rfl (fun _ => hS) ?_
     refine x_one (i := 25) (by kernel_rfl) ?_
     obtain ⟨r105, a7, hs⟩ := bind_some hs
     refine xk_cally (b := false) rfl (tg := 40) (by kernel_rfl) (congrArg Value.bool a0) Bd135 rfl (c_spec_l3Less (M := M) x96 x100 c6 c7 hO.fut a7) rfl (by rintro _ _ _ ⟨rfl, a8⟩; exact hS.ext a8) ?_
     rintro _ o8 ⟨rfl, a8⟩
     have h0 := h0.ext a8
     have a1 := a1.cn a8
     have a5 := a5.ext a8
     have c6 := c6.ext a8
     have c7 := c7.ext a8
     have hC := hC.ext a8
     have hO := hO.ext a8
     have hS := hS.ext a8
     refine x_py 26 (.bool (!r105)) rfl (by kernel_rfl) (tg := 40) (by kernel_rfl) (congrArg Value.bool a0) (fun _ => y_not rfl) (fun _ => hS) ?_
     refine x_py 27 (.bool (!r105)) rfl (by kernel_rfl) (tg := 37) (by kernel_rfl) (congrArg Value.bool a3) (fun _ => y_pick_t (congrArg Value.bool a0) rfl) (fun _ => hS) ?_
     refine x_p 28 (.bool (!r105)) rfl (by kernel_rfl)  (fun _ => y_pick_f (congrArg Value.bool a3) rfl) (fun _ => hS) ?_
     refine x_end (by kernel_rfl) ?_
     clear hS
     rcases bif_some hs with ⟨e1, hs⟩ | ⟨e1, hs⟩
     ·refine c_condT (congrArg Value.bool e1) ?_
      refine c_sr ?_
      refine pl_val (.bool false) (y_assign rfl) ?_
      refine c_nil ?_
      refine wp_ret ?_
      cases hs
      exact ⟨_, fr_ovl 56 ⟨rfl, trivial⟩, hC⟩
     refine c_condF (congrArg Value.bool e1) ?_
     refine wp_skip ?_
     refine c_region ?_
     refine pl_val (.int .i64 k83) (y_move rfl) ?_
     refine pl_val (.int .i64 (w64 (k83 + 1))) (y_add rfl rfl) ?_
     refine pl_val (.int .i64 (w64 (k83 + 1))) (y_assign rfl) ?_
     refine c_nil ?_
     cases hs
     exact ⟨_, fr_ovl 56 ⟨rfl, rfl, congrArg (Value.int .i64) hw, trivial⟩, hC, hO, h0, a1⟩
    ·skip
     refine xk_valy (b := false) (.slice pa0 pn0 pc0) rfl (tg := 40) (by kernel_rfl) (congrArg Value.bool a0) (y_load rfl ((box_load Ag47 Sz47 a1 [(.int .i64 r_.1)] [(.slice pa0 pn0 pc0)] [] rfl rfl (fun _ => rfl)) _ (Chg.refl _ _))) rfl (fun _ => hS) ?_
     obtain ⟨x100, c3, hs⟩ := bind_some hs
     obtain ⟨i6, i7, i9, f1⟩ := rs_idx Sl47 Sz41 h0 c3
     refine x_py 23 (.pointer (some ⟨i6, i7, none⟩)) rfl (by kernel_rfl) (tg := 40) (by kernel_rfl) (congrArg Value.bool a0) (fun _ => i9 _ _ _ _ _ _ _ _ _ rfl rfl) (fun _ => hS) ?_
     refine x_two (i := 19) (j := 24) (by kernel_rfl) ?_ ?_
     ·skip
      obtain ⟨o9, j0, c8⟩ := at_load Ag41 Sz41 (fun _ => rfl) e0
      obtain ⟨j1, j2, j3, rfl⟩ := rs_sl c8
      refine xk_valy (b := false) (.slice j1 j2 j3) rfl (tg := 40) (by kernel_rfl) (congrArg Value.bool a0) (y_load rfl (j0 _ (Chg.refl _ _))) rfl (fun _ => hS) ?_
      refine x_one (i := 24) (by kernel_rfl) ?_
      obtain ⟨p0, j4, c9⟩ := at_load Ag41 Sz41 (fun _ => rfl) f1
      obtain ⟨j5, j6, j7, rfl⟩ := rs_sl c9
      refine xk_valy (b := false) (.slice j5 j6 j7) rfl (tg := 40) (by kernel_rfl) (congrArg Value.bool a0) (y_load rfl (j4 _ (Chg.refl _ _))) rfl (fun _ => hS) ?_
      refine x_one (i := 25) (by kernel_rfl) ?_
      obtain ⟨r105, a7, hs⟩ := bind_some hs
      refine xk_cally (b := false) rfl (tg := 40) (by kernel_rfl) (congrArg Value.bool a0) Bd135 rfl (c_spec_l3Less (M := M) x96 x100 c8 c9 hO.fut a7) rfl (by rintro _ _ _ ⟨rfl, a9⟩; exact hS.ext a9) ?_
      rintro _ p1 ⟨rfl, a9⟩
      have h0 := h0.ext a9
      have a1 := a1.cn a9
      have a5 := a5.ext a9
      have c8 := c8.ext a9
      have c9 := c9.ext a9
      have hC := hC.ext a9
      have hO := hO.ext a9
      have hS := hS.ext a9
      refine x_py 26 (.bool (!r105)) rfl (by kernel_rfl) (tg := 40) (by kernel_rfl) (congrArg Value.bool a0) (fun _ => y_not rfl) (fun _ => hS) ?_
      refine x_py 27 (.bool (!r105)) rfl (by kernel_rfl) (tg := 37) (by kernel_rfl) (congrArg Value.bool a3) (fun _ => y_pick_t (congrArg Value.bool a0) rfl) (fun _ => hS) ?_
      refine x_p 28 (.bool (!r105)) rfl (by kernel_rfl)  (fun _ => y_pick_f (congrArg Value.bool a3) rfl) (fun _ => hS) ?_
      refine x_end (by kernel_rfl) ?_
      clear hS
      rcases bif_some hs with ⟨e2, hs⟩ | ⟨e2, hs⟩
      ·refine c_condT (congrArg Value.bool e2) ?_
       refine c_sr ?_
       refine pl_val (.bool false) (y_assign rfl) ?_
       refine c_nil ?_
       refine wp_ret ?_
       cases hs
       exact ⟨_, fr_ovl 56 ⟨rfl, trivial⟩, hC⟩
      refine c_condF (congrArg Value.bool e2) ?_
      refine wp_skip ?_
      refine c_region ?_
      refine pl_val (.int .i64 k83) (y_move rfl) ?_
      refine pl_val (.int .i64 (w64 (k83 + 1))) (y_add rfl rfl) ?_
      refine pl_val (.int .i64 (w64 (k83 + 1))) (y_assign rfl) ?_
      refine c_nil ?_
      cases hs
      exact ⟨_, fr_ovl 56 ⟨rfl, rfl, congrArg (Value.int .i64) hw, trivial⟩, hC, hO, h0, a1⟩
     ·skip
      obtain ⟨p2, j8, d0⟩ := at_load Ag41 Sz41 (fun _ => rfl) f1
      obtain ⟨j9, k0, k1, rfl⟩ := rs_sl d0
      refine xk_valy (b := false) (.slice j9 k0 k1) rfl (tg := 40) (by kernel_rfl) (congrArg Value.bool a0) (y_load rfl (j8 _ (Chg.refl _ _))) rfl (fun _ => hS) ?_
      refine x_one (i := 19) (by kernel_rfl) ?_
      obtain ⟨p3, k2, d1⟩ := at_load Ag41 Sz41 (fun _ => rfl) e0
      obtain ⟨k3, k4, k5, rfl⟩ := rs_sl d1
      refine xk_valy (b := false) (.slice k3 k4 k5) rfl (tg := 40) (by kernel_rfl) (congrArg Value.bool a0) (y_load rfl (k2 _ (Chg.refl _ _))) rfl (fun _ => hS) ?_
      refine x_one (i := 25) (by kernel_rfl) ?_
      obtain ⟨r105, a7, hs⟩ := bind_some hs
      refine xk_cally (b := false) rfl (tg := 40) (by kernel_rfl) (congrArg Value.bool a0) Bd135 rfl (c_spec_l3Less (M := M) x96 x100 d1 d0 hO.fut a7) rfl (by rintro _ _ _ ⟨rfl, b0⟩; exact hS.ext b0) ?_
      rintro _ p4 ⟨rfl, b0⟩
      have h0 := h0.ext b0
      have a1 := a1.cn b0
      have a5 := a5.ext b0
      have d0 := d0.ext b0
      have d1 := d1.ext b0
      have hC := hC.ext b0
      have hO := hO.ext b0
      have hS := hS.ext b0
      refine x_py 26 (.bool (!r105)) rfl (by kernel_rfl) (tg := 40) (by kernel_rfl) (congrArg Value.bool a0) (fun _ => y_not rfl) (fun _ => hS) ?_
      refine x_py 27 (.bool (!r105)) rfl (by kernel_rfl) (tg := 37) (by kernel_rfl) (congrArg Value.bool a3) (fun _ => y_pick_t (congrArg Value.bool a0) rfl) (fun _ => hS) ?_
      refine x_p 28 (.bool (!r105)) rfl (by kernel_rfl)  (fun _ => y_pick_f (congrArg Value.bool a3) rfl) (fun _ => hS) ?_
      refine x_end (by kernel_rfl) ?_
      clear hS
      rcases bif_some hs with ⟨e3, hs⟩ | ⟨e3, hs⟩
      ·refine c_condT (congrArg Value.bool e3) ?_
       refine c_sr ?_
       refine pl_val (.bool false) (y_assign rfl) ?_
       refine c_nil ?_
       refine wp_ret ?_
       cases hs
       exact ⟨_, fr_ovl 56 ⟨rfl, trivial⟩, hC⟩
      refine c_condF (congrArg Value.bool e3) ?_
      refine wp_skip ?_
      refine c_region ?_
      refine pl_val (.int .i64 k83) (y_move rfl) ?_
      refine pl_val (.int .i64 (w64 (k83 + 1))) (y_add rfl rfl) ?_
      refine pl_val (.int .i64 (w64 (k83 + 1))) (y_assign rfl) ?_
      refine c_nil ?_
      cases hs
      exact ⟨_, fr_ovl 56 ⟨rfl, rfl, congrArg (Value.int .i64) hw, trivial⟩, hC, hO, h0, a1⟩
   ·skip
    refine xk_valy (b := false) (.slice pa0 pn0 pc0) rfl (tg := 40) (by kernel_rfl) (congrArg Value.bool a0) (y_load rfl ((box_load Ag47 Sz47 a1 [(.int .i64 r_.1)] [(.slice pa0 pn0 pc0)] [] rfl rfl (fun _ => rfl)) _ (Chg.refl _ _))) rfl (fun _ => hS) ?_
    obtain ⟨x96, c5, hs⟩ := bind_some hs
    obtain ⟨x100, c3, hs⟩ := bind_some hs
    obtain ⟨k6, k7, k8, e4⟩ := rs_idx Sl47 Sz41 h0 c3
    refine x_py 23 (.pointer (some ⟨k6, k7, none⟩)) rfl (by kernel_rfl) (tg := 40) (by kernel_rfl) (congrArg Value.bool a0) (fun _ => k8 _ _ _ _ _ _ _ _ _ rfl rfl) (fun _ => hS) ?_
    refine x_two (i := 15) (j := 24) (by kernel_rfl) ?_ ?_
    ·skip
     refine xk_valy (b := false) (.slice pa0 pn0 pc0) rfl (tg := 40) (by kernel_rfl) (congrArg Value.bool a0) (y_load rfl ((box_load Ag47 Sz47 a1 [(.int .i64 r_.1)] [(.slice pa0 pn0 pc0)] [] rfl rfl (fun _ => rfl)) _ (Chg.refl _ _))) rfl (fun _ => hS) ?_
     obtain ⟨k9, l0, l1, f2⟩ := rs_idx Sl47 Sz41 h0 c5
     refine x_py 18 (.pointer (some ⟨k9, l0, none⟩)) rfl (by kernel_rfl) (tg := 40) (by kernel_rfl) (congrArg Value.bool a0) (fun _ => l1 _ _ _ _ _ _ _ _ _ rfl rfl) (fun _ => hS) ?_
     refine x_two (i := 19) (j := 24) (by kernel_rfl) ?_ ?_
     ·skip
      obtain ⟨p5, l2, d2⟩ := at_load Ag41 Sz41 (fun _ => rfl) f2
      obtain ⟨l3, l4, l5, rfl⟩ := rs_sl d2
      refine xk_valy (b := false) (.slice l3 l4 l5) rfl (tg := 40) (by kernel_rfl) (congrArg Value.bool a0) (y_load rfl (l2 _ (Chg.refl _ _))) rfl (fun _ => hS) ?_
      refine x_one (i := 24) (by kernel_rfl) ?_
      obtain ⟨p6, l6, d3⟩ := at_load Ag41 Sz41 (fun _ => rfl) e4
      obtain ⟨l7, l8, l9, rfl⟩ := rs_sl d3
      refine xk_valy (b := false) (.slice l7 l8 l9) rfl (tg := 40) (by kernel_rfl) (congrArg Value.bool a0) (y_load rfl (l6 _ (Chg.refl _ _))) rfl (fun _ => hS) ?_
      refine x_one (i := 25) (by kernel_rfl) ?_
      obtain ⟨r105, a7, hs⟩ := bind_some hs
      refine xk_cally (b := false) rfl (tg := 40) (by kernel_rfl) (congrArg Value.bool a0) Bd135 rfl (c_spec_l3Less (M := M) x96 x100 d2 d3 hO.fut a7) rfl (by rintro _ _ _ ⟨rfl, b1⟩; exact hS.ext b1) ?_
      rintro _ p7 ⟨rfl, b1⟩
      have h0 := h0.ext b1
      have a1 := a1.cn b1
      have a5 := a5.ext b1
      have d2 := d2.ext b1
      have d3 := d3.ext b1
      have hC := hC.ext b1
      have hO := hO.ext b1
      have hS := hS.ext b1
      refine x_py 26 (.bool (!r105)) rfl (by kernel_rfl) (tg := 40) (by kernel_rfl) (congrArg Value.bool a0) (fun _ => y_not rfl) (fun _ => hS) ?_
      refine x_py 27 (.bool (!r105)) rfl (by kernel_rfl) (tg := 37) (by kernel_rfl) (congrArg Value.bool a3) (fun _ => y_pick_t (congrArg Value.bool a0) rfl) (fun _ => hS) ?_
      refine x_p 28 (.bool (!r105)) rfl (by kernel_rfl)  (fun _ => y_pick_f (congrArg Value.bool a3) rfl) (fun _ => hS) ?_
      refine x_end (by kernel_rfl) ?_
      clear hS
      rcases bif_some hs with ⟨e5, hs⟩ | ⟨e5, hs⟩
      ·refine c_condT (congrArg Value.bool e5) ?_
       refine c_sr ?_
       refine pl_val (.bool false) (y_assign rfl) ?_
       refine c_nil ?_
       refine wp_ret ?_
       cases hs
       exact ⟨_, fr_ovl 56 ⟨rfl, trivial⟩, hC⟩
      refine c_condF (congrArg Value.bool e5) ?_
      refine wp_skip ?_
      refine c_region ?_
      refine pl_val (.int .i64 k83) (y_move rfl) ?_
      refine pl_val (.int .i64 (w64 (k83 + 1))) (y_add rfl rfl) ?_
      refine pl_val (.int .i64 (w64 (k83 + 1))) (y_assign rfl) ?_
      refine c_nil ?_
      cases hs
      exact ⟨_, fr_ovl 56 ⟨rfl, rfl, congrArg (Value.int .i64) hw, trivial⟩, hC, hO, h0, a1⟩
     ·skip
      obtain ⟨p8, m0, d4⟩ := at_load Ag41 Sz41 (fun _ => rfl) e4
      obtain ⟨m1, m2, m3, rfl⟩ := rs_sl d4
      refine xk_valy (b := false) (.slice m1 m2 m3) rfl (tg := 40) (by kernel_rfl) (congrArg Value.bool a0) (y_load rfl (m0 _ (Chg.refl _ _))) rfl (fun _ => hS) ?_
      refine x_one (i := 19) (by kernel_rfl) ?_
      obtain ⟨p9, m4, d5⟩ := at_load Ag41 Sz41 (fun _ => rfl) f2
      obtain ⟨m5, m6, m7, rfl⟩ := rs_sl d5
      refine xk_valy (b := false) (.slice m5 m6 m7) rfl (tg := 40) (by kernel_rfl) (congrArg Value.bool a0) (y_load rfl (m4 _ (Chg.refl _ _))) rfl (fun _ => hS) ?_
      refine x_one (i := 25) (by kernel_rfl) ?_
      obtain ⟨r105, a7, hs⟩ := bind_some hs
      refine xk_cally (b := false) rfl (tg := 40) (by kernel_rfl) (congrArg Value.bool a0) Bd135 rfl (c_spec_l3Less (M := M) x96 x100 d5 d4 hO.fut a7) rfl (by rintro _ _ _ ⟨rfl, b2⟩; exact hS.ext b2) ?_
      rintro _ q0 ⟨rfl, b2⟩
      have h0 := h0.ext b2
      have a1 := a1.cn b2
      have a5 := a5.ext b2
      have d4 := d4.ext b2
      have d5 := d5.ext b2
      have hC := hC.ext b2
      have hO := hO.ext b2
      have hS := hS.ext b2
      refine x_py 26 (.bool (!r105)) rfl (by kernel_rfl) (tg := 40) (by kernel_rfl) (congrArg Value.bool a0) (fun _ => y_not rfl) (fun _ => hS) ?_
      refine x_py 27 (.bool (!r105)) rfl (by kernel_rfl) (tg := 37) (by kernel_rfl) (congrArg Value.bool a3) (fun _ => y_pick_t (congrArg Value.bool a0) rfl) (fun _ => hS) ?_
      refine x_p 28 (.bool (!r105)) rfl (by kernel_rfl)  (fun _ => y_pick_f (congrArg Value.bool a3) rfl) (fun _ => hS) ?_
      refine x_end (by kernel_rfl) ?_
      clear hS
      rcases bif_some hs with ⟨e6, hs⟩ | ⟨e6, hs⟩
      ·refine c_condT (congrArg Value.bool e6) ?_
       refine c_sr ?_
       refine pl_val (.bool false) (y_assign rfl) ?_
       refine c_nil ?_
       refine wp_ret ?_
       cases hs
       exact ⟨_, fr_ovl 56 ⟨rfl, trivial⟩, hC⟩
      refine c_condF (congrArg Value.bool e6) ?_
      refine wp_skip ?_
      refine c_region ?_
      refine pl_val (.int .i64 k83) (y_move rfl) ?_
      refine pl_val (.int .i64 (w64 (k83 + 1))) (y_add rfl rfl) ?_
      refine pl_val (.int .i64 (w64 (k83 + 1))) (y_assign rfl) ?_
      refine c_nil ?_
      cases hs
      exact ⟨_, fr_ovl 56 ⟨rfl, rfl, congrArg (Value.int .i64) hw, trivial⟩, hC, hO, h0, a1⟩
    ·skip
     obtain ⟨q1, m8, d6⟩ := at_load Ag41 Sz41 (fun _ => rfl) e4
     obtain ⟨m9, n0, n1, rfl⟩ := rs_sl d6
     refine xk_valy (b := false) (.slice m9 n0 n1) rfl (tg := 40) (by kernel_rfl) (congrArg Value.bool a0) (y_load rfl (m8 _ (Chg.refl _ _))) rfl (fun _ => hS) ?_
     refine x_one (i := 15) (by kernel_rfl) ?_
     refine xk_valy (b := false) (.slice pa0 pn0 pc0) rfl (tg := 40) (by kernel_rfl) (congrArg Value.bool a0) (y_load rfl ((box_load Ag47 Sz47 a1 [(.int .i64 r_.1)] [(.slice pa0 pn0 pc0)] [] rfl rfl (fun _ => rfl)) _ (Chg.refl _ _))) rfl (fun _ => hS) ?_
     obtain ⟨n2, n3, n4, n5⟩ := rs_idx Sl47 Sz41 h0 c5
     refine x_py 18 (.pointer (some ⟨n2, n3, none⟩)) rfl (by kernel_rfl) (tg := 40) (by kernel_rfl) (congrArg Value.bool a0) (fun _ => n4 _ _ _ _ _ _ _ _ _ rfl rfl) (fun _ => hS) ?_
     refine x_one (i := 19) (by kernel_rfl) ?_
     obtain ⟨q2, n6, d7⟩ := at_load Ag41 Sz41 (fun _ => rfl) n5
     obtain ⟨n7, n8, n9, rfl⟩ := rs_sl d7
     refine xk_valy (b := false) (.slice n7 n8 n9) rfl (tg := 40) (by kernel_rfl) (congrArg Value.bool a0) (y_load rfl (n6 _ (Chg.refl _ _))) rfl (fun _ => hS) ?_
     refine x_one (i := 25) (by kernel_rfl) ?_
     obtain ⟨r105, a7, hs⟩ := bind_some hs
     refine xk_cally (b := false) rfl (tg := 40) (by kernel_rfl) (congrArg Value.bool a0) Bd135 rfl (c_spec_l3Less (M := M) x96 x100 d7 d6 hO.fut a7) rfl (by rintro _ _ _ ⟨rfl, b3⟩; exact hS.ext b3) ?_
     rintro _ q3 ⟨rfl, b3⟩
     have h0 := h0.ext b3
     have a1 := a1.cn b3
     have a5 := a5.ext b3
     have d6 := d6.ext b3
     have d7 := d7.ext b3
     have hC := hC.ext b3
     have hO := hO.ext b3
     have hS := hS.ext b3
     refine x_py 26 (.bool (!r105)) rfl (by kernel_rfl) (tg := 40) (by kernel_rfl) (congrArg Value.bool a0) (fun _ => y_not rfl) (fun _ => hS) ?_
     refine x_py 27 (.bool (!r105)) rfl (by kernel_rfl) (tg := 37) (by kernel_rfl) (congrArg Value.bool a3) (fun _ => y_pick_t (congrArg Value.bool a0) rfl) (fun _ => hS) ?_
     refine x_p 28 (.bool (!r105)) rfl (by kernel_rfl)  (fun _ => y_pick_f (congrArg Value.bool a3) rfl) (fun _ => hS) ?_
     refine x_end (by kernel_rfl) ?_
     clear hS
     rcases bif_some hs with ⟨e7, hs⟩ | ⟨e7, hs⟩
     ·refine c_condT (congrArg Value.bool e7) ?_
      refine c_sr ?_
      refine pl_val (.bool false) (y_assign rfl) ?_
      refine c_nil ?_
      refine wp_ret ?_
      cases hs
      exact ⟨_, fr_ovl 56 ⟨rfl, trivial⟩, hC⟩
     refine c_condF (congrArg Value.bool e7) ?_
     refine wp_skip ?_
     refine c_region ?_
     refine pl_val (.int .i64 k83) (y_move rfl) ?_
     refine pl_val (.int .i64 (w64 (k83 + 1))) (y_add rfl rfl) ?_
     refine pl_val (.int .i64 (w64 (k83 + 1))) (y_assign rfl) ?_
     refine c_nil ?_
     cases hs
     exact ⟨_, fr_ovl 56 ⟨rfl, rfl, congrArg (Value.int .i64) hw, trivial⟩, hC, hO, h0, a1⟩
  refine x_pn 14 rfl (by kernel_rfl) (tg := 40) (by kernel_rfl) (congrArg Value.bool a0) (fun _ => hS) ?_
  refine x_pn 15 rfl (by kernel_rfl) (tg := 40) (by kernel_rfl) (congrArg Value.bool a0) (fun _ => hS) ?_
  refine x_pn 16 rfl (by kernel_rfl) (tg := 40) (by kernel_rfl) (congrArg Value.bool a0) (fun _ => hS) ?_
  refine x_pn 17 rfl (by kernel_rfl) (tg := 40) (by kernel_rfl) (congrArg Value.bool a0) (fun _ => hS) ?_
  refine x_pn 18 rfl (by kernel_rfl) (tg := 40) (by kernel_rfl) (congrArg Value.bool a0) (fun _ => hS) ?_
  refine x_pn 19 rfl (by kernel_rfl) (tg := 40) (by kernel_rfl) (congrArg Value.bool a0) (fun _ => hS) ?_
  refine x_pn 20 rfl (by kernel_rfl) (tg := 40) (by kernel_rfl) (congrArg Value.bool a0) (fun _ => hS) ?_
  refine x_pn 21 rfl (by kernel_rfl) (tg := 40) (by kernel_rfl) (congrArg Value.bool a0) (fun _ => hS) ?_
  refine x_pn 22 rfl (by kernel_rfl) (tg := 40) (by kernel_rfl) (congrArg Value.bool a0) (fun _ => hS) ?_
  refine x_pn 23 rfl (by kernel_rfl) (tg := 40) (by kernel_rfl) (congrArg Value.bool a0) (fun _ => hS) ?_
  refine x_pn 24 rfl (by kernel_rfl) (tg := 40) (by kernel_rfl) (congrArg Value.bool a0) (fun _ => hS) ?_
  refine x_pn 25 rfl (by kernel_rfl) (tg := 40) (by kernel_rfl) (congrArg Value.bool a0) (fun _ => hS) ?_
  refine x_pn 26 rfl (by kernel_rfl) (tg := 40) (by kernel_rfl) (congrArg Value.bool a0) (fun _ => hS) ?_
  refine x_py 27 (.bool false) rfl (by kernel_rfl) (tg := 37) (by kernel_rfl) (congrArg Value.bool a3) (fun _ => y_pick_f (congrArg Value.bool a0) rfl) (fun _ => hS) ?_
  refine x_p 28 (.bool false) rfl (by kernel_rfl)  (fun _ => y_pick_f (congrArg Value.bool a3) rfl) (fun _ => hS) ?_
  refine x_end (by kernel_rfl) ?_
  clear hS
  refine c_condF (by rfl) ?_
  refine wp_skip ?_
  refine c_region ?_
  refine pl_val (.int .i64 k83) (y_move rfl) ?_
  refine pl_val (.int .i64 (w64 (k83 + 1))) (y_add rfl rfl) ?_
  refine pl_val (.int .i64 (w64 (k83 + 1))) (y_assign rfl) ?_
  refine c_nil ?_
  cases hs
  exact ⟨_, fr_ovl 56 ⟨rfl, rfl, congrArg (Value.int .i64) hw, trivial⟩, hC, hO, h0, a1⟩
 ·skip
  exact ⟨_, fr_ovl 56 ⟨rfl, rfl, rfl, trivial⟩, hC, hO, h0, a1⟩
 cases o85 with
 | nx _ => exact True.intro
 | rt r_ =>
  have hs := after_rt hs
  intro f0 f3 hK
  cases hs
  exact hK
 | br s81 =>
  have hs := after_br hs
  rintro f0 a6 ⟨σ, rfl, hC, hO, h0, a1⟩
  refine c_sr ?_
  refine pl_val (.bool true) (y_assign rfl) ?_
  refine c_nil ?_
  refine wp_ret ?_
  cases hs
  exact ⟨_, fr_ovl 56 ⟨rfl, trivial⟩, hC⟩

theorem Bd115 : Bodied Try.prog 115 := bodied Try.func115 (by kernel_rfl) rfl

def k_spec_l14Rels (M : Nat → Prop) (w0 : World) (r : Bool) (a : Act) (w : World) : Prop :=
  ∃ (σ : Nat → Value) , a = fr 22 (ovl σ [(4, (.bool r))]) ∧ Chg [] w0 w
def s_spec_l14Rels (n : Int) (rels : List (Int × (List (List Int)))) : Option (Bool) :=
  (bif (decide (4 < (rels.length : Int))) then some false else (forC (S := Unit) (R := Bool) (fun k12 s10 =>
  (idx rels k12).bind fun x16 =>
  (s_spec_l13Good n (x16.1, x16.2)).bind fun r21 =>
  (bif (!r21) then some (.rt false) else some (.nx ()))) 0 (rels.length : Int) ()).bind fun o14 => after o14 (fun r_ => some r_) (fun s10 =>
  some true))
set_option maxHeartbeats 4000000 in
theorem c_spec_l14Rels {M : Nat → Prop} {w : World} {pa0 : Option Addr} {pn0 pc0 : Nat} (n : Int) (rels : List (Int × (List (List Int)))) (h0 : (RT.rs (RT.pr (RT.int .i64) (RT.rs (RT.rs (RT.int .i64))))).val M w (.slice pa0 pn0 pc0) rels ([])) (hM : ∀ g, w.heap.size ≤ g → M g) {r : Bool} (hs : s_spec_l14Rels n rels = some r) :
    Gives Try.prog 125 [(.int .i64 n), (.slice pa0 pn0 pc0)] w (fun v w' => v = (.bool r) ∧ Chg [] w w') := by
 refine calls_fr Try.func125 rfl Try.ntmps125 (Nat.le_of_ble_eq_true rfl) ?_
 have hO := Own.start (N := Nw w []) hM Nw.fut
 have hC := Chg.refl [] w
 unfold s_spec_l14Rels at hs
 refine wp_mono (Q := KPost (k_spec_l14Rels M w r)) ?_ (fun e a a5 h => ?_)
 rotate_left
 ·cases e
  case ret =>
   obtain ⟨σ, rfl, hrest⟩ := h
   exact ret1x Try.results125 (res_tmp rfl) ⟨rfl, hrest⟩
  all_goals exact (h : False).elim
 refine c_sr ?_
 refine pl_val (.bool false) (y_assign rfl) ?_
 refine c_nil ?_
 refine c_seq ?_
 refine c_sr ?_
 refine pl_val (.slice pa0 pn0 pc0) (y_move rfl) ?_
 refine pl_val (.int .i64 (rels.length : Int)) (y_len' Sl37 (rs_len h0) rfl) ?_
 refine pl_val (.bool (decide (4 < (rels.length : Int)))) (y_gtr rfl rfl) ?_
 refine c_nil ?_
 rcases bif_some hs with ⟨a2, hs⟩ | ⟨a2, hs⟩
 ·refine c_condT (congrArg Value.bool a2) ?_
  refine c_sr ?_
  refine pl_val (.bool false) (y_assign rfl) ?_
  refine c_nil ?_
  refine wp_ret ?_
  cases hs
  exact ⟨_, fr_ovl 22 ⟨rfl, trivial⟩, hC⟩
 refine c_condF (congrArg Value.bool a2) ?_
 refine wp_skip ?_
 refine c_seq ?_
 refine c_sr ?_
 refine pl_val (.int .i64 0) (y_assign rfl) ?_
 refine c_nil ?_
 obtain ⟨o14, a6, hs⟩ := bind_some hs
 refine wp_block ?_
 refine wp_forC (id := 0) (rels.length : Int) (I := fun k12 s10 a a0 => ∃ (σ : Nat → Value), a = fr 22 (ovl σ [(0, (.int .i64 n)), (1, (.slice pa0 pn0 pc0)), (5, (.int .i64 k12))]) ∧ Chg [] w a0 ∧ Own (Nw w []) M a0 ([]) ∧ (RT.rs (RT.pr (RT.int .i64) (RT.rs (RT.rs (RT.int .i64))))).val M a0 (.slice pa0 pn0 pc0) rels ([])) (J := fun s10 a a0 => ∃ (σ : Nat → Value), a = fr 22 (ovl σ []) ∧ Chg [] w a0 ∧ Own (Nw w []) M a0 ([]) ∧ (RT.rs (RT.pr (RT.int .i64) (RT.rs (RT.rs (RT.int .i64))))).val M a0 (.slice pa0 pn0 pc0) rels ([])) (K := (k_spec_l14Rels M w)) ?_ ?_ 0 () o14 _ _ ?_ a6 ?_
 ·rintro k12 s10 a a0 ⟨σ, rfl, hC, hO, h0⟩ hlt
  refine c_seq ?_
  refine c_sr ?_
  refine pl_val (.int .i64 k12) (y_move rfl) ?_
  refine pl_val (.slice pa0 pn0 pc0) (y_move rfl) ?_
  refine pl_val (.int .i64 (rels.length : Int)) (y_len' Sl37 (rs_len h0) rfl) ?_
  refine pl_val (.bool (decide (k12 < (rels.length : Int)))) (y_lss rfl rfl) ?_
  refine c_nil ?_
  refine c_condF (congrArg Value.bool (decide_eq_false hlt)) ?_
  refine wp_exit ?_
  exact ⟨rfl, _, fr_ovl 22 trivial, hC, hO, h0⟩
 ·rintro k12 s10 o14 a a0 ⟨σ, rfl, hC, hO, h0⟩ hlt hw hs
  refine c_seq ?_
  refine c_sr ?_
  refine pl_val (.int .i64 k12) (y_move rfl) ?_
  refine pl_val (.slice pa0 pn0 pc0) (y_move rfl) ?_
  refine pl_val (.int .i64 (rels.length : Int)) (y_len' Sl37 (rs_len h0) rfl) ?_
  refine pl_val (.bool (decide (k12 < (rels.length : Int)))) (y_lss rfl rfl) ?_
  refine c_nil ?_
  refine c_condT (congrArg Value.bool (decide_eq_true hlt)) ?_
  refine wp_skip ?_
  refine c_seq ?_
  refine wp_block ?_
  refine c_sr ?_
  refine pl_val (.int .i64 n) (y_move rfl) ?_
  refine pl_val (.slice pa0 pn0 pc0) (y_move rfl) ?_
  refine pl_val (.int .i64 k12) (y_move rfl) ?_
  obtain ⟨x16, a7, hs⟩ := bind_some hs
  obtain ⟨a8, a9, b0, b1⟩ := rs_idx Sl37 Sz54 h0 a7
  refine pl_val (.pointer (some ⟨a8, a9, none⟩)) (b0 _ _ _ _ _ _ _ _ _ rfl rfl) ?_
  obtain ⟨c2, b2, b3⟩ := at_load Ag54 Sz54 (by intro h; cases h) b1
  obtain ⟨c3, rfl, b4⟩ := b3
  obtain ⟨c4, c5, rfl, b5, b6⟩ := pr_open b4
  obtain rfl := int_rel b5
  obtain ⟨b7, b8, b9, rfl, a3⟩ := rs_rel b6
  refine pl_val (.agg #[(.int .i64 x16.1), (.slice b7 b8 b9)]) (y_load rfl (b2 _ (Chg.refl _ _))) ?_
  obtain ⟨r21, c0, hs⟩ := bind_some hs
  refine pl_call Bd115 rfl (c_spec_l13Good (M := M) n (x16.1, x16.2) a3 hO.fut c0) ?_
  rintro _ c6 ⟨rfl, a1⟩
  have h0 := h0.ext a1
  have a3 := a3.ext a1
  have hC := hC.ext a1
  have hO := hO.ext a1
  refine pl_val (.bool (!r21)) (y_not rfl) ?_
  refine c_nil ?_
  rcases bif_some hs with ⟨a4, hs⟩ | ⟨a4, hs⟩
  ·refine c_condT (congrArg Value.bool a4) ?_
   refine c_sr ?_
   refine pl_val (.bool false) (y_assign rfl) ?_
   refine c_nil ?_
   refine wp_ret ?_
   cases hs
   exact ⟨_, fr_ovl 22 ⟨rfl, trivial⟩, hC⟩
  refine c_condF (congrArg Value.bool a4) ?_
  refine wp_skip ?_
  refine c_region ?_
  refine pl_val (.int .i64 k12) (y_move rfl) ?_
  refine pl_val (.int .i64 (w64 (k12 + 1))) (y_add rfl rfl) ?_
  refine pl_val (.int .i64 (w64 (k12 + 1))) (y_assign rfl) ?_
  refine c_nil ?_
  cases hs
  exact ⟨_, fr_ovl 22 ⟨rfl, rfl, congrArg (Value.int .i64) hw, trivial⟩, hC, hO, h0⟩
 ·skip
  exact ⟨_, fr_ovl 22 ⟨rfl, rfl, rfl, trivial⟩, hC, hO, h0⟩
 cases o14 with
 | nx _ => exact True.intro
 | rt r_ =>
  have hs := after_rt hs
  intro c1 a5 hK
  cases hs
  exact hK
 | br s10 =>
  have hs := after_br hs
  rintro c1 a0 ⟨σ, rfl, hC, hO, h0⟩
  refine c_sr ?_
  refine pl_val (.bool true) (y_assign rfl) ?_
  refine c_nil ?_
  refine wp_ret ?_
  cases hs
  exact ⟨_, fr_ovl 22 ⟨rfl, trivial⟩, hC⟩

theorem Bd124 : Bodied Try.prog 124 := bodied Try.func124 (by kernel_rfl) rfl

theorem Bd125 : Bodied Try.prog 125 := bodied Try.func125 (by kernel_rfl) rfl

def k_spec_l14Takes (M : Nat → Prop) (w0 : World) (r : Bool) (a : Act) (w : World) : Prop :=
  ∃ (σ : Nat → Value) , a = fr 39 (ovl σ [(6, (.bool r))]) ∧ Chg [] w0 w
def s_spec_l14Takes (n : Int) (rels : List (Int × (List (List Int)))) (k : Int) : Option (Bool) :=
  ((s_spec_l14Size n).bind fun r6 =>
  (bif (!r6) then some true else (s_spec_l14Rels n rels).bind fun r9 =>
  (bif (!r9) then some true else (s_spec_l1In k 1 3).bind fun r12 =>
  some (!r12)))).bind fun s2 =>
  (bif s2 then some false else (forC (S := Unit) (R := Bool) (fun k23 s21 =>
  (bif (k == 3) then (idx rels k23).bind fun x28 =>
  (bif (decide (12 < (x28.2.length : Int))) then some (.rt false) else some (.nx ())) else some (.nx ()))) 0 (rels.length : Int) ()).bind fun o25 => after o25 (fun r_ => some r_) (fun s21 =>
  some true))
set_option maxHeartbeats 4000000 in
theorem c_spec_l14Takes {M : Nat → Prop} {w : World} {pa0 : Option Addr} {pn0 pc0 : Nat} (n : Int) (rels : List (Int × (List (List Int)))) (k : Int) (h0 : (RT.rs (RT.pr (RT.int .i64) (RT.rs (RT.rs (RT.int .i64))))).val M w (.slice pa0 pn0 pc0) rels ([])) (hM : ∀ g, w.heap.size ≤ g → M g) {r : Bool} (hs : s_spec_l14Takes n rels k = some r) :
    Gives Try.prog 94 [(.int .i64 n), (.slice pa0 pn0 pc0), (.int .i64 k)] w (fun v w' => v = (.bool r) ∧ Chg [] w w') := by
 refine calls_fr Try.func94 rfl Try.ntmps94 (Nat.le_of_ble_eq_true rfl) ?_
 have hO := Own.start (N := Nw w []) hM Nw.fut
 have hC := Chg.refl [] w
 unfold s_spec_l14Takes at hs
 refine wp_mono (Q := KPost (k_spec_l14Takes M w r)) ?_ (fun e a b5 h => ?_)
 rotate_left
 ·cases e
  case ret =>
   obtain ⟨σ, rfl, hrest⟩ := h
   exact ret1x Try.results94 (res_tmp rfl) ⟨rfl, hrest⟩
  all_goals exact (h : False).elim
 refine c_sr ?_
 refine pl_val (.bool false) (y_assign rfl) ?_
 refine c_nil ?_
 refine c_seq ?_
 refine c_seq ?_
 obtain ⟨s2, b6, hs⟩ := bind_some hs
 refine c_mid (I := fun a b0 => ∃ (σ : Nat → Value), a = fr 39 (ovl σ [(1, (.slice pa0 pn0 pc0)), (2, (.int .i64 k)), (6, (.bool false)), (21, (.bool s2))]) ∧ Chg [] w b0) ?_ ?_
 ·replace hs := b6
  have hMid := Chg.refl [] w
  refine c_region ?_
  refine pl_val (.int .i64 n) (y_move rfl) ?_
  obtain ⟨r6, b7, hs⟩ := bind_some hs
  refine pl_call Bd124 rfl (c_spec_l14Size (M := M) n  hO.fut b7) ?_
  rintro _ c9 ⟨rfl, a4⟩
  have h0 := h0.ext a4
  have hMid := hMid.ext a4
  have hC := hC.ext a4
  have hO := hO.ext a4
  refine pl_val (.bool (!r6)) (y_not rfl) ?_
  refine pl_val (.bool (!r6)) (y_move rfl) ?_
  rcases bif_some hs with ⟨a1, hs⟩ | ⟨a1, hs⟩
  ·skip
   refine pl_not (tg := 11) (by kernel_rfl) (congrArg Value.bool a1) ?_
   refine pl_not (tg := 11) (by kernel_rfl) (congrArg Value.bool a1) ?_
   refine pl_not (tg := 11) (by kernel_rfl) (congrArg Value.bool a1) ?_
   refine pl_not (tg := 11) (by kernel_rfl) (congrArg Value.bool a1) ?_
   refine pl_val (.bool true) (y_pick_t (congrArg Value.bool a1) rfl) ?_
   refine pl_val (.bool true) (y_move rfl) ?_
   refine pl_not (tg := 17) (by kernel_rfl) (by rfl) ?_
   refine pl_not (tg := 17) (by kernel_rfl) (by rfl) ?_
   refine pl_not (tg := 17) (by kernel_rfl) (by rfl) ?_
   refine pl_val (.bool true) (y_pick_t (by rfl) rfl) ?_
   refine c_nil ?_
   cases hs
   exact ⟨_, fr_ovl 39 ⟨rfl, rfl, rfl, rfl, trivial⟩, hMid⟩
  refine pl_yes (.int .i64 n) (tg := 11) (by kernel_rfl) (congrArg Value.bool a1) (y_move rfl) ?_
  refine pl_yes (.slice pa0 pn0 pc0) (tg := 11) (by kernel_rfl) (congrArg Value.bool a1) (y_move rfl) ?_
  obtain ⟨r9, b8, hs⟩ := bind_some hs
  refine pl_cally (tg := 11) (by kernel_rfl) (congrArg Value.bool a1) Bd125 rfl (c_spec_l14Rels (M := M) n rels h0 hO.fut b8) ?_
  rintro _ d0 ⟨rfl, a5⟩
  have h0 := h0.ext a5
  have hMid := hMid.ext a5
  have hC := hC.ext a5
  have hO := hO.ext a5
  refine pl_yes (.bool (!r9)) (tg := 11) (by kernel_rfl) (congrArg Value.bool a1) (y_not rfl) ?_
  refine pl_val (.bool (!r9)) (y_pick_f (congrArg Value.bool a1) rfl) ?_
  refine pl_val (.bool (!r9)) (y_move rfl) ?_
  rcases bif_some hs with ⟨a3, hs⟩ | ⟨a3, hs⟩
  ·skip
   refine pl_not (tg := 17) (by kernel_rfl) (congrArg Value.bool a3) ?_
   refine pl_not (tg := 17) (by kernel_rfl) (congrArg Value.bool a3) ?_
   refine pl_not (tg := 17) (by kernel_rfl) (congrArg Value.bool a3) ?_
   refine pl_val (.bool true) (y_pick_t (congrArg Value.bool a3) rfl) ?_
   refine c_nil ?_
   cases hs
   exact ⟨_, fr_ovl 39 ⟨rfl, rfl, rfl, rfl, trivial⟩, hMid⟩
  refine pl_yes (.int .i64 k) (tg := 17) (by kernel_rfl) (congrArg Value.bool a3) (y_move rfl) ?_
  obtain ⟨r12, b9, hs⟩ := bind_some hs
  refine pl_cally (tg := 17) (by kernel_rfl) (congrArg Value.bool a3) Bd100 rfl (c_spec_l1In (M := M) k 1 3  hO.fut b9) ?_
  rintro _ d1 ⟨rfl, a6⟩
  have h0 := h0.ext a6
  have hMid := hMid.ext a6
  have hC := hC.ext a6
  have hO := hO.ext a6
  refine pl_yes (.bool (!r12)) (tg := 17) (by kernel_rfl) (congrArg Value.bool a3) (y_not rfl) ?_
  refine pl_val (.bool (!r12)) (y_pick_f (congrArg Value.bool a3) rfl) ?_
  refine c_nil ?_
  cases hs
  exact ⟨_, fr_ovl 39 ⟨rfl, rfl, rfl, rfl, trivial⟩, hMid⟩
 rintro b1 b0 ⟨σ, rfl, a7⟩
 have h0 := h0.ext a7
 have hC := hC.ext a7
 have hO := hO.ext a7
 rcases bif_some hs with ⟨a8, hs⟩ | ⟨a8, hs⟩
 ·refine c_condT (congrArg Value.bool a8) ?_
  refine c_sr ?_
  refine pl_val (.bool false) (y_assign rfl) ?_
  refine c_nil ?_
  refine wp_ret ?_
  cases hs
  exact ⟨_, fr_ovl 39 ⟨rfl, trivial⟩, hC⟩
 refine c_condF (congrArg Value.bool a8) ?_
 refine wp_skip ?_
 refine c_seq ?_
 refine c_sr ?_
 refine pl_val (.int .i64 0) (y_assign rfl) ?_
 refine c_nil ?_
 obtain ⟨o25, c0, hs⟩ := bind_some hs
 refine wp_block ?_
 refine wp_forC (id := 0) (rels.length : Int) (I := fun k23 s21 a a2 => ∃ (σ : Nat → Value), a = fr 39 (ovl σ [(1, (.slice pa0 pn0 pc0)), (2, (.int .i64 k)), (7, (.int .i64 k23))]) ∧ Chg [] w a2 ∧ Own (Nw w []) M a2 ([]) ∧ (RT.rs (RT.pr (RT.int .i64) (RT.rs (RT.rs (RT.int .i64))))).val M a2 (.slice pa0 pn0 pc0) rels ([])) (J := fun s21 a a2 => ∃ (σ : Nat → Value), a = fr 39 (ovl σ []) ∧ Chg [] w a2 ∧ Own (Nw w []) M a2 ([]) ∧ (RT.rs (RT.pr (RT.int .i64) (RT.rs (RT.rs (RT.int .i64))))).val M a2 (.slice pa0 pn0 pc0) rels ([])) (K := (k_spec_l14Takes M w)) ?_ ?_ 0 () o25 _ _ ?_ c0 ?_
 ·rintro k23 s21 a a2 ⟨σ, rfl, hC, hO, h0⟩ hlt
  refine c_seq ?_
  refine c_sr ?_
  refine pl_val (.int .i64 k23) (y_move rfl) ?_
  refine pl_val (.slice pa0 pn0 pc0) (y_move rfl) ?_
  refine pl_val (.int .i64 (rels.length : Int)) (y_len' Sl37 (rs_len h0) rfl) ?_
  refine pl_val (.bool (decide (k23 < (rels.length : Int)))) (y_lss rfl rfl) ?_
  refine c_nil ?_
  refine c_condF (congrArg Value.bool (decide_eq_false hlt)) ?_
  refine wp_exit ?_
  exact ⟨rfl, _, fr_ovl 39 trivial, hC, hO, h0⟩
 ·rintro k23 s21 o25 a a2 ⟨σ, rfl, hC, hO, h0⟩ hlt hw hs
  refine c_seq ?_
  refine c_sr ?_
  refine pl_val (.int .i64 k23) (y_move rfl) ?_
  refine pl_val (.slice pa0 pn0 pc0) (y_move rfl) ?_
  refine pl_val (.int .i64 (rels.length : Int)) (y_len' Sl37 (rs_len h0) rfl) ?_
  refine pl_val (.bool (decide (k23 < (rels.length : Int)))) (y_lss rfl rfl) ?_
  refine c_nil ?_
  refine c_condT (congrArg Value.bool (decide_eq_true hlt)) ?_
  refine wp_skip ?_
  refine c_seq ?_
  refine wp_block ?_
  refine c_sr ?_
  refine pl_val (.int .i64 k) (y_move rfl) ?_
  refine pl_val (.bool (k == 3)) (y_eql rfl rfl) ?_
  refine pl_val (.bool (k == 3)) (y_move rfl) ?_
  rcases bif_some hs with ⟨a0, hs⟩ | ⟨a0, hs⟩
  ·skip
   refine pl_yes (.slice pa0 pn0 pc0) (tg := 30) (by kernel_rfl) (congrArg Value.bool a0) (y_move rfl) ?_
   refine pl_yes (.int .i64 k23) (tg := 30) (by kernel_rfl) (congrArg Value.bool a0) (y_move rfl) ?_
   obtain ⟨x28, c1, hs⟩ := bind_some hs
   obtain ⟨b2, b3, c2, c3⟩ := rs_idx Sl37 Sz54 h0 c1
   refine pl_yes (.pointer (some ⟨b2, b3, none⟩)) (tg := 30) (by kernel_rfl) (congrArg Value.bool a0) (c2 _ _ _ _ _ _ _ _ _ rfl rfl) ?_
   obtain ⟨_, c4⟩ := pr_at c3
   refine pl_yes (.pointer (some ⟨b2, b3 + 1, none⟩)) (tg := 30) (by kernel_rfl) (congrArg Value.bool a0) (y_faddr rfl Fa54x1) ?_
   obtain ⟨d2, c5, b4⟩ := at_load Ag47 Sz47 (fun _ => rfl) c4
   obtain ⟨c6, c7, c8, rfl⟩ := rs_sl b4
   refine pl_yes (.slice c6 c7 c8) (tg := 30) (by kernel_rfl) (congrArg Value.bool a0) (y_load rfl (c5 _ (Chg.refl _ _))) ?_
   refine pl_yes (.int .i64 (x28.2.length : Int)) (tg := 30) (by kernel_rfl) (congrArg Value.bool a0) (y_len' Sl47 (rs_len b4) rfl) ?_
   refine pl_yes (.bool (decide (12 < (x28.2.length : Int)))) (tg := 30) (by kernel_rfl) (congrArg Value.bool a0) (y_gtr rfl rfl) ?_
   refine pl_val (.bool (decide (12 < (x28.2.length : Int)))) (y_pick_t (congrArg Value.bool a0) rfl) ?_
   refine c_nil ?_
   rcases bif_some hs with ⟨a9, hs⟩ | ⟨a9, hs⟩
   ·refine c_condT (congrArg Value.bool a9) ?_
    refine c_sr ?_
    refine pl_val (.bool false) (y_assign rfl) ?_
    refine c_nil ?_
    refine wp_ret ?_
    cases hs
    exact ⟨_, fr_ovl 39 ⟨rfl, trivial⟩, hC⟩
   refine c_condF (congrArg Value.bool a9) ?_
   refine wp_skip ?_
   refine c_region ?_
   refine pl_val (.int .i64 k23) (y_move rfl) ?_
   refine pl_val (.int .i64 (w64 (k23 + 1))) (y_add rfl rfl) ?_
   refine pl_val (.int .i64 (w64 (k23 + 1))) (y_assign rfl) ?_
   refine c_nil ?_
   cases hs
   exact ⟨_, fr_ovl 39 ⟨rfl, rfl, congrArg (Value.int .i64) hw, trivial⟩, hC, hO, h0⟩
  refine pl_not (tg := 30) (by kernel_rfl) (congrArg Value.bool a0) ?_
  refine pl_not (tg := 30) (by kernel_rfl) (congrArg Value.bool a0) ?_
  refine pl_not (tg := 30) (by kernel_rfl) (congrArg Value.bool a0) ?_
  refine pl_not (tg := 30) (by kernel_rfl) (congrArg Value.bool a0) ?_
  refine pl_not (tg := 30) (by kernel_rfl) (congrArg Value.bool a0) ?_
  refine pl_not (tg := 30) (by kernel_rfl) (congrArg Value.bool a0) ?_
  refine pl_not (tg := 30) (by kernel_rfl) (congrArg Value.bool a0) ?_
  refine pl_val (.bool false) (y_pick_f (congrArg Value.bool a0) rfl) ?_
  refine c_nil ?_
  refine c_condF (by rfl) ?_
  refine wp_skip ?_
  refine c_region ?_
  refine pl_val (.int .i64 k23) (y_move rfl) ?_
  refine pl_val (.int .i64 (w64 (k23 + 1))) (y_add rfl rfl) ?_
  refine pl_val (.int .i64 (w64 (k23 + 1))) (y_assign rfl) ?_
  refine c_nil ?_
  cases hs
  exact ⟨_, fr_ovl 39 ⟨rfl, rfl, congrArg (Value.int .i64) hw, trivial⟩, hC, hO, h0⟩
 ·skip
  exact ⟨_, fr_ovl 39 ⟨rfl, rfl, rfl, trivial⟩, hC, hO, h0⟩
 cases o25 with
 | nx _ => exact True.intro
 | rt r_ =>
  have hs := after_rt hs
  intro b1 b5 hK
  cases hs
  exact hK
 | br s21 =>
  have hs := after_br hs
  rintro b1 a2 ⟨σ, rfl, hC, hO, h0⟩
  refine c_sr ?_
  refine pl_val (.bool true) (y_assign rfl) ?_
  refine c_nil ?_
  refine wp_ret ?_
  cases hs
  exact ⟨_, fr_ovl 39 ⟨rfl, trivial⟩, hC⟩

def k_spec_l14Free (M : Nat → Prop) (w0 : World) (r : (List Int)) (a : Act) (w : World) : Prop :=
  ∃ (σ : Nat → Value) (ra0 : Option Addr) (rn0 rc0 : Nat) (rf0 : List Nat), a = fr 15 (ovl σ [(2, (.slice ra0 rn0 rc0))]) ∧ Chg [] w0 w ∧ (RT.os 3 (RT.int .i64)).val M w (.slice ra0 rn0 rc0) r rf0 ∧ Own (Nw w0 []) (fun _ => True) w (rf0 ++ ([]))
def s_spec_l14Free (size : Int) : Option ((List Int)) :=
  (forC (S := (List Int)) (R := (List Int)) (fun k12 s10 =>
  (app s10 ([(-1)])).bind fun y23 =>
  some (.nx y23)) 0 size ([])).bind fun o14 => after o14 (fun r_ => some r_) (fun s10 =>
  some s10)
set_option maxHeartbeats 4000000 in
theorem c_spec_l14Free {M : Nat → Prop} {w : World}  (size : Int)  (hM : ∀ g, w.heap.size ≤ g → M g) {r : (List Int)} (hs : s_spec_l14Free size = some r) :
    Gives Try.prog 49 [(.int .i64 size)] w (fun v w' => ∃ (ra0 : Option Addr) (rn0 rc0 : Nat) (rf0 : List Nat), v = (.slice ra0 rn0 rc0) ∧ Chg [] w w' ∧ (RT.os 3 (RT.int .i64)).val M w' (.slice ra0 rn0 rc0) r rf0 ∧ Own (Nw w []) (fun _ => True) w' (rf0 ++ ([]))) := by
 refine calls_fr Try.func49 rfl Try.ntmps49 (Nat.le_of_ble_eq_true rfl) ?_
 have hO := Own.start (N := Nw w []) hM Nw.fut
 have hC := Chg.refl [] w
 unfold s_spec_l14Free at hs
 refine wp_mono (Q := KPost (k_spec_l14Free M w r)) ?_ (fun e a b0 h => ?_)
 rotate_left
 ·cases e
  case ret =>
   obtain ⟨σ, ra0, rn0, rc0, rf0, rfl, hrest⟩ := h
   exact ret1x Try.results49 (res_tmp rfl) ⟨ra0, rn0, rc0, rf0, rfl, hrest⟩
  all_goals exact (h : False).elim
 refine c_sr ?_
 refine pl_val (.slice none 0 0) (y_assign rfl) ?_
 refine c_nil ?_
 refine c_sr ?_
 obtain ⟨b0, a1, c7, c0, c1, c2⟩ := new_block w [] 3
 refine pl_val (w' := b0) (.slice (some ⟨a1, 0, none⟩) 0 0) (y_bslice rfl (by rw [c7, c0]; kernel_rfl)) ?_
 have hC := hC.ext c1
 have hO := hO.new1 c1 c0 c2.lt
 have b2 := os_of_box (r := (RT.int .i64)) (M := M) (css := []) (fps := []) (xs := ([] : List Int)) c2 trivial (Nat.zero_le _) (List.nodup_cons.2 ⟨(fun h => nomatch h), List.nodup_nil⟩)
 have b2 : (RT.os 3 (RT.int .i64)).val M b0 (.slice (some ⟨a1, 0, none⟩) 0 0) [] [a1] := b2
 refine pl_val (.slice (some ⟨a1, 0, none⟩) 0 0) (y_assign rfl) ?_
 refine c_nil ?_
 refine c_seq ?_
 refine c_sr ?_
 refine pl_val (.int .i64 0) (y_assign rfl) ?_
 refine c_nil ?_
 obtain ⟨o14, c8, hs⟩ := bind_some hs
 refine wp_block ?_
 refine wp_forC (id := 0) size (I := fun k12 s10 a a0 => ∃ (σ : Nat → Value) (a2 : Option Addr) (a3 : Nat) (a4 : Nat) (a9 : List Nat), a = fr 15 (ovl σ [(0, (.int .i64 size)), (3, (.slice a2 a3 a4)), (4, (.int .i64 k12))]) ∧ Chg [] w a0 ∧ Own (Nw w []) M a0 (a9 ++ []) ∧ (RT.os 3 (RT.int .i64)).val M a0 (.slice a2 a3 a4) s10 a9) (J := fun s10 a a0 => ∃ (σ : Nat → Value) (a5 : Option Addr) (a6 : Nat) (a7 : Nat) (b1 : List Nat), a = fr 15 (ovl σ [(3, (.slice a5 a6 a7))]) ∧ Chg [] w a0 ∧ Own (Nw w []) M a0 (b1 ++ []) ∧ (RT.os 3 (RT.int .i64)).val M a0 (.slice a5 a6 a7) s10 b1) (K := (k_spec_l14Free M w)) ?_ ?_ 0 ([]) o14 _ _ ?_ c8 ?_
 ·rintro k12 s10 a a0 ⟨σ, a2, a3, a4, a9, rfl, hC, hO, a8⟩ hlt
  refine c_seq ?_
  refine c_sr ?_
  refine pl_val (.int .i64 k12) (y_move rfl) ?_
  refine pl_val (.int .i64 size) (y_move rfl) ?_
  refine pl_val (.bool (decide (k12 < size))) (y_lss rfl rfl) ?_
  refine c_nil ?_
  refine c_condF (congrArg Value.bool (decide_eq_false hlt)) ?_
  refine wp_exit ?_
  exact ⟨rfl, _, a2, a3, a4, a9, fr_ovl 15 ⟨rfl, trivial⟩, hC, hO, a8⟩
 ·rintro k12 s10 o14 a a0 ⟨σ, a2, a3, a4, a9, rfl, hC, hO, a8⟩ hlt hw hs
  refine c_seq ?_
  refine c_sr ?_
  refine pl_val (.int .i64 k12) (y_move rfl) ?_
  refine pl_val (.int .i64 size) (y_move rfl) ?_
  refine pl_val (.bool (decide (k12 < size))) (y_lss rfl rfl) ?_
  refine c_nil ?_
  refine c_condT (congrArg Value.bool (decide_eq_true hlt)) ?_
  refine wp_skip ?_
  refine c_seq ?_
  refine wp_block ?_
  refine c_region ?_
  refine pl_val (.slice a2 a3 a4) (y_move rfl) ?_
  obtain ⟨c3, b3, c9, c4, b4, c5⟩ := new_block a0 [(.int .i64 (-1))] 3
  refine pl_val (w' := c3) (.slice (some ⟨b3, 0, none⟩) 1 1) (y_bslice rfl (by rw [c9, c4]; kernel_rfl)) ?_
  have a8 := a8.ext b4
  have hC := hC.ext b4
  have hO := hO.new1 b4 c4 c5.lt
  have b5 := os_of_box (r := (RT.int .i64)) (M := M) (css := [[(.int .i64 (-1))]]) (fps := [([] : List Nat)]) (xs := ([(-1)] : List Int)) c5 ⟨⟨rfl, rfl⟩, trivial⟩ (Nat.le_of_ble_eq_true rfl) (List.nodup_cons.2 ⟨(fun h => nomatch h), List.nodup_nil⟩)
  have b5 : (RT.os 3 (RT.int .i64)).val M c3 (.slice (some ⟨b3, 0, none⟩) 1 1) [(-1)] [b3] := b5
  obtain ⟨y23, d0, hs⟩ := bind_some hs
  have hO := hO.fr1
  obtain ⟨b6, b7, b8, d1, d2, d3, c6, d4, b9⟩ := app_os Rw41 d0 a8 b5 hO.inM (fun g hg hq => hO.apart g hq (mem_l hg))
  have d5 := os_block a8
  refine pl_val (w' := d1) (.slice b6 b7 b8) (y_append rfl rfl (d3 _)) ?_
  have hO := hO.fr1
  have hO := hO.fr1
  have hC := hC.st c6 hO d5
  have hO := hO.eat c6 d4 (os_nodup b9) b9.fpl
  refine pl_val (.slice b6 b7 b8) (y_assign rfl) ?_
  refine c_nil ?_
  refine c_region ?_
  refine pl_val (.int .i64 k12) (y_move rfl) ?_
  refine pl_val (.int .i64 (w64 (k12 + 1))) (y_add rfl rfl) ?_
  refine pl_val (.int .i64 (w64 (k12 + 1))) (y_assign rfl) ?_
  refine c_nil ?_
  cases hs
  exact ⟨_, b6, b7, b8, d2, fr_ovl 15 ⟨rfl, rfl, congrArg (Value.int .i64) hw, trivial⟩, hC, hO, b9⟩
 ·skip
  exact ⟨_, (some ⟨a1, 0, none⟩), 0, 0, ([a1]), fr_ovl 15 ⟨rfl, rfl, rfl, trivial⟩, hC, hO, b2⟩
 cases o14 with
 | nx _ => exact True.intro
 | rt r_ =>
  have hs := after_rt hs
  intro d6 b0 hK
  cases hs
  exact hK
 | br s10 =>
  have hs := after_br hs
  rintro d6 a0 ⟨σ, a5, a6, a7, b1, rfl, hC, hO, d7⟩
  refine c_sr ?_
  refine pl_val (.slice a5 a6 a7) (y_move rfl) ?_
  refine pl_val (.slice a5 a6 a7) (y_assign rfl) ?_
  refine c_nil ?_
  refine wp_ret ?_
  cases hs
  exact ⟨_, a5, a6, a7, b1, fr_ovl 15 ⟨rfl, trivial⟩, hC, d7, hO.top⟩

def k_spec_l2Args (M : Nat → Prop) (w0 : World) (r : (List Int)) (a : Act) (w : World) : Prop :=
  ∃ (σ : Nat → Value) (ra0 : Option Addr) (rn0 rc0 : Nat) (rf0 : List Nat), a = fr 27 (ovl σ [(6, (.slice ra0 rn0 rc0))]) ∧ Chg [] w0 w ∧ (RT.os 3 (RT.int .i64)).val M w (.slice ra0 rn0 rc0) r rf0 ∧ Own (Nw w0 []) (fun _ => True) w (rf0 ++ ([]))
def s_spec_l2Args (n : Int) (arity : Int) (at_ : Int) : Option ((List Int)) :=
  (mks arity (0 : Int)).bind fun y2 =>
  (iter (S := Int × Int × (List Int)) (R := (List Int)) (fun s17 =>
  (bif (decide (0 ≤ s17.2.1)) then (nz n).bind fun u26 =>
  (idx s17.2.2 s17.2.1).bind fun x27 =>
  (nz n).bind fun u30 =>
  some (.nx (w64 (Int.tdiv s17.1 n), w64 (s17.2.1 - 1), List.set s17.2.2 (Int.toNat s17.2.1) (Int.tmod s17.1 n))) else some (.br (s17.1, s17.2.1, s17.2.2)))) FU (at_, w64 (arity - 1), y2)).bind fun o21 => after o21 (fun r_ => some r_) (fun s17 =>
  some s17.2.2)
set_option maxHeartbeats 4000000 in
theorem c_spec_l2Args {M : Nat → Prop} {w : World}  (n : Int) (arity : Int) (at_ : Int)  (hM : ∀ g, w.heap.size ≤ g → M g) {r : (List Int)} (hs : s_spec_l2Args n arity at_ = some r) :
    Gives Try.prog 76 [(.int .i64 n), (.int .i64 arity), (.int .i64 at_)] w (fun v w' => ∃ (ra0 : Option Addr) (rn0 rc0 : Nat) (rf0 : List Nat), v = (.slice ra0 rn0 rc0) ∧ Chg [] w w' ∧ (RT.os 3 (RT.int .i64)).val M w' (.slice ra0 rn0 rc0) r rf0 ∧ Own (Nw w []) (fun _ => True) w' (rf0 ++ ([]))) := by
 refine calls_fr Try.func76 rfl Try.ntmps76 (Nat.le_of_ble_eq_true rfl) ?_
 have hO := Own.start (N := Nw w []) hM Nw.fut
 have hC := Chg.refl [] w
 unfold s_spec_l2Args at hs
 refine wp_mono (Q := KPost (k_spec_l2Args M w r)) ?_ (fun e a a7 h => ?_)
 rotate_left
 ·cases e
  case ret =>
   obtain ⟨σ, ra0, rn0, rc0, rf0, rfl, hrest⟩ := h
   exact ret1x Try.results76 (res_tmp rfl) ⟨ra0, rn0, rc0, rf0, rfl, hrest⟩
  all_goals exact (h : False).elim
 refine c_sr ?_
 refine pl_val (.slice none 0 0) (y_assign rfl) ?_
 refine c_nil ?_
 refine c_sr ?_
 refine pl_val (.int .i64 arity) (y_move rfl) ?_
 obtain ⟨y2, b5, hs⟩ := bind_some hs
 obtain ⟨a0, a1, a2, a7, b6, b7, b1, b8, a8⟩ := mk_os (M := M) (w := w) (r := (RT.int .i64)) Rw41 b5 (fun _ _ => ⟨rfl, rfl⟩)
 refine pl_val (w' := a7) (.slice a0 a1 a2) (y_make rfl rfl b7) ?_
 have hC := hC.ext b1
 have hO := hO.new b1 b8 (os_nodup a8) a8.fpl
 refine pl_val (.slice a0 a1 a2) (y_assign rfl) ?_
 refine c_nil ?_
 refine c_seq ?_
 refine c_sr ?_
 refine pl_val (.int .i64 arity) (y_move rfl) ?_
 refine pl_val (.int .i64 (w64 (arity - 1))) (y_sub rfl rfl) ?_
 refine pl_val (.int .i64 (w64 (arity - 1))) (y_assign rfl) ?_
 refine c_nil ?_
 obtain ⟨o21, b9, hs⟩ := bind_some hs
 refine wp_block ?_
 refine wp_iter (id := 0) (I := fun s17 a a3 => ∃ (σ : Nat → Value) (a4 : List Nat), a = fr 27 (ovl σ [(0, (.int .i64 n)), (2, (.int .i64 s17.1)), (7, (.slice a0 a1 a2)), (8, (.int .i64 s17.2.1))]) ∧ Chg [] w a3 ∧ Own (Nw w []) M a3 (a4 ++ []) ∧ (RT.os 3 (RT.int .i64)).val M a3 (.slice a0 a1 a2) s17.2.2 a4) (J := fun s17 a a3 => ∃ (σ : Nat → Value) (a6 : List Nat), a = fr 27 (ovl σ [(7, (.slice a0 a1 a2))]) ∧ Chg [] w a3 ∧ Own (Nw w []) M a3 (a6 ++ []) ∧ (RT.os 3 (RT.int .i64)).val M a3 (.slice a0 a1 a2) s17.2.2 a6) (K := (k_spec_l2Args M w)) ?_ FU (at_, w64 (arity - 1), y2) o21 _ _ ?_ b9 ?_
 ·rintro s17 o21 a a3 ⟨σ, a4, rfl, hC, hO, a5⟩ hs
  refine c_seq ?_
  refine c_sr ?_
  refine pl_val (.int .i64 s17.2.1) (y_move rfl) ?_
  refine pl_val (.bool (decide (0 ≤ s17.2.1))) (y_geq rfl rfl) ?_
  refine c_nil ?_
  rcases bif_some hs with ⟨a9, hs⟩ | ⟨a9, hs⟩
  ·refine c_condT (congrArg Value.bool a9) ?_
   refine wp_skip ?_
   refine c_seq ?_
   refine wp_block ?_
   refine c_sr ?_
   refine pl_val (.slice a0 a1 a2) (y_move rfl) ?_
   refine pl_val (.int .i64 s17.2.1) (y_move rfl) ?_
   refine pl_val (.int .i64 s17.1) (y_move rfl) ?_
   refine pl_val (.int .i64 n) (y_move rfl) ?_
   obtain ⟨u26, c0, hs⟩ := bind_some hs
   refine pl_val (.int .i64 (Int.tmod s17.1 n)) (y_rem rfl rfl (nz_ne c0)) ?_
   obtain ⟨x27, c1, hs⟩ := bind_some hs
   obtain ⟨b2, d1, b3, c2, c3, d2, d3⟩ := os_idx Sl41 Sz3 a5 c1
   refine pl_val (.pointer (some ⟨b2, 0 + Int.toNat s17.2.1 * 1, none⟩)) (c3 _ _ _ _ _ _ _ _ _ rfl rfl) ?_
   obtain ⟨c4, c5, c6, b4, c7, b0⟩ := os_store (P := Try.prog) (c' := [(.int .i64 (Int.tmod s17.1 n))]) b3 a5 c2 (fun g hg => hO.inM g (os_block a5 g (by simpa using hg))) ⟨rfl, rfl⟩ List.nodup_nil (fun _ h => nomatch h) (fun _ h => .inl h)
   have c8 : ∀ q ∈ [b2], q ∈ a4 := fun q hq => os_block a5 q (by rw [b3]; exact hq)
   refine pl_skip (w' := c4) (ys_store rfl rfl (c6 _ _ rfl Sz3)) ?_
   have hC := hC.st b4 hO c8
   have hO := hO.grow b4 (fun q hq => .inl ((c7 q hq).resolve_right (fun h => nomatch h))) (os_nodup b0) b0.fpl
   refine c_nil ?_
   refine c_region ?_
   refine pl_val (.int .i64 s17.1) (y_move rfl) ?_
   refine pl_val (.int .i64 n) (y_move rfl) ?_
   obtain ⟨u30, c9, hs⟩ := bind_some hs
   refine pl_val (.int .i64 (w64 (Int.tdiv s17.1 n))) (y_quo rfl rfl (nz_ne c9)) ?_
   refine pl_val (.int .i64 (w64 (Int.tdiv s17.1 n))) (y_assign rfl) ?_
   refine c_nil ?_
   refine c_region ?_
   refine pl_val (.int .i64 s17.2.1) (y_move rfl) ?_
   refine pl_val (.int .i64 (w64 (s17.2.1 - 1))) (y_sub rfl rfl) ?_
   refine pl_val (.int .i64 (w64 (s17.2.1 - 1))) (y_assign rfl) ?_
   refine c_nil ?_
   cases hs
   exact ⟨_, c5, fr_ovl 27 ⟨rfl, rfl, rfl, rfl, trivial⟩, hC, hO, b0⟩
  refine c_condF (congrArg Value.bool a9) ?_
  refine wp_exit ?_
  cases hs
  exact ⟨rfl, _, a4, fr_ovl 27 ⟨rfl, trivial⟩, hC, hO, a5⟩
 ·skip
  exact ⟨_, b6, fr_ovl 27 ⟨rfl, rfl, rfl, rfl, trivial⟩, hC, hO, a8⟩
 cases o21 with
 | nx _ => exact True.intro
 | rt r_ =>
  have hs := after_rt hs
  intro a0 a7 hK
  cases hs
  exact hK
 | br s17 =>
  have hs := after_br hs
  rintro a0 a3 ⟨σ, a6, rfl, hC, hO, d0⟩
  refine c_sr ?_
  refine pl_val (.slice a0 a1 a2) (y_move rfl) ?_
  refine pl_val (.slice a0 a1 a2) (y_assign rfl) ?_
  refine c_nil ?_
  refine wp_ret ?_
  cases hs
  exact ⟨_, a0, a1, a2, a6, fr_ovl 27 ⟨rfl, trivial⟩, hC, d0, hO.top⟩

def k_spec_l1Most (M : Nat → Prop) (w0 : World) (r : Int) (a : Act) (w : World) : Prop :=
  ∃ (σ : Nat → Value) , a = fr 10 (ovl σ [(4, (.int .i64 r))]) ∧ Chg [] w0 w
def s_spec_l1Most (a_ : Int) (b : Int) : Option (Int) :=
  (bif (decide (b < a_)) then some a_ else some b)
set_option maxHeartbeats 4000000 in
theorem c_spec_l1Most {M : Nat → Prop} {w : World}  (a_ : Int) (b : Int)  (hM : ∀ g, w.heap.size ≤ g → M g) {r : Int} (hs : s_spec_l1Most a_ b = some r) :
    Gives Try.prog 131 [(.int .i64 a_), (.int .i64 b)] w (fun v w' => v = (.int .i64 r) ∧ Chg [] w w') := by
 refine calls_fr Try.func131 rfl Try.ntmps131 (Nat.le_of_ble_eq_true rfl) ?_
 have hO := Own.start (N := Nw w []) hM Nw.fut
 have hC := Chg.refl [] w
 unfold s_spec_l1Most at hs
 refine wp_mono (Q := KPost (k_spec_l1Most M w r)) ?_ (fun e a a1 h => ?_)
 rotate_left
 ·cases e
  case ret =>
   obtain ⟨σ, rfl, hrest⟩ := h
   exact ret1x Try.results131 (res_tmp rfl) ⟨rfl, hrest⟩
  all_goals exact (h : False).elim
 refine c_sr ?_
 refine pl_val (.int .i64 0) (y_assign rfl) ?_
 refine c_nil ?_
 refine c_seq ?_
 refine c_sr ?_
 refine pl_val (.int .i64 a_) (y_move rfl) ?_
 refine pl_val (.int .i64 b) (y_move rfl) ?_
 refine pl_val (.bool (decide (b < a_))) (y_gtr rfl rfl) ?_
 refine c_nil ?_
 rcases bif_some hs with ⟨a0, hs⟩ | ⟨a0, hs⟩
 ·refine c_condT (congrArg Value.bool a0) ?_
  refine c_sr ?_
  refine pl_val (.int .i64 a_) (y_move rfl) ?_
  refine pl_val (.int .i64 a_) (y_assign rfl) ?_
  refine c_nil ?_
  refine wp_ret ?_
  cases hs
  exact ⟨_, fr_ovl 10 ⟨rfl, trivial⟩, hC⟩
 refine c_condF (congrArg Value.bool a0) ?_
 refine wp_skip ?_
 refine c_sr ?_
 refine pl_val (.int .i64 b) (y_move rfl) ?_
 refine pl_val (.int .i64 b) (y_assign rfl) ?_
 refine c_nil ?_
 refine wp_ret ?_
 cases hs
 exact ⟨_, fr_ovl 10 ⟨rfl, trivial⟩, hC⟩

theorem Rw123 : RowT Try.prog 123 149 1 [(.slice none 0 0)] := ⟨Try.underlying123, ⟨_, _, rfl, rfl, rfl, rfl, by decide⟩, rfl, by decide⟩

theorem Bd76 : Bodied Try.prog 76 := bodied Try.func76 (by kernel_rfl) rfl

theorem Sz151 : SzT Try.prog 151 3 := ⟨_, rfl, rfl⟩

theorem Fa151x0 : ∀ (a : Addr) (w : World), (Instr.fieldAt 151 (.pointer (some a)) 0).run Try.prog w = .ok (.pointer (some (a.add 0))) w := fun _ _ => by kernel_rfl

theorem Bd131 : Bodied Try.prog 131 := bodied Try.func131 (by kernel_rfl) rfl

theorem Sl123 : SlT Try.prog 123 149 := Try.underlying123

theorem Sz149 : SzT Try.prog 149 1 := ⟨_, rfl, rfl⟩

theorem Ag149 : AggT Try.prog 149 false := fun _ => by kernel_rfl

theorem Ag151 : AggT Try.prog 151 true := fun _ => by kernel_rfl

theorem Rw149 : RowT Try.prog 149 151 3 [(.slice none 0 0), (.int .i64 0), (.slice none 0 0)] := ⟨Try.underlying149, ⟨_, _, rfl, rfl, rfl, rfl, by decide⟩, rfl, by decide⟩

def k_spec_l14Needs (M : Nat → Prop) (w0 : World) (r : (List (List ((List Int) × (Int × (List (List Int))))))) (a : Act) (w : World) : Prop :=
  ∃ (σ : Nat → Value) (ra0 : Option Addr) (rn0 rc0 : Nat), a = fr 110 (ovl σ [(6, (.slice ra0 rn0 rc0))]) ∧ Chg [] w0 w ∧ (RT.rs (RT.rs (RT.pr (RT.rs (RT.int .i64)) (RT.pr (RT.int .i64) (RT.rs (RT.rs (RT.int .i64))))))).val (Past M w0 w) w (.slice ra0 rn0 rc0) r []
def s_spec_l14Needs (n : Int) (rels : List (Int × (List (List Int)))) (k : Int) : Option ((List (List ((List Int) × (Int × (List (List Int))))))) :=
  (iter (S := (List (List ((List Int) × (Int × (List (List Int)))))) × Int) (R := (List (List ((List Int) × (Int × (List (List Int))))))) (fun s16 =>
  (s_spec_l2Pow n k).bind fun r27 =>
  (bif (decide (s16.2 < r27)) then (app s16.1 ([[]])).bind fun y34 =>
  some (.nx (y34, w64 (s16.2 + 1))) else some (.br (s16.1, s16.2)))) FU ([], 0)).bind fun o20 => after o20 (fun r_ => some r_) (fun s16 =>
  (forC (S := (List (List ((List Int) × (Int × (List (List Int))))))) (R := (List (List ((List Int) × (Int × (List (List Int))))))) (fun k1143 s1141 =>
  (idx rels k1143).bind fun x1151 =>
  (iter (S := Int × (List (List ((List Int) × (Int × (List (List Int))))))) (R := (List (List ((List Int) × (Int × (List (List Int))))))) (fun s1514 =>
  (s_spec_l2Pow (x1151.2.length : Int) k).bind fun r1525 =>
  (bif (decide (s1514.1 < r1525)) then (s_spec_l2Args (x1151.2.length : Int) k s1514.1).bind fun r1528 =>
  (idx rels k1143).bind fun x1530 =>
  (iter (S := Int × Int × (List Int)) (R := (List (List ((List Int) × (Int × (List (List Int))))))) (fun s1632 =>
  (idx rels k1143).bind fun x1642 =>
  (bif (decide (s1632.2.1 < x1642.1)) then (forC (S := Int) (R := (List (List ((List Int) × (Int × (List (List Int))))))) (fun k1662 s1660 =>
  (idx rels k1143).bind fun x1667 =>
  (idx r1528 k1662).bind fun x1672 =>
  (idx x1667.2 x1672).bind fun x1674 =>
  (idx x1674 s1632.2.1).bind fun x1678 =>
  some (.nx (w64 ((w64 (s1660 * n)) + x1678)))) 0 k 0).bind fun o1664 => after o1664 (fun r_ => some (.rt r_)) (fun s1660 =>
  (app s1632.2.2 ([s1660])).bind fun y1683 =>
  (s_spec_l1Most s1632.1 s1660).bind fun r1687 =>
  some (.nx (r1687, w64 (s1632.2.1 + 1), y1683))) else some (.br (s1632.1, s1632.2.1, s1632.2.2)))) FU (0, 0, [])).bind fun o1636 => after o1636 (fun r_ => some (.rt r_)) (fun s1632 =>
  (idx s1514.2 s1632.1).bind fun x1689 =>
  (app x1689 ([(s1632.2.2, (x1530.1, x1530.2))])).bind fun y1698 =>
  some (.nx (w64 (s1514.1 + 1), List.set s1514.2 (Int.toNat s1632.1) y1698))) else some (.br (s1514.1, s1514.2)))) FU (0, s1141)).bind fun o1518 => after o1518 (fun r_ => some (.rt r_)) (fun s1514 =>
  some (.nx s1514.2))) 0 (rels.length : Int) s16.1).bind fun o1145 => after o1145 (fun r_ => some r_) (fun s1141 =>
  some s1141))
set_option maxHeartbeats 4000000 in
theorem c_spec_l14Needs {M : Nat → Prop} {w : World} {pa0 : Option Addr} {pn0 pc0 : Nat} (n : Int) (rels : List (Int × (List (List Int)))) (k : Int) (h0 : (RT.rs (RT.pr (RT.int .i64) (RT.rs (RT.rs (RT.int .i64))))).val M w (.slice pa0 pn0 pc0) rels ([])) (hM : ∀ g, w.heap.size ≤ g → M g) {r : (List (List ((List Int) × (Int × (List (List Int))))))} (hs : s_spec_l14Needs n rels k = some r) :
    Gives Try.prog 108 [(.int .i64 n), (.slice pa0 pn0 pc0), (.int .i64 k)] w (fun v w' => ∃ (ra0 : Option Addr) (rn0 rc0 : Nat), v = (.slice ra0 rn0 rc0) ∧ Chg [] w w' ∧ (RT.rs (RT.rs (RT.pr (RT.rs (RT.int .i64)) (RT.pr (RT.int .i64) (RT.rs (RT.rs (RT.int .i64))))))).val (Past M w w') w' (.slice ra0 rn0 rc0) r []) := by
 refine calls_fr Try.func108 rfl Try.ntmps108 (Nat.le_of_ble_eq_true rfl) ?_
 have hO := Own.start (N := Nw w []) hM Nw.fut
 have hC := Chg.refl [] w
 unfold s_spec_l14Needs at hs
 refine wp_mono (Q := KPost (k_spec_l14Needs M w r)) ?_ (fun e a f5 h => ?_)
 rotate_left
 ·cases e
  case ret =>
   obtain ⟨σ, ra0, rn0, rc0, rfl, hrest⟩ := h
   exact ret1x Try.results108 (res_tmp rfl) ⟨ra0, rn0, rc0, rfl, hrest⟩
  all_goals exact (h : False).elim
 refine c_sr ?_
 refine pl_val (.slice none 0 0) (y_assign rfl) ?_
 refine c_nil ?_
 refine c_sr ?_
 obtain ⟨k5, e7, n9, k6, h9, k7⟩ := new_block w [] 149
 refine pl_val (w' := k5) (.slice (some ⟨e7, 0, none⟩) 0 0) (y_bslice rfl (by rw [n9, k6]; kernel_rfl)) ?_
 have h0 := h0.ext h9
 have hC := hC.ext h9
 have hO := hO.new1 h9 k6 k7.lt
 have i0 := os_of_box (r := (RT.os 151 (RT.pr (RT.rs (RT.int .i64)) (RT.pr (RT.int .i64) (RT.rs (RT.rs (RT.int .i64))))))) (M := M) (css := []) (fps := []) (xs := ([] : List (List ((List Int) × (Int × (List (List Int))))))) k7 trivial (Nat.zero_le _) (List.nodup_cons.2 ⟨(fun h => nomatch h), List.nodup_nil⟩)
 have i0 : (RT.os 149 (RT.os 151 (RT.pr (RT.rs (RT.int .i64)) (RT.pr (RT.int .i64) (RT.rs (RT.rs (RT.int .i64))))))).val M k5 (.slice (some ⟨e7, 0, none⟩) 0 0) [] [e7] := i0
 refine pl_val (.slice (some ⟨e7, 0, none⟩) 0 0) (y_assign rfl) ?_
 refine c_nil ?_
 refine c_seq ?_
 refine c_sr ?_
 refine pl_val (.int .i64 0) (y_assign rfl) ?_
 refine c_nil ?_
 obtain ⟨o20, o0, hs⟩ := bind_some hs
 refine wp_block ?_
 refine wp_iter (id := 0) (I := fun s16 a b8 => ∃ (σ : Nat → Value) (f6 : Option Addr) (f7 : Nat) (f8 : Nat) (f9 : List Nat), a = fr 110 (ovl σ [(0, (.int .i64 n)), (1, (.slice pa0 pn0 pc0)), (2, (.int .i64 k)), (7, (.slice f6 f7 f8)), (8, (.int .i64 s16.2))]) ∧ Chg [] w b8 ∧ Own (Nw w []) M b8 (f9 ++ []) ∧ (RT.rs (RT.pr (RT.int .i64) (RT.rs (RT.rs (RT.int .i64))))).val M b8 (.slice pa0 pn0 pc0) rels ([]) ∧ (RT.os 149 (RT.os 151 (RT.pr (RT.rs (RT.int .i64)) (RT.pr (RT.int .i64) (RT.rs (RT.rs (RT.int .i64))))))).val M b8 (.slice f6 f7 f8) s16.1 f9) (J := fun s16 a b8 => ∃ (σ : Nat → Value) (a5 : Option Addr) (a6 : Nat) (a7 : Nat) (g7 : List Nat), a = fr 110 (ovl σ [(0, (.int .i64 n)), (1, (.slice pa0 pn0 pc0)), (2, (.int .i64 k)), (7, (.slice a5 a6 a7))]) ∧ Chg [] w b8 ∧ Own (Nw w []) M b8 (g7 ++ []) ∧ (RT.rs (RT.pr (RT.int .i64) (RT.rs (RT.rs (RT.int .i64))))).val M b8 (.slice pa0 pn0 pc0) rels ([]) ∧ (RT.os 149 (RT.os 151 (RT.pr (RT.rs (RT.int .i64)) (RT.pr (RT.int .i64) (RT.rs (RT.rs (RT.int .i64))))))).val M b8 (.slice a5 a6 a7) s16.1 g7) (K := (k_spec_l14Needs M w)) ?_ FU ([], 0) o20 _ _ ?_ o0 ?_
 ·rintro s16 o20 a b8 ⟨σ, f6, f7, f8, f9, rfl, hC, hO, h0, c3⟩ hs
  refine c_seq ?_
  refine c_sr ?_
  refine pl_val (.int .i64 s16.2) (y_move rfl) ?_
  refine pl_val (.int .i64 n) (y_move rfl) ?_
  refine pl_val (.int .i64 k) (y_move rfl) ?_
  obtain ⟨r27, o1, hs⟩ := bind_some hs
  refine pl_call Bd58 rfl (c_spec_l2Pow (M := M) n k  hO.fut o1) ?_
  rintro _ o2 ⟨rfl, g8⟩
  have h0 := h0.ext g8
  have c3 := c3.ext g8
  have hC := hC.ext g8
  have hO := hO.ext g8
  refine pl_val (.bool (decide (s16.2 < r27))) (y_lss rfl rfl) ?_
  refine c_nil ?_
  rcases bif_some hs with ⟨i1, hs⟩ | ⟨i1, hs⟩
  ·refine c_condT (congrArg Value.bool i1) ?_
   refine wp_skip ?_
   refine c_seq ?_
   refine wp_block ?_
   refine c_region ?_
   refine pl_val (.slice f6 f7 f8) (y_move rfl) ?_
   obtain ⟨i2, d2, o3, k8, g9, k9⟩ := new_block o2 [] 151
   refine pl_val (w' := i2) (.slice (some ⟨d2, 0, none⟩) 0 0) (y_bslice rfl (by rw [o3, k8]; kernel_rfl)) ?_
   have h0 := h0.ext g9
   have c3 := c3.ext g9
   have hC := hC.ext g9
   have hO := hO.new1 g9 k8 k9.lt
   have g0 := os_of_box (r := (RT.pr (RT.rs (RT.int .i64)) (RT.pr (RT.int .i64) (RT.rs (RT.rs (RT.int .i64)))))) (M := M) (css := []) (fps := []) (xs := ([] : List ((List Int) × (Int × (List (List Int)))))) k9 trivial (Nat.zero_le _) (List.nodup_cons.2 ⟨(fun h => nomatch h), List.nodup_nil⟩)
   have g0 : (RT.os 151 (RT.pr (RT.rs (RT.int .i64)) (RT.pr (RT.int .i64) (RT.rs (RT.rs (RT.int .i64)))))).val M i2 (.slice (some ⟨d2, 0, none⟩) 0 0) [] [d2] := g0
   obtain ⟨l0, h1, o4, l1, g1, l2⟩ := new_block i2 [(.slice (some ⟨d2, 0, none⟩) 0 0)] 149
   refine pl_val (w' := l0) (.slice (some ⟨h1, 0, none⟩) 1 1) (y_bslice rfl (by rw [o4, l1]; kernel_rfl)) ?_
   have h0 := h0.ext g1
   have c3 := c3.ext g1
   have g0 := g0.ext g1
   have hC := hC.ext g1
   have hO := hO.new1 g1 l1 l2.lt
   have hO := hO.perm (R := (h1 :: ((([d2])) ++ ([]))) ++ (f9 ++ ([]))) (by simp)
   have o5 := hO.nd
   have i3 := os_of_box (r := (RT.os 151 (RT.pr (RT.rs (RT.int .i64)) (RT.pr (RT.int .i64) (RT.rs (RT.rs (RT.int .i64))))))) (M := M) (css := [[(.slice (some ⟨d2, 0, none⟩) 0 0)]]) (fps := [([d2] : List Nat)]) (xs := ([[]] : List (List ((List Int) × (Int × (List (List Int))))))) l2 ⟨(os_unval g0), trivial⟩ (Nat.le_of_ble_eq_true rfl) o5
   have i3 : (RT.os 149 (RT.os 151 (RT.pr (RT.rs (RT.int .i64)) (RT.pr (RT.int .i64) (RT.rs (RT.rs (RT.int .i64))))))).val M l0 (.slice (some ⟨h1, 0, none⟩) 1 1) [[]] (h1 :: ((([d2])) ++ ([]))) := i3
   obtain ⟨y34, o6, hs⟩ := bind_some hs
   have hO := hO.fr1
   obtain ⟨i4, i5, i6, o7, o8, o9, i7, p0, i9⟩ := app_os Rw123 o6 c3 i3 hO.inM (fun g hg hq => hO.apart g hq (mem_l hg))
   have l3 := os_block c3
   refine pl_val (w' := o7) (.slice i4 i5 i6) (y_append rfl rfl (o9 _)) ?_
   have hO := hO.fr1
   have hO := hO.fr1
   have h0 := h0.mt i7 hO l3
   have hC := hC.st i7 hO l3
   have hO := hO.eat i7 p0 (os_nodup i9) i9.fpl
   refine pl_val (.slice i4 i5 i6) (y_assign rfl) ?_
   refine c_nil ?_
   refine c_region ?_
   refine pl_val (.int .i64 s16.2) (y_move rfl) ?_
   refine pl_val (.int .i64 (w64 (s16.2 + 1))) (y_add rfl rfl) ?_
   refine pl_val (.int .i64 (w64 (s16.2 + 1))) (y_assign rfl) ?_
   refine c_nil ?_
   cases hs
   exact ⟨_, i4, i5, i6, o8, fr_ovl 110 ⟨rfl, rfl, rfl, rfl, rfl, trivial⟩, hC, hO, h0, i9⟩
  refine c_condF (congrArg Value.bool i1) ?_
  refine wp_exit ?_
  cases hs
  exact ⟨rfl, _, f6, f7, f8, f9, fr_ovl 110 ⟨rfl, rfl, rfl, rfl, trivial⟩, hC, hO, h0, c3⟩
 ·skip
  exact ⟨_, (some ⟨e7, 0, none⟩), 0, 0, ([e7]), fr_ovl 110 ⟨rfl, rfl, rfl, rfl, rfl, trivial⟩, hC, hO, h0, i0⟩
 cases o20 with
 | nx _ => exact True.intro
 | rt r_ =>
  have hs := after_rt hs
  intro c4 f5 hK
  cases hs
  exact hK
 | br s16 =>
  have hs := after_br hs
  rintro c4 b8 ⟨σ, a5, a6, a7, g7, rfl, hC, hO, h0, p1⟩
  refine c_seq ?_
  refine c_sr ?_
  refine pl_val (.int .i64 0) (y_assign rfl) ?_
  refine c_nil ?_
  obtain ⟨o1145, p2, hs⟩ := bind_some hs
  refine wp_block ?_
  refine wp_forC (id := 2) (rels.length : Int) (I := fun k1143 s1141 a b6 => ∃ (σ : Nat → Value) (d3 : Nat → Prop) (e8 : List Nat), a = fr 110 (ovl σ [(0, (.int .i64 n)), (1, (.slice pa0 pn0 pc0)), (2, (.int .i64 k)), (7, (.slice a5 a6 a7)), (9, (.int .i64 k1143))]) ∧ Chg [] w b6 ∧ Own (Nw w []) d3 b6 (e8 ++ []) ∧ Keeps w M d3 ∧ (RT.rs (RT.pr (RT.int .i64) (RT.rs (RT.rs (RT.int .i64))))).val d3 b6 (.slice pa0 pn0 pc0) rels ([]) ∧ (RT.os 149 (RT.os 151 (RT.pr (RT.rs (RT.int .i64)) (RT.pr (RT.int .i64) (RT.rs (RT.rs (RT.int .i64))))))).val d3 b6 (.slice a5 a6 a7) s1141 e8) (J := fun s1141 a b6 => ∃ (σ : Nat → Value) (g2 : Nat → Prop) (j0 : List Nat), a = fr 110 (ovl σ [(7, (.slice a5 a6 a7))]) ∧ Chg [] w b6 ∧ Own (Nw w []) g2 b6 (j0 ++ []) ∧ Keeps w M g2 ∧ (RT.rs (RT.pr (RT.int .i64) (RT.rs (RT.rs (RT.int .i64))))).val g2 b6 (.slice pa0 pn0 pc0) rels ([]) ∧ (RT.os 149 (RT.os 151 (RT.pr (RT.rs (RT.int .i64)) (RT.pr (RT.int .i64) (RT.rs (RT.rs (RT.int .i64))))))).val g2 b6 (.slice a5 a6 a7) s1141 j0) (K := (k_spec_l14Needs M w)) ?_ ?_ 0 s16.1 o1145 _ _ ?_ p2 ?_
  ·rintro k1143 s1141 a b6 ⟨σ, d3, e8, rfl, hC, hO, hK, h0, j1⟩ hlt
   refine c_seq ?_
   refine c_sr ?_
   refine pl_val (.int .i64 k1143) (y_move rfl) ?_
   refine pl_val (.slice pa0 pn0 pc0) (y_move rfl) ?_
   refine pl_val (.int .i64 (rels.length : Int)) (y_len' Sl37 (rs_len h0) rfl) ?_
   refine pl_val (.bool (decide (k1143 < (rels.length : Int)))) (y_lss rfl rfl) ?_
   refine c_nil ?_
   refine c_condF (congrArg Value.bool (decide_eq_false hlt)) ?_
   refine wp_exit ?_
   exact ⟨rfl, _, d3, e8, fr_ovl 110 ⟨rfl, trivial⟩, hC, hO, hK, h0, j1⟩
  ·rintro k1143 s1141 o1145 a b6 ⟨σ, d3, e8, rfl, hC, hO, hK, h0, j1⟩ hlt hw hs
   refine c_seq ?_
   refine c_sr ?_
   refine pl_val (.int .i64 k1143) (y_move rfl) ?_
   refine pl_val (.slice pa0 pn0 pc0) (y_move rfl) ?_
   refine pl_val (.int .i64 (rels.length : Int)) (y_len' Sl37 (rs_len h0) rfl) ?_
   refine pl_val (.bool (decide (k1143 < (rels.length : Int)))) (y_lss rfl rfl) ?_
   refine c_nil ?_
   refine c_condT (congrArg Value.bool (decide_eq_true hlt)) ?_
   refine wp_skip ?_
   refine c_seq ?_
   refine wp_block ?_
   refine c_sr ?_
   refine pl_val (.slice pa0 pn0 pc0) (y_move rfl) ?_
   refine pl_val (.int .i64 k1143) (y_move rfl) ?_
   obtain ⟨x1151, p3, hs⟩ := bind_some hs
   obtain ⟨l4, l5, p4, p5⟩ := rs_idx Sl37 Sz54 h0 p3
   refine pl_val (.pointer (some ⟨l4, l5, none⟩)) (p4 _ _ _ _ _ _ _ _ _ rfl rfl) ?_
   obtain ⟨_, p6⟩ := pr_at p5
   refine pl_val (.pointer (some ⟨l4, l5 + 1, none⟩)) (y_faddr rfl Fa54x1) ?_
   obtain ⟨y9, p7, l6⟩ := at_load Ag47 Sz47 (fun _ => rfl) p6
   obtain ⟨p8, p9, q0, rfl⟩ := rs_sl l6
   refine pl_val (.slice p8 p9 q0) (y_load rfl (p7 _ (Chg.refl _ _))) ?_
   refine pl_val (.int .i64 (x1151.2.length : Int)) (y_len' Sl47 (rs_len l6) rfl) ?_
   refine pl_val (.int .i64 (x1151.2.length : Int)) (y_assign rfl) ?_
   refine c_nil ?_
   refine c_sr ?_
   refine pl_val (.int .i64 0) (y_assign rfl) ?_
   refine c_nil ?_
   obtain ⟨o1518, q1, hs⟩ := bind_some hs
   refine wp_block ?_
   refine wp_iter (id := 4) (I := fun s1514 a b9 => ∃ (σ : Nat → Value) (a3 : Nat → Prop) (b4 : List Nat), a = fr 110 (ovl σ [(0, (.int .i64 n)), (1, (.slice pa0 pn0 pc0)), (2, (.int .i64 k)), (7, (.slice a5 a6 a7)), (9, (.int .i64 k1143)), (10, (.int .i64 (x1151.2.length : Int))), (11, (.int .i64 s1514.1))]) ∧ Chg [] w b9 ∧ Own (Nw w []) a3 b9 (b4 ++ []) ∧ Keeps w M a3 ∧ (RT.rs (RT.pr (RT.int .i64) (RT.rs (RT.rs (RT.int .i64))))).val a3 b9 (.slice pa0 pn0 pc0) rels ([]) ∧ (RT.os 149 (RT.os 151 (RT.pr (RT.rs (RT.int .i64)) (RT.pr (RT.int .i64) (RT.rs (RT.rs (RT.int .i64))))))).val a3 b9 (.slice a5 a6 a7) s1514.2 b4) (J := fun s1514 a b9 => ∃ (σ : Nat → Value) (e9 : Nat → Prop) (h2 : List Nat), a = fr 110 (ovl σ [(0, (.int .i64 n)), (1, (.slice pa0 pn0 pc0)), (2, (.int .i64 k)), (7, (.slice a5 a6 a7)), (9, (.int .i64 k1143))]) ∧ Chg [] w b9 ∧ Own (Nw w []) e9 b9 (h2 ++ []) ∧ Keeps w M e9 ∧ (RT.rs (RT.pr (RT.int .i64) (RT.rs (RT.rs (RT.int .i64))))).val e9 b9 (.slice pa0 pn0 pc0) rels ([]) ∧ (RT.os 149 (RT.os 151 (RT.pr (RT.rs (RT.int .i64)) (RT.pr (RT.int .i64) (RT.rs (RT.rs (RT.int .i64))))))).val e9 b9 (.slice a5 a6 a7) s1514.2 h2) (K := (k_spec_l14Needs M w)) ?_ FU (0, s1141) o1518 _ _ ?_ q1 ?_
   ·rintro s1514 o1518 a b9 ⟨σ, a3, b4, rfl, hC, hO, hK, h0, a0⟩ hs
    refine c_seq ?_
    refine c_sr ?_
    refine pl_val (.int .i64 s1514.1) (y_move rfl) ?_
    refine pl_val (.int .i64 (x1151.2.length : Int)) (y_move rfl) ?_
    refine pl_val (.int .i64 k) (y_move rfl) ?_
    obtain ⟨r1525, q2, hs⟩ := bind_some hs
    refine pl_call Bd58 rfl (c_spec_l2Pow (M := a3) (x1151.2.length : Int) k  hO.fut q2) ?_
    rintro _ z0 ⟨rfl, h3⟩
    have h0 := h0.ext h3
    have a0 := a0.ext h3
    have hC := hC.ext h3
    have hO := hO.ext h3
    refine pl_val (.bool (decide (s1514.1 < r1525))) (y_lss rfl rfl) ?_
    refine c_nil ?_
    rcases bif_some hs with ⟨j2, hs⟩ | ⟨j2, hs⟩
    ·refine c_condT (congrArg Value.bool j2) ?_
     refine wp_skip ?_
     refine c_seq ?_
     refine wp_block ?_
     refine c_sr ?_
     refine pl_val (.int .i64 (x1151.2.length : Int)) (y_move rfl) ?_
     refine pl_val (.int .i64 k) (y_move rfl) ?_
     refine pl_val (.int .i64 s1514.1) (y_move rfl) ?_
     obtain ⟨r1528, q3, hs⟩ := bind_some hs
     refine pl_call Bd76 rfl (c_spec_l2Args (M := a3) (x1151.2.length : Int) k s1514.1  hO.fut q3) ?_
     rintro _ q4 ⟨c5, c6, c7, c8, rfl, h4, a1, q5⟩
     have h0 := h0.ext h4
     have a0 := a0.ext h4
     have hC := hC.ext h4
     have hO := Own.join0 hO h4 q5
     have hO := hO.perm (R := c8 ++ (b4 ++ ([]))) (by simp)
     refine pl_val (.slice c5 c6 c7) (y_assign rfl) ?_
     refine c_nil ?_
     refine c_sr ?_
     refine pl_val (.slice pa0 pn0 pc0) (y_move rfl) ?_
     refine pl_val (.int .i64 k1143) (y_move rfl) ?_
     obtain ⟨x1530, q6, hs⟩ := bind_some hs
     obtain ⟨q7, q8, q9, r0⟩ := rs_idx Sl37 Sz54 h0 q6
     refine pl_val (.pointer (some ⟨q7, q8, none⟩)) (q9 _ _ _ _ _ _ _ _ _ rfl rfl) ?_
     obtain ⟨z1, r1, r2⟩ := at_load Ag54 Sz54 (by intro h; cases h) r0
     obtain ⟨z2, rfl, r3⟩ := r2
     obtain ⟨z3, z4, rfl, r4, r5⟩ := pr_open r3
     obtain rfl := int_rel r4
     obtain ⟨b0, b1, b2, rfl, a2⟩ := rs_rel r5
     refine pl_val (.agg #[(.int .i64 x1530.1), (.slice b0 b1 b2)]) (y_load rfl (r1 _ (Chg.refl _ _))) ?_
     refine pl_val (.agg #[(.slice none 0 0), (.int .i64 x1530.1), (.slice b0 b1 b2)]) (y_build rfl (by kernel_rfl)) ?_
     obtain ⟨r6, b3, r7, l7, f0, l8⟩ := new_block q4 [(.slice none 0 0), (.int .i64 0), (.slice none 0 0)] 151
     refine pl_val (w' := r6) (.pointer (some ⟨b3, 0, none⟩)) (y_alloc (by rw [r7, l7]; kernel_rfl)) ?_
     have h0 := h0.ext f0
     have a0 := a0.ext f0
     have a1 := a1.ext f0
     have a2 := a2.ext f0
     have hC := hC.ext f0
     have hO := hO.new1 f0 l7 l8.lt
     obtain ⟨l9, r8, f1, a4⟩ := box_store (P := Try.prog) l8 [] [(.slice none 0 0), (.int .i64 0), (.slice none 0 0)] [] [(.slice none 0 0), (.int .i64 x1530.1), (.slice b0 b1 b2)] rfl rfl (by intro u hu; simp only [List.mem_cons, List.not_mem_nil, or_false] at hu; rcases hu with rfl | rfl | rfl <;> rfl)
     refine pl_skip (w' := l9) (ys_store rfl rfl (r8 _ _ rfl Sz151)) ?_
     have h0 := h0.mt f1 hO same_
     have a0 := a0.ma f1 hO same_ (fun _ e => (mem_r (mem_l (e))))
     have a1 := a1.ma f1 hO same_ (fun _ e => (mem_l (e)))
     have a2 := a2.mt f1 hO same_
     have hC := hC.st f1 hO same_
     have hO := hO.ext f1
     have a4 : BoxV l9 b3 151 [(.slice none 0 0), (.int .i64 x1530.1), (.slice b0 b1 b2)] := a4
     refine c_nil ?_
     refine c_sr ?_
     refine pl_val (.int .i64 0) (y_assign rfl) ?_
     refine c_nil ?_
     refine c_seq ?_
     refine c_sr ?_
     refine pl_val (.int .i64 0) (y_assign rfl) ?_
     refine c_nil ?_
     obtain ⟨o1636, r9, hs⟩ := bind_some hs
     refine wp_block ?_
     refine wp_iter (id := 6) (I := fun s1632 a a9 => ∃ (σ : Nat → Value) (c0 : Option Addr) (c1 : Nat) (c2 : Nat) (d4 : List Nat), a = fr 110 (ovl σ [(0, (.int .i64 n)), (1, (.slice pa0 pn0 pc0)), (2, (.int .i64 k)), (7, (.slice a5 a6 a7)), (9, (.int .i64 k1143)), (10, (.int .i64 (x1151.2.length : Int))), (11, (.int .i64 s1514.1)), (12, (.slice c5 c6 c7)), (13, (.pointer (some ⟨b3, 0, none⟩))), (14, (.int .i64 s1632.1)), (15, (.int .i64 s1632.2.1))]) ∧ Chg [] w a9 ∧ Own (Nw w []) a3 a9 (d4 ++ (([b3]) ++ (c8 ++ (b4 ++ [])))) ∧ (RT.rs (RT.pr (RT.int .i64) (RT.rs (RT.rs (RT.int .i64))))).val a3 a9 (.slice pa0 pn0 pc0) rels ([]) ∧ (RT.os 149 (RT.os 151 (RT.pr (RT.rs (RT.int .i64)) (RT.pr (RT.int .i64) (RT.rs (RT.rs (RT.int .i64))))))).val a3 a9 (.slice a5 a6 a7) s1514.2 b4 ∧ (RT.os 3 (RT.int .i64)).val a3 a9 (.slice c5 c6 c7) r1528 c8 ∧ (RT.rs (RT.rs (RT.int .i64))).val a3 a9 (.slice b0 b1 b2) x1530.2 ([]) ∧ BoxV a9 b3 151 [(.slice c0 c1 c2), (.int .i64 x1530.1), (.slice b0 b1 b2)] ∧ (RT.os 3 (RT.int .i64)).val a3 a9 (.slice c0 c1 c2) s1632.2.2 d4) (J := fun s1632 a a9 => ∃ (σ : Nat → Value) (d8 : Option Addr) (d9 : Nat) (e0 : Nat) (j3 : List Nat), a = fr 110 (ovl σ [(0, (.int .i64 n)), (1, (.slice pa0 pn0 pc0)), (2, (.int .i64 k)), (7, (.slice a5 a6 a7)), (9, (.int .i64 k1143)), (10, (.int .i64 (x1151.2.length : Int))), (11, (.int .i64 s1514.1)), (13, (.pointer (some ⟨b3, 0, none⟩))), (14, (.int .i64 s1632.1))]) ∧ Chg [] w a9 ∧ Own (Nw w []) a3 a9 (j3 ++ (([b3]) ++ (c8 ++ (b4 ++ [])))) ∧ (RT.rs (RT.pr (RT.int .i64) (RT.rs (RT.rs (RT.int .i64))))).val a3 a9 (.slice pa0 pn0 pc0) rels ([]) ∧ (RT.os 149 (RT.os 151 (RT.pr (RT.rs (RT.int .i64)) (RT.pr (RT.int .i64) (RT.rs (RT.rs (RT.int .i64))))))).val a3 a9 (.slice a5 a6 a7) s1514.2 b4 ∧ (RT.os 3 (RT.int .i64)).val a3 a9 (.slice c5 c6 c7) r1528 c8 ∧ (RT.rs (RT.rs (RT.int .i64))).val a3 a9 (.slice b0 b1 b2) x1530.2 ([]) ∧ BoxV a9 b3 151 [(.slice d8 d9 e0), (.int .i64 x1530.1), (.slice b0 b1 b2)] ∧ (RT.os 3 (RT.int .i64)).val a3 a9 (.slice d8 d9 e0) s1632.2.2 j3) (K := (k_spec_l14Needs M w)) ?_ FU (0, 0, []) o1636 _ _ ?_ r9 ?_
     ·rintro s1632 o1636 a a9 ⟨σ, c0, c1, c2, d4, rfl, hC, hO, h0, a0, a1, a2, a4, b5⟩ hs
      refine c_seq ?_
      refine c_sr ?_
      refine pl_val (.int .i64 s1632.2.1) (y_move rfl) ?_
      refine pl_val (.slice pa0 pn0 pc0) (y_move rfl) ?_
      refine pl_val (.int .i64 k1143) (y_move rfl) ?_
      obtain ⟨x1642, s0, hs⟩ := bind_some hs
      obtain ⟨m0, m1, s1, s2⟩ := rs_idx Sl37 Sz54 h0 s0
      refine pl_val (.pointer (some ⟨m0, m1, none⟩)) (s1 _ _ _ _ _ _ _ _ _ rfl rfl) ?_
      obtain ⟨s3, _⟩ := pr_at s2
      refine pl_val (.pointer (some ⟨m0, m1 + 0, none⟩)) (y_faddr rfl Fa54x0) ?_
      refine pl_val (.int .i64 x1642.1) (y_load rfl ((at_load_int Ag3 Sz3 s3) _ (Chg.refl _ _))) ?_
      refine pl_val (.bool (decide (s1632.2.1 < x1642.1))) (y_lss rfl rfl) ?_
      refine c_nil ?_
      rcases bif_some hs with ⟨j4, hs⟩ | ⟨j4, hs⟩
      ·refine c_condT (congrArg Value.bool j4) ?_
       refine wp_skip ?_
       refine c_seq ?_
       refine wp_block ?_
       refine c_sr ?_
       refine pl_val (.int .i64 0) (y_assign rfl) ?_
       refine c_nil ?_
       refine c_seq ?_
       refine c_sr ?_
       refine pl_val (.int .i64 0) (y_assign rfl) ?_
       refine c_nil ?_
       obtain ⟨o1664, s4, hs⟩ := bind_some hs
       refine wp_block ?_
       refine wp_forC (id := 8) k (I := fun k1662 s1660 a a8 => ∃ (σ : Nat → Value), a = fr 110 (ovl σ [(0, (.int .i64 n)), (1, (.slice pa0 pn0 pc0)), (2, (.int .i64 k)), (7, (.slice a5 a6 a7)), (9, (.int .i64 k1143)), (10, (.int .i64 (x1151.2.length : Int))), (11, (.int .i64 s1514.1)), (12, (.slice c5 c6 c7)), (13, (.pointer (some ⟨b3, 0, none⟩))), (14, (.int .i64 s1632.1)), (15, (.int .i64 s1632.2.1)), (16, (.int .i64 s1660)), (17, (.int .i64 k1662))]) ∧ Chg [] w a8 ∧ Own (Nw w []) a3 a8 (d4 ++ (([b3]) ++ (c8 ++ (b4 ++ [])))) ∧ (RT.rs (RT.pr (RT.int .i64) (RT.rs (RT.rs (RT.int .i64))))).val a3 a8 (.slice pa0 pn0 pc0) rels ([]) ∧ (RT.os 149 (RT.os 151 (RT.pr (RT.rs (RT.int .i64)) (RT.pr (RT.int .i64) (RT.rs (RT.rs (RT.int .i64))))))).val a3 a8 (.slice a5 a6 a7) s1514.2 b4 ∧ (RT.os 3 (RT.int .i64)).val a3 a8 (.slice c5 c6 c7) r1528 c8 ∧ (RT.rs (RT.rs (RT.int .i64))).val a3 a8 (.slice b0 b1 b2) x1530.2 ([]) ∧ BoxV a8 b3 151 [(.slice c0 c1 c2), (.int .i64 x1530.1), (.slice b0 b1 b2)] ∧ (RT.os 3 (RT.int .i64)).val a3 a8 (.slice c0 c1 c2) s1632.2.2 d4) (J := fun s1660 a a8 => ∃ (σ : Nat → Value), a = fr 110 (ovl σ [(0, (.int .i64 n)), (1, (.slice pa0 pn0 pc0)), (2, (.int .i64 k)), (7, (.slice a5 a6 a7)), (9, (.int .i64 k1143)), (10, (.int .i64 (x1151.2.length : Int))), (11, (.int .i64 s1514.1)), (12, (.slice c5 c6 c7)), (13, (.pointer (some ⟨b3, 0, none⟩))), (14, (.int .i64 s1632.1)), (15, (.int .i64 s1632.2.1)), (16, (.int .i64 s1660))]) ∧ Chg [] w a8 ∧ Own (Nw w []) a3 a8 (d4 ++ (([b3]) ++ (c8 ++ (b4 ++ [])))) ∧ (RT.rs (RT.pr (RT.int .i64) (RT.rs (RT.rs (RT.int .i64))))).val a3 a8 (.slice pa0 pn0 pc0) rels ([]) ∧ (RT.os 149 (RT.os 151 (RT.pr (RT.rs (RT.int .i64)) (RT.pr (RT.int .i64) (RT.rs (RT.rs (RT.int .i64))))))).val a3 a8 (.slice a5 a6 a7) s1514.2 b4 ∧ (RT.os 3 (RT.int .i64)).val a3 a8 (.slice c5 c6 c7) r1528 c8 ∧ (RT.rs (RT.rs (RT.int .i64))).val a3 a8 (.slice b0 b1 b2) x1530.2 ([]) ∧ BoxV a8 b3 151 [(.slice c0 c1 c2), (.int .i64 x1530.1), (.slice b0 b1 b2)] ∧ (RT.os 3 (RT.int .i64)).val a3 a8 (.slice c0 c1 c2) s1632.2.2 d4) (K := (k_spec_l14Needs M w)) ?_ ?_ 0 0 o1664 _ _ ?_ s4 ?_
       ·rintro k1662 s1660 a a8 ⟨σ, rfl, hC, hO, h0, a0, a1, a2, a4, b5⟩ hlt
        refine c_seq ?_
        refine c_sr ?_
        refine pl_val (.int .i64 k1662) (y_move rfl) ?_
        refine pl_val (.int .i64 k) (y_move rfl) ?_
        refine pl_val (.bool (decide (k1662 < k))) (y_lss rfl rfl) ?_
        refine c_nil ?_
        refine c_condF (congrArg Value.bool (decide_eq_false hlt)) ?_
        refine wp_exit ?_
        have hO := hO.fr3
        have hO := hO.fr3
        have hO := hO.fr3
        have hO := hO.fr3
        exact ⟨rfl, _, fr_ovl 110 ⟨rfl, rfl, rfl, rfl, rfl, rfl, rfl, rfl, rfl, rfl, rfl, rfl, trivial⟩, hC, hO, h0, a0, a1, a2, a4, b5⟩
       ·rintro k1662 s1660 o1664 a a8 ⟨σ, rfl, hC, hO, h0, a0, a1, a2, a4, b5⟩ hlt hw hs
        refine c_seq ?_
        refine c_sr ?_
        refine pl_val (.int .i64 k1662) (y_move rfl) ?_
        refine pl_val (.int .i64 k) (y_move rfl) ?_
        refine pl_val (.bool (decide (k1662 < k))) (y_lss rfl rfl) ?_
        refine c_nil ?_
        refine c_condT (congrArg Value.bool (decide_eq_true hlt)) ?_
        refine wp_skip ?_
        refine c_seq ?_
        refine wp_block ?_
        refine x_start [] Mx rfl ?_
        have c9 := Chg.drew a8
        generalize World.drew a8 = s5 at c9 ⊢
        have h0 := h0.ext c9
        have a0 := a0.ext c9
        have a1 := a1.ext c9
        have a2 := a2.ext c9
        have a4 := a4.cn c9
        have b5 := b5.ext c9
        have hC := hC.ext c9
        have hO := hO.ext c9
        have hS := Chg.refl [] s5
        refine x_p 0 (.int .i64 s1660) rfl (by kernel_rfl)  (fun _ => y_move rfl) (fun _ => hS) ?_
        refine x_p 1 (.int .i64 n) rfl (by kernel_rfl)  (fun _ => y_move rfl) (fun _ => hS) ?_
        refine x_p 2 (.int .i64 (w64 (s1660 * n))) rfl (by kernel_rfl)  (fun _ => y_mul rfl rfl) (fun _ => hS) ?_
        refine x_p 3 (.slice pa0 pn0 pc0) rfl (by kernel_rfl)  (fun _ => y_move rfl) (fun _ => hS) ?_
        refine x_p 4 (.int .i64 k1143) rfl (by kernel_rfl)  (fun _ => y_move rfl) (fun _ => hS) ?_
        obtain ⟨x1667, s6, hs⟩ := bind_some hs
        obtain ⟨m2, m3, s7, s8⟩ := rs_idx Sl37 Sz54 h0 s6
        refine x_p 5 (.pointer (some ⟨m2, m3, none⟩)) rfl (by kernel_rfl)  (fun _ => s7 _ _ _ _ _ _ _ _ _ rfl rfl) (fun _ => hS) ?_
        obtain ⟨_, s9⟩ := pr_at s8
        refine x_p 6 (.pointer (some ⟨m2, m3 + 1, none⟩)) rfl (by kernel_rfl)  (fun _ => y_faddr rfl Fa54x1) (fun _ => hS) ?_
        obtain ⟨z5, t0, m4⟩ := at_load Ag47 Sz47 (fun _ => rfl) s9
        obtain ⟨t1, t2, t3, rfl⟩ := rs_sl m4
        refine x_l 7 (.slice t1 t2 t3) rfl (by kernel_rfl)  (fun w' hw' => y_load rfl (t0 w' hw')) hS ?_
        refine x_p 8 (.slice c5 c6 c7) rfl (by kernel_rfl)  (fun _ => y_move rfl) (fun _ => hS) ?_
        refine x_p 9 (.int .i64 k1662) rfl (by kernel_rfl)  (fun _ => y_move rfl) (fun _ => hS) ?_
        obtain ⟨x1672, t4, hs⟩ := bind_some hs
        obtain ⟨t5, z6, z7, z8, t6, t7, z9⟩ := os_idx Sl41 Sz3 a1 t4
        refine x_p 10 (.pointer (some ⟨t5, 0 + Int.toNat k1662 * 1, none⟩)) rfl (by kernel_rfl)  (fun _ => t6 _ _ _ _ _ _ _ _ _ rfl rfl) (fun _ => hS) ?_
        refine x_l 11 (.int .i64 x1672) rfl (by kernel_rfl)  (fun w' hw' => y_load rfl ((at_load_int Ag3 Sz3 t7) w' hw')) hS ?_
        obtain ⟨x1674, t8, hs⟩ := bind_some hs
        obtain ⟨t9, u0, u1, u2⟩ := rs_idx Sl47 Sz41 m4 t8
        refine x_p 12 (.pointer (some ⟨t9, u0, none⟩)) rfl (by kernel_rfl)  (fun _ => u1 _ _ _ _ _ _ _ _ _ rfl rfl) (fun _ => hS) ?_
        obtain ⟨A0, u3, m5⟩ := at_load Ag41 Sz41 (fun _ => rfl) u2
        obtain ⟨u4, u5, u6, rfl⟩ := rs_sl m5
        refine x_l 13 (.slice u4 u5 u6) rfl (by kernel_rfl)  (fun w' hw' => y_load rfl (u3 w' hw')) hS ?_
        refine x_p 14 (.int .i64 s1632.2.1) rfl (by kernel_rfl)  (fun _ => y_move rfl) (fun _ => hS) ?_
        obtain ⟨x1678, u7, hs⟩ := bind_some hs
        obtain ⟨u9, v0, v1, v2⟩ := rs_idx Sl41 Sz3 m5 u7
        refine x_p 15 (.pointer (some ⟨u9, v0, none⟩)) rfl (by kernel_rfl)  (fun _ => v1 _ _ _ _ _ _ _ _ _ rfl rfl) (fun _ => hS) ?_
        refine x_l 16 (.int .i64 x1678) rfl (by kernel_rfl)  (fun w' hw' => y_load rfl ((at_load_int Ag3 Sz3 v2) w' hw')) hS ?_
        refine x_p 17 (.int .i64 (w64 ((w64 (s1660 * n)) + x1678))) rfl (by kernel_rfl)  (fun _ => y_add rfl rfl) (fun _ => hS) ?_
        refine x_p 18 (.int .i64 (w64 ((w64 (s1660 * n)) + x1678))) rfl (by kernel_rfl)  (fun _ => y_assign rfl) (fun _ => hS) ?_
        refine x_end (by kernel_rfl) ?_
        clear hS
        refine c_region ?_
        refine pl_val (.int .i64 k1662) (y_move rfl) ?_
        refine pl_val (.int .i64 (w64 (k1662 + 1))) (y_add rfl rfl) ?_
        refine pl_val (.int .i64 (w64 (k1662 + 1))) (y_assign rfl) ?_
        refine c_nil ?_
        cases hs
        have hO := hO.fr3
        have hO := hO.fr3
        have hO := hO.fr3
        have hO := hO.fr3
        exact ⟨_, fr_ovl 110 ⟨rfl, rfl, rfl, rfl, rfl, rfl, rfl, rfl, rfl, rfl, rfl, rfl, congrArg (Value.int .i64) hw, trivial⟩, hC, hO, h0, a0, a1, a2, a4, b5⟩
       ·skip
        have hO := hO.fr3
        have hO := hO.fr3
        have hO := hO.fr3
        have hO := hO.fr3
        exact ⟨_, fr_ovl 110 ⟨rfl, rfl, rfl, rfl, rfl, rfl, rfl, rfl, rfl, rfl, rfl, rfl, rfl, trivial⟩, hC, hO, h0, a0, a1, a2, a4, b5⟩
       cases o1664 with
       | nx _ => exact True.intro
       | rt r_ =>
        have hs := after_rt hs
        intro c4 f5 hK
        cases hs
        exact hK
       | br s1660 =>
        have hs := after_br hs
        rintro c4 a8 ⟨σ, rfl, hC, hO, h0, a0, a1, a2, a4, b5⟩
        refine c_sr ?_
        refine pl_val (.pointer (some ⟨b3, 0, none⟩)) (y_faddr rfl Fa151x0) ?_
        refine pl_val (.slice c0 c1 c2) (y_load rfl ((box_load Ag41 Sz41 a4 [] [(.slice c0 c1 c2)] [(.int .i64 x1530.1), (.slice b0 b1 b2)] rfl rfl (fun _ => rfl)) _ (Chg.refl _ _))) ?_
        refine pl_val (.int .i64 s1660) (y_move rfl) ?_
        obtain ⟨m6, j5, v3, m7, d5, m8⟩ := new_block a8 [(.int .i64 s1660)] 3
        refine pl_val (w' := m6) (.slice (some ⟨j5, 0, none⟩) 1 1) (y_bslice rfl (by rw [v3, m7]; kernel_rfl)) ?_
        have h0 := h0.ext d5
        have a0 := a0.ext d5
        have a1 := a1.ext d5
        have a2 := a2.ext d5
        have a4 := a4.cn d5
        have b5 := b5.ext d5
        have hC := hC.ext d5
        have hO := hO.new1 d5 m7 m8.lt
        have j6 := os_of_box (r := (RT.int .i64)) (M := a3) (css := [[(.int .i64 s1660)]]) (fps := [([] : List Nat)]) (xs := ([s1660] : List Int)) m8 ⟨⟨rfl, rfl⟩, trivial⟩ (Nat.le_of_ble_eq_true rfl) (List.nodup_cons.2 ⟨(fun h => nomatch h), List.nodup_nil⟩)
        have j6 : (RT.os 3 (RT.int .i64)).val a3 m6 (.slice (some ⟨j5, 0, none⟩) 1 1) [s1660] [j5] := j6
        obtain ⟨y1683, v4, hs⟩ := bind_some hs
        have hO := hO.fr1
        obtain ⟨h5, h6, h7, v5, v6, v7, e1, v8, e2⟩ := app_os Rw41 v4 b5 j6 hO.inM (fun g hg hq => hO.apart g hq (mem_l hg))
        have f2 := os_block b5
        refine pl_val (w' := v5) (.slice h5 h6 h7) (y_append rfl rfl (v7 _)) ?_
        have hO := hO.fr1
        have hO := hO.fr1
        have h0 := h0.mt e1 hO f2
        have a0 := a0.ma e1 hO f2 (fun _ e => (mem_r (mem_r (mem_r (mem_l (e))))))
        have a1 := a1.ma e1 hO f2 (fun _ e => (mem_r (mem_r (mem_l (e)))))
        have a2 := a2.mt e1 hO f2
        have a4 := a4.ap e1 hO f2 (mem_r (mem_l (List.mem_singleton.2 rfl)))
        have hC := hC.st e1 hO f2
        have hO := hO.eat e1 v8 (os_nodup e2) e2.fpl
        refine pl_val (.pointer (some ⟨b3, 0, none⟩)) (y_faddr rfl Fa151x0) ?_
        obtain ⟨m9, v9, e3, g3⟩ := box_store (P := Try.prog) a4 [] [(.slice c0 c1 c2)] [(.int .i64 x1530.1), (.slice b0 b1 b2)] [(.slice h5 h6 h7)] rfl rfl (by intro u hu; simp only [List.mem_cons, List.not_mem_nil, or_false] at hu; rcases hu with rfl <;> rfl)
        refine pl_skip (w' := m9) (ys_store rfl rfl (v9 _ _ rfl Sz41)) ?_
        have hO := hO.fr1
        have h0 := h0.mt e3 hO same_
        have a0 := a0.ma e3 hO same_ (fun _ e => (mem_r (mem_r (mem_l (e)))))
        have a1 := a1.ma e3 hO same_ (fun _ e => (mem_r (mem_l (e))))
        have a2 := a2.mt e3 hO same_
        have e2 := e2.ma e3 hO same_ (fun _ e => (mem_l (e)))
        have hC := hC.st e3 hO same_
        have hO := hO.ext e3
        have g3 : BoxV m9 b3 151 [(.slice h5 h6 h7), (.int .i64 x1530.1), (.slice b0 b1 b2)] := g3
        refine c_nil ?_
        refine c_region ?_
        refine pl_val (.int .i64 s1632.1) (y_move rfl) ?_
        refine pl_val (.int .i64 s1660) (y_move rfl) ?_
        obtain ⟨r1687, w1, hs⟩ := bind_some hs
        refine pl_call Bd131 rfl (c_spec_l1Most (M := a3) s1632.1 s1660  hO.fut w1) ?_
        rintro _ A1 ⟨rfl, d6⟩
        have h0 := h0.ext d6
        have a0 := a0.ext d6
        have a1 := a1.ext d6
        have a2 := a2.ext d6
        have g3 := g3.cn d6
        have e2 := e2.ext d6
        have hC := hC.ext d6
        have hO := hO.ext d6
        refine pl_val (.int .i64 r1687) (y_assign rfl) ?_
        refine c_nil ?_
        refine c_region ?_
        refine pl_val (.int .i64 s1632.2.1) (y_move rfl) ?_
        refine pl_val (.int .i64 (w64 (s1632.2.1 + 1))) (y_add rfl rfl) ?_
        refine pl_val (.int .i64 (w64 (s1632.2.1 + 1))) (y_assign rfl) ?_
        refine c_nil ?_
        cases hs
        have hO := hO.fr3
        have hO := hO.fr3
        have hO := hO.fr2
        have hO := hO.fr3
        exact ⟨_, h5, h6, h7, v6, fr_ovl 110 ⟨rfl, rfl, rfl, rfl, rfl, rfl, rfl, rfl, rfl, rfl, rfl, trivial⟩, hC, hO, h0, a0, a1, a2, g3, e2⟩
      refine c_condF (congrArg Value.bool j4) ?_
      refine wp_exit ?_
      cases hs
      have hO := hO.fr3
      have hO := hO.fr3
      have hO := hO.fr3
      have hO := hO.fr3
      exact ⟨rfl, _, c0, c1, c2, d4, fr_ovl 110 ⟨rfl, rfl, rfl, rfl, rfl, rfl, rfl, rfl, rfl, trivial⟩, hC, hO, h0, a0, a1, a2, a4, b5⟩
     ·skip
      have hO := hO.fr2
      have hO := hO.fr2
      have hO := hO.fr2
      have hO := hO.nil
      exact ⟨_, none, 0, 0, [], fr_ovl 110 ⟨rfl, rfl, rfl, rfl, rfl, rfl, rfl, rfl, rfl, rfl, rfl, trivial⟩, hC, hO, h0, a0, a1, a2, a4, os_nil⟩
     cases o1636 with
     | nx _ => exact True.intro
     | rt r_ =>
      have hs := after_rt hs
      intro c4 f5 hK
      cases hs
      exact hK
     | br s1632 =>
      have hs := after_br hs
      rintro c4 a9 ⟨σ, d8, d9, e0, j3, rfl, hC, hO, h0, a0, a1, a2, a4, j7⟩
      refine x_start [8, 10] Mx rfl ?_
      have d0 := Chg.drew a9
      generalize World.drew a9 = n0 at d0 ⊢
      have h0 := h0.ext d0
      have a0 := a0.ext d0
      have a1 := a1.ext d0
      have a2 := a2.ext d0
      have a4 := a4.cn d0
      have j7 := j7.ext d0
      have hC := hC.ext d0
      have hO := hO.ext d0
      have hS := Chg.refl [] n0
      refine x_p 0 (.slice a5 a6 a7) rfl (by kernel_rfl)  (fun _ => y_move rfl) (fun _ => hS) ?_
      refine x_p 1 (.int .i64 s1632.1) rfl (by kernel_rfl)  (fun _ => y_move rfl) (fun _ => hS) ?_
      refine x_p 2 (.slice a5 a6 a7) rfl (by kernel_rfl)  (fun _ => y_move rfl) (fun _ => hS) ?_
      refine x_p 3 (.int .i64 s1632.1) rfl (by kernel_rfl)  (fun _ => y_move rfl) (fun _ => hS) ?_
      obtain ⟨x1689, j8, hs⟩ := bind_some hs
      obtain ⟨w2, A2, w3, A3, w4, w5, w6⟩ := os_idx Sl123 Sz149 a0 j8
      have w7 := own_row (Frz.os (Frz.pr (Frz.rs Frz.int) (Frz.pr Frz.int (Frz.rs (Frz.rs Frz.int))))) w5 w6
      refine x_p 4 (.pointer (some ⟨w2, 0 + Int.toNat s1632.1 * 1, none⟩)) rfl (by kernel_rfl)  (fun _ => w4 _ _ _ _ _ _ _ _ _ rfl rfl) (fun _ => hS) ?_
      obtain ⟨A4, w8, hrow1691, g4⟩ := at_load1 Ag149 Sz149 rfl rfl w7
      obtain ⟨j9, k0, k1, rfl⟩ := rs_sl g4
      refine x_l 5 (.slice j9 k0 k1) rfl (by kernel_rfl)  (fun w' hw' => y_load rfl (w8 w' hw')) hS ?_
      refine x_l 6 (.agg #[(.slice d8 d9 e0), (.int .i64 x1530.1), (.slice b0 b1 b2)]) rfl (by kernel_rfl)  (fun w' hw' => y_load rfl ((box_load Ag151 Sz151 a4 [] [(.slice d8 d9 e0), (.int .i64 x1530.1), (.slice b0 b1 b2)] [] rfl rfl (fun h => nomatch h)) w' hw')) hS ?_
      refine x_one (i := 7) (by kernel_rfl) ?_
      obtain ⟨d1, A5, g5, w9, hO, e4⟩ := frz_own (Frz.os Frz.int) j7 hO
      have h0 := h0.sub (M' := d1) g5
      have a0 := a0.sub (M' := d1) g5
      have a1 := a1.sub (M' := d1) g5
      have a2 := a2.sub (M' := d1) g5
      have g4 := g4.sub (M' := (Less d1 b4)) (fun g hg => (g5 g hg.1).imp (fun h => ⟨h, hg.2⟩) id)
      have hK := hK.trans w9
      obtain ⟨k2, k3, x0, n1, b7, n2⟩ := new_block n0 [(.slice d8 d9 e0), (.int .i64 x1530.1), (.slice b0 b1 b2)] 151
      refine xk_val (w' := k2) (b := false) (.slice (some ⟨k3, 0, none⟩) 1 1) rfl  (y_bslice rfl (by rw [x0, n1]; kernel_rfl)) rfl (fun _ => hS.ext b7) ?_
      have h0 := h0.ext b7
      have a0 := a0.ext b7
      have a1 := a1.ext b7
      have a2 := a2.ext b7
      have a4 := a4.cn b7
      have e4 := e4.ext b7
      have g4 := g4.ext b7
      have hrow1691 := hrow1691.cn b7
      have hC := hC.ext b7
      have hO := hO.new1 b7 n1 n2.lt
      have k4 := os_of_box (r := (RT.pr (RT.rs (RT.int .i64)) (RT.pr (RT.int .i64) (RT.rs (RT.rs (RT.int .i64)))))) (M := d1) (css := [[(.slice d8 d9 e0), (.int .i64 x1530.1), (.slice b0 b1 b2)]]) (fps := [([] : List Nat)]) (xs := ([(s1632.2.2, (x1530.1, x1530.2))] : List ((List Int) × (Int × (List (List Int)))))) n2 ⟨⟨_, _, _, _, rfl, rfl, (rs_unval e4), ⟨_, _, _, _, rfl, rfl, ⟨rfl, rfl⟩, (rs_unval a2)⟩⟩, trivial⟩ (Nat.le_of_ble_eq_true rfl) (List.nodup_cons.2 ⟨(fun h => nomatch h), List.nodup_nil⟩)
      have k4 : (RT.os 151 (RT.pr (RT.rs (RT.int .i64)) (RT.pr (RT.int .i64) (RT.rs (RT.rs (RT.int .i64)))))).val d1 k2 (.slice (some ⟨k3, 0, none⟩) 1 1) [(s1632.2.2, (x1530.1, x1530.2))] [k3] := k4
      have hS := hS.ext b7
      refine x_one (i := 8) (by kernel_rfl) ?_
      have hO := hO.fr3
      obtain ⟨x1, x2, x3, A6, x4, f3⟩ := oh_take (c := [(.slice j9 k0 k1)]) w3 (os_hole a0) (idx_map_some j8) hrow1691 rfl
      have hO := hO.split x4
      have n3 : (RT.os 151 (RT.pr (RT.rs (RT.int .i64)) (RT.pr (RT.int .i64) (RT.rs (RT.rs (RT.int .i64)))))).val d1 k2 (.slice j9 k0 k1) x1689 x1 := ⟨[_], rfl, x3⟩
      obtain ⟨y1698, x5, hs⟩ := bind_some hs
      have hO := hO.fr2
      have hO := hO.fr1
      obtain ⟨n4, n5, n6, x6, A7, x7, d7, x8, h8⟩ := app_os Rw149 x5 n3 k4 hO.inM (fun g hg hq => hO.apart g hq (mem_l hg))
      have e5 := os_block n3
      refine xk_val (w' := x6) (b := true) (.slice n4 n5 n6) rfl  (y_append rfl rfl (x7 _)) rfl (fun h => nomatch h) ?_
      have hO := hO.fr1
      have hO := hO.fr1
      have h0 := h0.mt d7 hO e5
      have f3 := f3.ma d7 hO e5 (fun _ e => (mem_r (mem_l (e))))
      have a1 := a1.ma d7 hO e5 (fun _ e => (mem_r (mem_r (mem_r (mem_l (e))))))
      have a2 := a2.mt d7 hO e5
      have a4 := a4.ap d7 hO e5 (mem_r (mem_r (mem_l (List.mem_singleton.2 rfl))))
      have e4 := e4.mt d7 hO e5
      have hC := hC.st d7 hO e5
      have hO := hO.eat d7 x8 (os_nodup h8) h8.fpl
      obtain ⟨n7, A8, n8, x9, y0, A9, B0⟩ := os_idx Sl123 Sz149 f3 (idx_hole j8)
      refine x_p 9 (.pointer (some ⟨n7, 0 + Int.toNat s1632.1 * 1, none⟩)) rfl (by kernel_rfl)  (fun _ => y0 _ _ _ _ _ _ _ _ _ rfl rfl) (fun h => nomatch h) ?_
      refine x_one (i := 10) (by kernel_rfl) ?_
      have hO := hO.fr1
      obtain ⟨y1, y2, y3, e6, y4, g6⟩ := os_store (P := Try.prog) (y := some y1698) (c' := [(.slice n4 n5 n6)]) n8 f3 x9 (fun g hg => hO.inM g (os_block f3 g (by simpa using hg))) (show (RT.hole (RT.os 151 (RT.pr (RT.rs (RT.int .i64)) (RT.pr (RT.int .i64) (RT.rs (RT.rs (RT.int .i64))))))).rel _ _ _ (some _) _ from os_unval h8) (os_nodup h8) (fun g hg hq => hO.apart g hq (mem_l hg)) (fun _ h => .inl h)
      have f4 : ∀ q ∈ [n7], q ∈ x2 := fun q hq => os_block f3 q (by rw [n8]; exact hq)
      have g6 := os_fill g6
      refine xk_skip (w' := y1) (b := true) rfl (ys_store rfl rfl (y3 _ _ rfl Sz149)) rfl (fun h => nomatch h) ?_
      have hO := hO.fr1
      have hO := hO.fr1
      have h0 := h0.mt e6 hO f4
      have a1 := a1.ma e6 hO f4 (fun _ e => (mem_r (mem_r (mem_l (e)))))
      have a2 := a2.mt e6 hO f4
      have a4 := a4.ap e6 hO f4 (mem_r (mem_l (List.mem_singleton.2 rfl)))
      have e4 := e4.mt e6 hO f4
      have hC := hC.st e6 hO f4
      have hO := hO.eat e6 (fun q hq => (y4 q hq).elim .inl (fun h => .inr (.inl h))) (os_nodup g6) g6.fpl
      refine x_end (by kernel_rfl) ?_
      clear hS
      refine c_region ?_
      refine pl_val (.int .i64 s1514.1) (y_move rfl) ?_
      refine pl_val (.int .i64 (w64 (s1514.1 + 1))) (y_add rfl rfl) ?_
      refine pl_val (.int .i64 (w64 (s1514.1 + 1))) (y_assign rfl) ?_
      refine c_nil ?_
      cases hs
      have hO := hO.fr1
      have hO := hO.drop
      have hO := hO.fr1
      have hO := hO.drop
      exact ⟨_, d1, y2, fr_ovl 110 ⟨rfl, rfl, rfl, rfl, rfl, rfl, rfl, trivial⟩, hC, hO, hK, h0, g6⟩
    refine c_condF (congrArg Value.bool j2) ?_
    refine wp_exit ?_
    cases hs
    exact ⟨rfl, _, a3, b4, fr_ovl 110 ⟨rfl, rfl, rfl, rfl, rfl, trivial⟩, hC, hO, hK, h0, a0⟩
   ·skip
    exact ⟨_, d3, e8, fr_ovl 110 ⟨rfl, rfl, rfl, rfl, rfl, rfl, rfl, trivial⟩, hC, hO, hK, h0, j1⟩
   cases o1518 with
   | nx _ => exact True.intro
   | rt r_ =>
    have hs := after_rt hs
    intro c4 f5 hK
    cases hs
    exact hK
   | br s1514 =>
    have hs := after_br hs
    rintro c4 b9 ⟨σ, e9, h2, rfl, hC, hO, hK, h0, y5⟩
    refine c_region ?_
    refine pl_val (.int .i64 k1143) (y_move rfl) ?_
    refine pl_val (.int .i64 (w64 (k1143 + 1))) (y_add rfl rfl) ?_
    refine pl_val (.int .i64 (w64 (k1143 + 1))) (y_assign rfl) ?_
    refine c_nil ?_
    cases hs
    exact ⟨_, e9, h2, fr_ovl 110 ⟨rfl, rfl, rfl, rfl, congrArg (Value.int .i64) hw, trivial⟩, hC, hO, hK, h0, y5⟩
  ·skip
   exact ⟨_, M, g7, fr_ovl 110 ⟨rfl, rfl, rfl, rfl, rfl, trivial⟩, hC, hO, Keeps.refl, h0, p1⟩
  cases o1145 with
  | nx _ => exact True.intro
  | rt r_ =>
   have hs := after_rt hs
   intro c4 f5 hK
   cases hs
   exact hK
  | br s1141 =>
   have hs := after_br hs
   rintro c4 b6 ⟨σ, g2, j0, rfl, hC, hO, hK, h0, y6⟩
   refine c_sr ?_
   refine pl_val (.slice a5 a6 a7) (y_move rfl) ?_
   refine pl_val (.slice a5 a6 a7) (y_assign rfl) ?_
   refine c_nil ?_
   refine wp_ret ?_
   cases hs
   obtain ⟨B1, B2, B3, y7, hO, y8⟩ := frz_own (Frz.os (Frz.os (Frz.pr (Frz.rs Frz.int) (Frz.pr Frz.int (Frz.rs (Frz.rs Frz.int)))))) y6 hO
   have hK := hK.trans y7
   exact ⟨_, a5, a6, a7, fr_ovl 110 ⟨rfl, trivial⟩, hC, (Keeps.out hK y8)⟩

def k_spec_l1Own (M : Nat → Prop) (w0 : World) (r : (List Int)) (a : Act) (w : World) : Prop :=
  ∃ (σ : Nat → Value) (ra0 : Option Addr) (rn0 rc0 : Nat) (rf0 : List Nat), a = fr 6 (ovl σ [(2, (.slice ra0 rn0 rc0))]) ∧ Chg [] w0 w ∧ (RT.os 3 (RT.int .i64)).val M w (.slice ra0 rn0 rc0) r rf0 ∧ Own (Nw w0 []) (fun _ => True) w (rf0 ++ ([]))
def s_spec_l1Own (l : List Int) : Option ((List Int)) :=
  (app ([]) l).bind fun y5 =>
  some y5
set_option maxHeartbeats 4000000 in
theorem c_spec_l1Own {M : Nat → Prop} {w : World} {pa0 : Option Addr} {pn0 pc0 : Nat} (l : List Int) (h0 : (RT.rs (RT.int .i64)).val M w (.slice pa0 pn0 pc0) l ([])) (hM : ∀ g, w.heap.size ≤ g → M g) {r : (List Int)} (hs : s_spec_l1Own l = some r) :
    Gives Try.prog 121 [(.slice pa0 pn0 pc0)] w (fun v w' => ∃ (ra0 : Option Addr) (rn0 rc0 : Nat) (rf0 : List Nat), v = (.slice ra0 rn0 rc0) ∧ Chg [] w w' ∧ (RT.os 3 (RT.int .i64)).val M w' (.slice ra0 rn0 rc0) r rf0 ∧ Own (Nw w []) (fun _ => True) w' (rf0 ++ ([]))) := by
 refine calls_fr Try.func121 rfl Try.ntmps121 (Nat.le_of_ble_eq_true rfl) ?_
 have hO := Own.start (N := Nw w []) hM Nw.fut
 have hC := Chg.refl [] w
 unfold s_spec_l1Own at hs
 refine wp_mono (Q := KPost (k_spec_l1Own M w r)) ?_ (fun e a b8 h => ?_)
 rotate_left
 ·cases e
  case ret =>
   obtain ⟨σ, ra0, rn0, rc0, rf0, rfl, hrest⟩ := h
   exact ret1x Try.results121 (res_tmp rfl) ⟨ra0, rn0, rc0, rf0, rfl, hrest⟩
  all_goals exact (h : False).elim
 refine c_sr ?_
 refine pl_val (.slice none 0 0) (y_assign rfl) ?_
 refine c_nil ?_
 refine c_sr ?_
 obtain ⟨a8, a1, b2, a9, a2, b0⟩ := new_block w [] 3
 refine pl_val (w' := a8) (.slice (some ⟨a1, 0, none⟩) 0 0) (y_bslice rfl (by rw [b2, a9]; kernel_rfl)) ?_
 have h0 := h0.ext a2
 have hC := hC.ext a2
 have hO := hO.new1 a2 a9 b0.lt
 have a0 := os_of_box (r := (RT.int .i64)) (M := M) (css := []) (fps := []) (xs := ([] : List Int)) b0 trivial (Nat.zero_le _) (List.nodup_cons.2 ⟨(fun h => nomatch h), List.nodup_nil⟩)
 have a0 : (RT.os 3 (RT.int .i64)).val M a8 (.slice (some ⟨a1, 0, none⟩) 0 0) [] [a1] := a0
 refine pl_val (.slice pa0 pn0 pc0) (y_move rfl) ?_
 obtain ⟨y5, b3, hs⟩ := bind_some hs
 obtain ⟨a3, a4, a5, b4, b5, b6, a6, b7, a7⟩ := app_rs Rw41 b3 a0 h0 hO.inM
 have b1 := os_block a0
 refine pl_val (w' := b4) (.slice a3 a4 a5) (y_append rfl rfl (b6 _)) ?_
 have h0 := h0.mt a6 hO b1
 have hC := hC.st a6 hO b1
 have hO := hO.grow a6 b7 (os_nodup a7) a7.fpl
 refine pl_val (.slice a3 a4 a5) (y_assign rfl) ?_
 refine c_nil ?_
 refine wp_ret ?_
 cases hs
 exact ⟨_, a3, a4, a5, b5, fr_ovl 6 ⟨rfl, trivial⟩, hC, a7, hO.top⟩

def k_spec_l1Same (M : Nat → Prop) (w0 : World) (r : Bool) (a : Act) (w : World) : Prop :=
  ∃ (σ : Nat → Value) , a = fr 26 (ovl σ [(4, (.bool r))]) ∧ Chg [] w0 w
def s_spec_l1Same (a_ : List Int) (b : List Int) : Option (Bool) :=
  (bif ((a_.length : Int) != (b.length : Int)) then some false else (forC (S := Unit) (R := Bool) (fun k12 s10 =>
  (idx a_ k12).bind fun x17 =>
  (idx b k12).bind fun x19 =>
  (bif (x17 != x19) then some (.rt false) else some (.nx ()))) 0 (a_.length : Int) ()).bind fun o14 => after o14 (fun r_ => some r_) (fun s10 =>
  some true))
set_option maxHeartbeats 4000000 in
theorem c_spec_l1Same {M : Nat → Prop} {w : World} {pa0 : Option Addr} {pn0 pc0 : Nat} {pa1 : Option Addr} {pn1 pc1 : Nat} (a_ : List Int) (b : List Int) (h0 : (RT.rs (RT.int .i64)).val M w (.slice pa0 pn0 pc0) a_ ([])) (h1 : (RT.rs (RT.int .i64)).val M w (.slice pa1 pn1 pc1) b ([])) (hM : ∀ g, w.heap.size ≤ g → M g) {r : Bool} (hs : s_spec_l1Same a_ b = some r) :
    Gives Try.prog 87 [(.slice pa0 pn0 pc0), (.slice pa1 pn1 pc1)] w (fun v w' => v = (.bool r) ∧ Chg [] w w') := by
 refine calls_fr Try.func87 rfl Try.ntmps87 (Nat.le_of_ble_eq_true rfl) ?_
 have hO := Own.start (N := Nw w []) hM Nw.fut
 have hC := Chg.refl [] w
 unfold s_spec_l1Same at hs
 refine wp_mono (Q := KPost (k_spec_l1Same M w r)) ?_ (fun e a a4 h => ?_)
 rotate_left
 ·cases e
  case ret =>
   obtain ⟨σ, rfl, hrest⟩ := h
   exact ret1x Try.results87 (res_tmp rfl) ⟨rfl, hrest⟩
  all_goals exact (h : False).elim
 refine c_sr ?_
 refine pl_val (.bool false) (y_assign rfl) ?_
 refine c_nil ?_
 refine c_seq ?_
 refine c_sr ?_
 refine pl_val (.slice pa0 pn0 pc0) (y_move rfl) ?_
 refine pl_val (.int .i64 (a_.length : Int)) (y_len' Sl41 (rs_len h0) rfl) ?_
 refine pl_val (.slice pa1 pn1 pc1) (y_move rfl) ?_
 refine pl_val (.int .i64 (b.length : Int)) (y_len' Sl41 (rs_len h1) rfl) ?_
 refine pl_val (.bool ((a_.length : Int) != (b.length : Int))) (y_neq rfl rfl) ?_
 refine c_nil ?_
 rcases bif_some hs with ⟨a2, hs⟩ | ⟨a2, hs⟩
 ·refine c_condT (congrArg Value.bool a2) ?_
  refine c_sr ?_
  refine pl_val (.bool false) (y_assign rfl) ?_
  refine c_nil ?_
  refine wp_ret ?_
  cases hs
  exact ⟨_, fr_ovl 26 ⟨rfl, trivial⟩, hC⟩
 refine c_condF (congrArg Value.bool a2) ?_
 refine wp_skip ?_
 refine c_seq ?_
 refine c_sr ?_
 refine pl_val (.int .i64 0) (y_assign rfl) ?_
 refine c_nil ?_
 obtain ⟨o14, a5, hs⟩ := bind_some hs
 refine wp_block ?_
 refine wp_forC (id := 0) (a_.length : Int) (I := fun k12 s10 a a0 => ∃ (σ : Nat → Value), a = fr 26 (ovl σ [(0, (.slice pa0 pn0 pc0)), (1, (.slice pa1 pn1 pc1)), (5, (.int .i64 k12))]) ∧ Chg [] w a0 ∧ Own (Nw w []) M a0 ([]) ∧ (RT.rs (RT.int .i64)).val M a0 (.slice pa0 pn0 pc0) a_ ([]) ∧ (RT.rs (RT.int .i64)).val M a0 (.slice pa1 pn1 pc1) b ([])) (J := fun s10 a a0 => ∃ (σ : Nat → Value), a = fr 26 (ovl σ []) ∧ Chg [] w a0 ∧ Own (Nw w []) M a0 ([]) ∧ (RT.rs (RT.int .i64)).val M a0 (.slice pa0 pn0 pc0) a_ ([]) ∧ (RT.rs (RT.int .i64)).val M a0 (.slice pa1 pn1 pc1) b ([])) (K := (k_spec_l1Same M w)) ?_ ?_ 0 () o14 _ _ ?_ a5 ?_
 ·rintro k12 s10 a a0 ⟨σ, rfl, hC, hO, h0, h1⟩ hlt
  refine c_seq ?_
  refine c_sr ?_
  refine pl_val (.int .i64 k12) (y_move rfl) ?_
  refine pl_val (.slice pa0 pn0 pc0) (y_move rfl) ?_
  refine pl_val (.int .i64 (a_.length : Int)) (y_len' Sl41 (rs_len h0) rfl) ?_
  refine pl_val (.bool (decide (k12 < (a_.length : Int)))) (y_lss rfl rfl) ?_
  refine c_nil ?_
  refine c_condF (congrArg Value.bool (decide_eq_false hlt)) ?_
  refine wp_exit ?_
  exact ⟨rfl, _, fr_ovl 26 trivial, hC, hO, h0, h1⟩
 ·rintro k12 s10 o14 a a0 ⟨σ, rfl, hC, hO, h0, h1⟩ hlt hw hs
  refine c_seq ?_
  refine c_sr ?_
  refine pl_val (.int .i64 k12) (y_move rfl) ?_
  refine pl_val (.slice pa0 pn0 pc0) (y_move rfl) ?_
  refine pl_val (.int .i64 (a_.length : Int)) (y_len' Sl41 (rs_len h0) rfl) ?_
  refine pl_val (.bool (decide (k12 < (a_.length : Int)))) (y_lss rfl rfl) ?_
  refine c_nil ?_
  refine c_condT (congrArg Value.bool (decide_eq_true hlt)) ?_
  refine wp_skip ?_
  refine c_seq ?_
  refine wp_block ?_
  refine c_seq ?_
  refine x_start [] Mx rfl ?_
  have a1 := Chg.drew a0
  generalize World.drew a0 = a6 at a1 ⊢
  have h0 := h0.ext a1
  have h1 := h1.ext a1
  have hC := hC.ext a1
  have hO := hO.ext a1
  have hS := Chg.refl [] a6
  refine x_p 0 (.slice pa0 pn0 pc0) rfl (by kernel_rfl)  (fun _ => y_move rfl) (fun _ => hS) ?_
  refine x_p 1 (.int .i64 k12) rfl (by kernel_rfl)  (fun _ => y_move rfl) (fun _ => hS) ?_
  obtain ⟨x17, a7, hs⟩ := bind_some hs
  obtain ⟨a8, a9, b0, b1⟩ := rs_idx Sl41 Sz3 h0 a7
  refine x_p 2 (.pointer (some ⟨a8, a9, none⟩)) rfl (by kernel_rfl)  (fun _ => b0 _ _ _ _ _ _ _ _ _ rfl rfl) (fun _ => hS) ?_
  refine x_l 3 (.int .i64 x17) rfl (by kernel_rfl)  (fun w' hw' => y_load rfl ((at_load_int Ag3 Sz3 b1) w' hw')) hS ?_
  refine x_p 4 (.slice pa1 pn1 pc1) rfl (by kernel_rfl)  (fun _ => y_move rfl) (fun _ => hS) ?_
  refine x_p 5 (.int .i64 k12) rfl (by kernel_rfl)  (fun _ => y_move rfl) (fun _ => hS) ?_
  obtain ⟨x19, b2, hs⟩ := bind_some hs
  obtain ⟨b3, b4, b5, b6⟩ := rs_idx Sl41 Sz3 h1 b2
  refine x_p 6 (.pointer (some ⟨b3, b4, none⟩)) rfl (by kernel_rfl)  (fun _ => b5 _ _ _ _ _ _ _ _ _ rfl rfl) (fun _ => hS) ?_
  refine x_l 7 (.int .i64 x19) rfl (by kernel_rfl)  (fun w' hw' => y_load rfl ((at_load_int Ag3 Sz3 b6) w' hw')) hS ?_
  refine x_p 8 (.bool (x17 != x19)) rfl (by kernel_rfl)  (fun _ => y_neq rfl rfl) (fun _ => hS) ?_
  refine x_end (by kernel_rfl) ?_
  clear hS
  rcases bif_some hs with ⟨a3, hs⟩ | ⟨a3, hs⟩
  ·refine c_condT (congrArg Value.bool a3) ?_
   refine c_sr ?_
   refine pl_val (.bool false) (y_assign rfl) ?_
   refine c_nil ?_
   refine wp_ret ?_
   cases hs
   exact ⟨_, fr_ovl 26 ⟨rfl, trivial⟩, hC⟩
  refine c_condF (congrArg Value.bool a3) ?_
  refine wp_skip ?_
  refine c_region ?_
  refine pl_val (.int .i64 k12) (y_move rfl) ?_
  refine pl_val (.int .i64 (w64 (k12 + 1))) (y_add rfl rfl) ?_
  refine pl_val (.int .i64 (w64 (k12 + 1))) (y_assign rfl) ?_
  refine c_nil ?_
  cases hs
  exact ⟨_, fr_ovl 26 ⟨rfl, rfl, congrArg (Value.int .i64) hw, trivial⟩, hC, hO, h0, h1⟩
 ·skip
  exact ⟨_, fr_ovl 26 ⟨rfl, rfl, rfl, trivial⟩, hC, hO, h0, h1⟩
 cases o14 with
 | nx _ => exact True.intro
 | rt r_ =>
  have hs := after_rt hs
  intro b7 a4 hK
  cases hs
  exact hK
 | br s10 =>
  have hs := after_br hs
  rintro b7 a0 ⟨σ, rfl, hC, hO, h0, h1⟩
  refine c_sr ?_
  refine pl_val (.bool true) (y_assign rfl) ?_
  refine c_nil ?_
  refine wp_ret ?_
  cases hs
  exact ⟨_, fr_ovl 26 ⟨rfl, trivial⟩, hC⟩

theorem Bd87 : Bodied Try.prog 87 := bodied Try.func87 (by kernel_rfl) rfl

end Go.Proofs
