/- What functions of the program compute, as plain functions, and that a call gives just that. Conditions: those named in each theorem. -/
import Derived.Test.YtlflgcnolmojfaaGY2
import Derived.Test.YtlflgcnolmojfaaRows
set_option linter.unusedVariables false
namespace Go.Proofs
open Go.G Go.RowKit
set_option maxRecDepth 100000

def k_spec_l1In (M : Nat → Prop) (w0 : World) (r : Bool) (a : Act) (w : World) : Prop :=
  ∃ (σ : Nat → Value) , a = fr 15 (ovl σ [(6, (.bool r))]) ∧ Chg [] w0 w
def s_spec_l1In (x_ : Int) (a_ : Int) (b : Int) : Option (Bool) :=
  (bif (decide (a_ ≤ x_)) then some (decide (x_ ≤ b)) else some false)
set_option maxHeartbeats 4000000 in
theorem c_spec_l1In {M : Nat → Prop} {w : World}  (x_ : Int) (a_ : Int) (b : Int)  (hM : ∀ g, w.heap.size ≤ g → M g) {r : Bool} (hs : s_spec_l1In x_ a_ b = some r) :
    Gives Try.prog 56 [(.int .i64 x_), (.int .i64 a_), (.int .i64 b)] w (fun v w' => v = (.bool r) ∧ Chg [] w w') := by
  refine calls_fr Try.func56 rfl Try.ntmps56 (Nat.le_of_ble_eq_true rfl) ?_
  have hO := Own.start (N := Nw w []) hM Nw.fut
  have hC := Chg.refl [] w
  unfold s_spec_l1In at hs
  refine wp_mono (Q := KPost (k_spec_l1In M w r)) ?_ (fun e a w1 h => ?_)
  rotate_left
  · cases e
    case ret =>
      obtain ⟨σ, rfl, hrest⟩ := h
      exact ret1x Try.results56 (res_tmp rfl) ⟨rfl, hrest⟩
    all_goals exact (h : False).elim
  refine c_seq ?_
  refine c_region ?_
  refine pl_val (.bool false) (y_assign rfl) ?_
  refine c_nil ?_
  refine c_seq ?_
  refine c_region ?_
  refine pl_val (.int .i64 x_) (y_move rfl) ?_
  refine pl_val (.int .i64 a_) (y_move rfl) ?_
  refine pl_val (.bool (decide (a_ ≤ x_))) (y_geq rfl rfl) ?_
  refine pl_val (.bool (decide (a_ ≤ x_))) (y_move rfl) ?_
  rcases bif_some hs with ⟨hc1, hs⟩ | ⟨hc1, hs⟩
  · skip
    refine pl_yes (.int .i64 x_) (tg := 10) (by kernel_rfl) (congrArg Value.bool hc1) (y_move rfl) ?_
    refine pl_yes (.int .i64 b) (tg := 10) (by kernel_rfl) (congrArg Value.bool hc1) (y_move rfl) ?_
    refine pl_yes (.bool (decide (x_ ≤ b))) (tg := 10) (by kernel_rfl) (congrArg Value.bool hc1) (y_leq rfl rfl) ?_
    refine pl_val (.bool (decide (x_ ≤ b))) (y_pick_t (congrArg Value.bool hc1) rfl) ?_
    refine pl_val (.bool (decide (x_ ≤ b))) (y_assign rfl) ?_
    refine c_nil ?_
    refine wp_ret ?_
    cases hs
    exact ⟨_, fr_ovl 15 ⟨rfl, trivial⟩, hC⟩
  · skip
    refine pl_not (tg := 10) (by kernel_rfl) (congrArg Value.bool hc1) ?_
    refine pl_not (tg := 10) (by kernel_rfl) (congrArg Value.bool hc1) ?_
    refine pl_not (tg := 10) (by kernel_rfl) (congrArg Value.bool hc1) ?_
    refine pl_val (.bool false) (y_pick_f (congrArg Value.bool hc1) rfl) ?_
    refine pl_val (.bool false) (y_assign rfl) ?_
    refine c_nil ?_
    refine wp_ret ?_
    cases hs
    exact ⟨_, fr_ovl 15 ⟨rfl, trivial⟩, hC⟩

theorem Bd56 : Bodied Try.prog 56 := bodied Try.func56 (by kernel_rfl) rfl

def k_spec_l6Size (M : Nat → Prop) (w0 : World) (r : Bool) (a : Act) (w : World) : Prop :=
  ∃ (σ : Nat → Value) , a = fr 5 (ovl σ [(2, (.bool r))]) ∧ Chg [] w0 w
def s_spec_l6Size (n : Int) : Option (Bool) :=
  (s_spec_l1In n 1 8).bind fun r2 =>
  some r2
set_option maxHeartbeats 4000000 in
theorem c_spec_l6Size {M : Nat → Prop} {w : World}  (n : Int)  (hM : ∀ g, w.heap.size ≤ g → M g) {r : Bool} (hs : s_spec_l6Size n = some r) :
    Gives Try.prog 31 [(.int .i64 n)] w (fun v w' => v = (.bool r) ∧ Chg [] w w') := by
  refine calls_fr Try.func31 rfl Try.ntmps31 (Nat.le_of_ble_eq_true rfl) ?_
  have hO := Own.start (N := Nw w []) hM Nw.fut
  have hC := Chg.refl [] w
  unfold s_spec_l6Size at hs
  refine wp_mono (Q := KPost (k_spec_l6Size M w r)) ?_ (fun e a w1 h => ?_)
  rotate_left
  · cases e
    case ret =>
      obtain ⟨σ, rfl, hrest⟩ := h
      exact ret1x Try.results31 (res_tmp rfl) ⟨rfl, hrest⟩
    all_goals exact (h : False).elim
  refine c_seq ?_
  refine c_region ?_
  refine pl_val (.bool false) (y_assign rfl) ?_
  refine c_nil ?_
  refine c_seq ?_
  refine c_region ?_
  refine pl_val (.int .i64 n) (y_move rfl) ?_
  obtain ⟨r2, hr2, hs⟩ := bind_some hs
  refine pl_call Bd56 rfl (c_spec_l1In (M := M) n 1 8  hO.fut hr2) ?_
  rintro _ w1 ⟨rfl, hC1⟩
  have hC := hC.ext hC1
  have hO := hO.ext hC1
  refine pl_val (.bool r2) (y_assign rfl) ?_
  refine c_nil ?_
  refine wp_ret ?_
  cases hs
  exact ⟨_, fr_ovl 5 ⟨rfl, trivial⟩, hC⟩

theorem Rw22 : RowT Try.prog 22 3 1 [(.int .i64 0)] := ⟨Try.underlying22, ⟨_, _, rfl, rfl, rfl, rfl, by decide⟩, rfl, by decide⟩

theorem Sl22 : SlT Try.prog 22 3 := Try.underlying22

theorem Sz3 : SzT Try.prog 3 1 := ⟨_, rfl, rfl⟩

def k_spec_l2Args (M : Nat → Prop) (w0 : World) (r : (List Int)) (a : Act) (w : World) : Prop :=
  ∃ (σ : Nat → Value) (ra0 : Option Addr) (rn0 rc0 : Nat) (rf0 : List Nat), a = fr 27 (ovl σ [(6, (.slice ra0 rn0 rc0))]) ∧ Chg [] w0 w ∧ (RT.os 3 (RT.int .i64)).val M w (.slice ra0 rn0 rc0) r rf0 ∧ (∀ g ∈ rf0, w0.heap.size ≤ g)
def s_spec_l2Args (n : Int) (arity : Int) (at_ : Int) : Option ((List Int)) :=
  (mks arity (0 : Int)).bind fun y2 =>
  (iter (S := Int × Int × (List Int)) (R := (List Int)) (fun s17 =>
  (bif (decide (0 ≤ s17.2.1)) then (nz n).bind fun u26 =>
  (idx s17.2.2 s17.2.1).bind fun x27 =>
  (nz n).bind fun u30 =>
  some (.nx (w64 (Int.tdiv s17.1 n), w64 (s17.2.1 - 1), List.set s17.2.2 (Int.toNat s17.2.1) (Int.tmod s17.1 n))) else some (.br (s17.1, s17.2.1, s17.2.2)))) FU (at_, w64 (arity - 1), y2)).bind fun o21 => after o21 (fun r_ => some r_) (fun s17 =>
  some s17.2.2)
set_option maxHeartbeats 4000000 in
theorem c_spec_l2Args {M : Nat → Prop} {w : World}  (n : Int) (arity : Int) (at_ : Int)  (hM : ∀ g, w.heap.size ≤ g → M g) {r : (List Int)} (hs : s_spec_l2Args n arity at_ = some r) :
    Gives Try.prog 57 [(.int .i64 n), (.int .i64 arity), (.int .i64 at_)] w (fun v w' => ∃ (ra0 : Option Addr) (rn0 rc0 : Nat) (rf0 : List Nat), v = (.slice ra0 rn0 rc0) ∧ Chg [] w w' ∧ (RT.os 3 (RT.int .i64)).val M w' (.slice ra0 rn0 rc0) r rf0 ∧ (∀ g ∈ rf0, w.heap.size ≤ g)) := by
  refine calls_fr Try.func57 rfl Try.ntmps57 (Nat.le_of_ble_eq_true rfl) ?_
  have hO := Own.start (N := Nw w []) hM Nw.fut
  have hC := Chg.refl [] w
  unfold s_spec_l2Args at hs
  refine wp_mono (Q := KPost (k_spec_l2Args M w r)) ?_ (fun e a w1 h => ?_)
  rotate_left
  · cases e
    case ret =>
      obtain ⟨σ, ra0, rn0, rc0, rf0, rfl, hrest⟩ := h
      exact ret1x Try.results57 (res_tmp rfl) ⟨ra0, rn0, rc0, rf0, rfl, hrest⟩
    all_goals exact (h : False).elim
  refine c_seq ?_
  refine c_region ?_
  refine pl_val (.slice none 0 0) (y_assign rfl) ?_
  refine c_nil ?_
  refine c_seq ?_
  refine c_region ?_
  refine pl_val (.int .i64 arity) (y_move rfl) ?_
  obtain ⟨y2, hy2, hs⟩ := bind_some hs
  obtain ⟨a1, n1, c1, w1, f1, hm1, hC1, hfr1, hv1⟩ := mk_os (M := M) (w := w) (r := (RT.int .i64)) Rw22 hy2 (fun _ _ => ⟨rfl, rfl⟩)
  refine pl_val (w' := w1) (.slice a1 n1 c1) (y_make rfl rfl hm1) ?_
  have hC := hC.ext hC1
  have hO := hO.new hC1 hfr1 (os_nodup hv1) hv1.fpl
  refine pl_val (.slice a1 n1 c1) (y_assign rfl) ?_
  refine c_nil ?_
  refine c_seq ?_
  refine c_seq ?_
  refine c_region ?_
  refine pl_val (.int .i64 arity) (y_move rfl) ?_
  refine pl_val (.int .i64 (w64 (arity - 1))) (y_sub rfl rfl) ?_
  refine pl_val (.int .i64 (w64 (arity - 1))) (y_assign rfl) ?_
  refine c_nil ?_
  obtain ⟨o21, hl22, hs⟩ := bind_some hs
  refine wp_block ?_
  refine wp_iter (id := 0) (I := fun s17 a w18 => ∃ (σ : Nat → Value) (f23 : List Nat), a = fr 27 (ovl σ [(0, (.int .i64 n)), (2, (.int .i64 s17.1)), (7, (.slice a1 n1 c1)), (8, (.int .i64 s17.2.1))]) ∧ Chg [] w w18 ∧ Own (Nw w []) M w18 (f23 ++ []) ∧ (RT.os 3 (RT.int .i64)).val M w18 (.slice a1 n1 c1) s17.2.2 f23) (J := fun s17 a w18 => ∃ (σ : Nat → Value) (f24 : List Nat), a = fr 27 (ovl σ [(7, (.slice a1 n1 c1))]) ∧ Chg [] w w18 ∧ Own (Nw w []) M w18 (f24 ++ []) ∧ (RT.os 3 (RT.int .i64)).val M w18 (.slice a1 n1 c1) s17.2.2 f24) (K := (k_spec_l2Args M w)) ?_ FU (at_, w64 (arity - 1), y2) o21 _ _ ?_ hl22 ?_
  · rintro s17 o21 a w18 ⟨σ, f23, rfl, hC, hO, hv23⟩ hs
    refine c_seq ?_
    refine c_seq ?_
    refine c_region ?_
    refine pl_val (.int .i64 s17.2.1) (y_move rfl) ?_
    refine pl_val (.bool (decide (0 ≤ s17.2.1))) (y_geq rfl rfl) ?_
    refine c_nil ?_
    rcases bif_some hs with ⟨hc25, hs⟩ | ⟨hc25, hs⟩
    · skip
      refine c_condT (congrArg Value.bool hc25) ?_
      refine wp_skip ?_
      refine c_seq ?_
      refine wp_block ?_
      refine c_seq ?_
      refine c_region ?_
      refine pl_val (.slice a1 n1 c1) (y_move rfl) ?_
      refine pl_val (.int .i64 s17.2.1) (y_move rfl) ?_
      refine pl_val (.int .i64 s17.1) (y_move rfl) ?_
      refine pl_val (.int .i64 n) (y_move rfl) ?_
      obtain ⟨u26, hu26, hs⟩ := bind_some hs
      refine pl_val (.int .i64 (Int.tmod s17.1 n)) (y_rem rfl rfl (nz_ne hu26)) ?_
      obtain ⟨x27, hx27, hs⟩ := bind_some hs
      obtain ⟨g28, f28, hg28, hk28, hp28, ha28, hf28⟩ := os_idx Sl22 Sz3 hv23 hx27
      refine pl_val (.pointer (some ⟨g28, 0 + Int.toNat s17.2.1 * 1, none⟩)) (hp28 _ _ _ _ _ _ _ _ _ rfl rfl) ?_
      obtain ⟨w29, f29, hst29, hC29, hf29, hv29⟩ := os_store (P := Try.prog) (c' := [(.int .i64 (Int.tmod s17.1 n))]) hg28 hv23 hk28 (fun g hg => hO.inM g (os_block hv23 g (by simpa using hg))) ⟨rfl, rfl⟩ List.nodup_nil (fun _ h => nomatch h) (fun _ h => .inl h)
      have hG29 : ∀ q ∈ [g28], q ∈ f23 := fun q hq => os_block hv23 q (by rw [hg28]; exact hq)
      refine pl_skip (w' := w29) (ys_store rfl rfl (hst29 _ _ rfl Sz3)) ?_
      have hC := hC.step hC29 (fun g hg => hO.inN g (hG29 g hg))
      have hO := hO.grow hC29 (fun q hq => .inl ((hf29 q hq).resolve_right (fun h => nomatch h))) (os_nodup hv29) hv29.fpl
      refine c_nil ?_
      refine c_region ?_
      refine pl_val (.int .i64 s17.1) (y_move rfl) ?_
      refine pl_val (.int .i64 n) (y_move rfl) ?_
      obtain ⟨u30, hu30, hs⟩ := bind_some hs
      refine pl_val (.int .i64 (w64 (Int.tdiv s17.1 n))) (y_quo rfl rfl (nz_ne hu30)) ?_
      refine pl_val (.int .i64 (w64 (Int.tdiv s17.1 n))) (y_assign rfl) ?_
      refine c_nil ?_
      refine c_region ?_
      refine pl_val (.int .i64 s17.2.1) (y_move rfl) ?_
      refine pl_val (.int .i64 (w64 (s17.2.1 - 1))) (y_sub rfl rfl) ?_
      refine pl_val (.int .i64 (w64 (s17.2.1 - 1))) (y_assign rfl) ?_
      refine c_nil ?_
      cases hs
      exact ⟨_, f29, fr_ovl 27 ⟨rfl, rfl, rfl, rfl, trivial⟩, hC, hO, hv29⟩
    · skip
      refine c_condF (congrArg Value.bool hc25) ?_
      refine wp_exit ?_
      cases hs
      exact ⟨rfl, _, f23, fr_ovl 27 ⟨rfl, trivial⟩, hC, hO, hv23⟩
  · skip
    exact ⟨_, f1, fr_ovl 27 ⟨rfl, rfl, rfl, rfl, trivial⟩, hC, hO, hv1⟩
  · cases o21 with
    | nx _ => exact True.intro
    | rt r_ =>
      have hs := after_rt hs
      intro a1 w1 hK
      cases hs
      exact hK
    | br s17 =>
      have hs := after_br hs
      rintro a1 w18 ⟨σ, f24, rfl, hC, hO, hv24⟩
      refine c_seq ?_
      refine c_region ?_
      refine pl_val (.slice a1 n1 c1) (y_move rfl) ?_
      refine pl_val (.slice a1 n1 c1) (y_assign rfl) ?_
      refine c_nil ?_
      refine wp_ret ?_
      cases hs
      exact ⟨_, a1, n1, c1, f24, fr_ovl 27 ⟨rfl, trivial⟩, hC, hv24, (fun g hg => ((hO.2.1 g (mem_l (hg))).2.2).resolve_left (fun h => nomatch h))⟩

theorem Ag24 : AggT Try.prog 24 true := fun _ => by kernel_rfl

theorem Sz24 : SzT Try.prog 24 2 := ⟨_, rfl, rfl⟩

theorem Bd57 : Bodied Try.prog 57 := bodied Try.func57 (by kernel_rfl) rfl

theorem Mx : Try.prog.follows .mixedOrders = true := by kernel_rfl

theorem Ag3 : AggT Try.prog 3 false := fun _ => by kernel_rfl

theorem Fa24x1 : ∀ (a : Addr) (w : World), (Instr.fieldAt 24 (.pointer (some a)) 1).run Try.prog w = .ok (.pointer (some (a.add 1))) w := fun _ _ => by kernel_rfl

theorem Ag22 : AggT Try.prog 22 false := fun _ => by kernel_rfl

theorem Sz22 : SzT Try.prog 22 1 := ⟨_, rfl, rfl⟩

def k_spec_l18Op (M : Nat → Prop) (w0 : World) (r : (Int × (List Int))) (a : Act) (w : World) : Prop :=
  ∃ (σ : Nat → Value) (rg4 : Nat) (ra0 : Option Addr) (rn0 rc0 : Nat) (rf0 : List Nat), a = fr 48 (ovl σ [(4, (.pointer (some ⟨rg4, 0, none⟩)))]) ∧ BoxV w rg4 24 [(.int .i64 r.1), (.slice ra0 rn0 rc0)] ∧ Chg [] w0 w ∧ (RT.os 3 (RT.int .i64)).val M w (.slice ra0 rn0 rc0) r.2 rf0 ∧ (∀ g ∈ rf0, w0.heap.size ≤ g)
def s_spec_l18Op (n : Int) (dual : Bool) : Option ((Int × (List Int))) :=
  (forC (S := (List Int)) (R := (Int × (List Int))) (fun k64 s62 =>
  (s_spec_l2Args n 3 k64).bind fun r73 =>
  (idx r73 0).bind fun x76 =>
  (idx r73 1).bind fun x78 =>
  (bif ((x76 == x78) == dual) then (idx r73 0).bind fun x82 =>
  (app s62 ([x82])).bind fun y87 =>
  some (.nx y87) else (idx r73 2).bind fun x91 =>
  (app s62 ([x91])).bind fun y96 =>
  some (.nx y96))) 0 (w64 ((w64 (n * n)) * n)) []).bind fun o66 => after o66 (fun r_ => some r_) (fun s62 =>
  some (3, s62))
set_option maxHeartbeats 4000000 in
theorem c_spec_l18Op {M : Nat → Prop} {w : World}  (n : Int) (dual : Bool)  (hM : ∀ g, w.heap.size ≤ g → M g) {r : (Int × (List Int))} (hs : s_spec_l18Op n dual = some r) :
    Gives Try.prog 32 [(.int .i64 n), (.bool dual)] w (fun v w' => ∃ (ra0 : Option Addr) (rn0 rc0 : Nat) (rf0 : List Nat), v = (.agg #[(.int .i64 r.1), (.slice ra0 rn0 rc0)]) ∧ Chg [] w w' ∧ (RT.os 3 (RT.int .i64)).val M w' (.slice ra0 rn0 rc0) r.2 rf0 ∧ (∀ g ∈ rf0, w.heap.size ≤ g)) := by
  refine calls_fr Try.func32 rfl Try.ntmps32 (Nat.le_of_ble_eq_true rfl) ?_
  have hO := Own.start (N := Nw w []) hM Nw.fut
  have hC := Chg.refl [] w
  unfold s_spec_l18Op at hs
  refine wp_mono (Q := KPost (k_spec_l18Op M w r)) ?_ (fun e a w1 h => ?_)
  rotate_left
  · cases e
    case ret =>
      obtain ⟨σ, rg4, ra0, rn0, rc0, rf0, rfl, hbrg4, hrest⟩ := h
      exact ret1x Try.results32 (res_cell rfl (box_load Ag24 Sz24 hbrg4 [] _ [] rfl rfl (fun h => nomatch h))) ⟨ra0, rn0, rc0, rf0, rfl, hrest⟩
    all_goals exact (h : False).elim
  refine c_seq ?_
  refine c_region ?_
  obtain ⟨w1, g1, ew1, eg1, hC1, hb1⟩ := new_block w [(.int .i64 0), (.slice none 0 0)] 24
  refine pl_val (w' := w1) (.pointer (some ⟨g1, 0, none⟩)) (y_alloc (by rw [ew1, eg1]; kernel_rfl)) ?_
  have hC := hC.ext hC1
  have hO := hO.new (X' := [g1]) hC1 (fun q hq => by rw [List.mem_singleton.1 hq, eg1]; exact Nat.le_refl _) (List.nodup_cons.2 ⟨(fun h => nomatch h), List.nodup_nil⟩) (fun q hq => by rw [List.mem_singleton.1 hq]; exact hb1.lt)
  refine c_nil ?_
  refine c_seq ?_
  refine c_region ?_
  obtain ⟨w2, g2, ew2, eg2, hC2, hb2⟩ := new_block w1 [] 3
  refine pl_val (w' := w2) (.slice (some ⟨g2, 0, none⟩) 0 0) (y_bslice rfl (by rw [ew2, eg2]; kernel_rfl)) ?_
  have hb1 := hb1.chg hC2 (fun h => nomatch h)
  have hC := hC.ext hC2
  have hO := hO.new (X' := [g2]) hC2 (fun q hq => by rw [List.mem_singleton.1 hq, eg2]; exact Nat.le_refl _) (List.nodup_cons.2 ⟨(fun h => nomatch h), List.nodup_nil⟩) (fun q hq => by rw [List.mem_singleton.1 hq]; exact hb2.lt)
  have hv2 := os_of_box (r := (RT.int .i64)) (M := M) (css := []) (fps := []) (xs := ([] : List Int)) hb2 trivial (Nat.zero_le _) (List.nodup_cons.2 ⟨(fun h => nomatch h), List.nodup_nil⟩)
  have hv2 : (RT.os 3 (RT.int .i64)).val M w2 (.slice (some ⟨g2, 0, none⟩) 0 0) [] [g2] := hv2
  refine pl_val (.agg #[(.int .i64 3), (.slice (some ⟨g2, 0, none⟩) 0 0)]) (y_build rfl (by kernel_rfl)) ?_
  obtain ⟨w4, g4, ew4, eg4, hC4, hb4⟩ := new_block w2 [(.int .i64 0), (.slice none 0 0)] 24
  refine pl_val (w' := w4) (.pointer (some ⟨g4, 0, none⟩)) (y_alloc (by rw [ew4, eg4]; kernel_rfl)) ?_
  have hb1 := hb1.chg hC4 (fun h => nomatch h)
  have hv2 := hv2.ext hC4
  have hC := hC.ext hC4
  have hO := hO.new (X' := [g4]) hC4 (fun q hq => by rw [List.mem_singleton.1 hq, eg4]; exact Nat.le_refl _) (List.nodup_cons.2 ⟨(fun h => nomatch h), List.nodup_nil⟩) (fun q hq => by rw [List.mem_singleton.1 hq]; exact hb4.lt)
  obtain ⟨w5, hst5, hC5, hb5⟩ := box_store (P := Try.prog) hb4 [] [(.int .i64 0), (.slice none 0 0)] [] [(.int .i64 3), (.slice (some ⟨g2, 0, none⟩) 0 0)] rfl rfl (by intro u hu; simp only [List.mem_cons, List.not_mem_nil, or_false] at hu; rcases hu with rfl | rfl <;> rfl)
  refine pl_skip (w' := w5) (ys_store rfl rfl (hst5 _ _ rfl Sz24)) ?_
  have hb1 := hb1.chg hC5 (fun hg => hO.apart _ ((fun _ h => h) _ hg) (mem_r (mem_l (List.mem_singleton.2 rfl))))
  have hv2 := hv2.mut hC5 (fun g hg => hO.inM g ((fun _ h => h) g hg)) (fun g hg e => hO.apart g ((fun _ h => h) g hg) (mem_l (e)))
  have hC := hC.step hC5 (fun g hg => hO.inN g ((fun _ h => h) g hg))
  have hO := hO.ext hC5
  have hb5 : BoxV w5 g4 24 [(.int .i64 3), (.slice (some ⟨g2, 0, none⟩) 0 0)] := hb5
  refine c_nil ?_
  refine c_seq ?_
  refine c_seq ?_
  refine c_region ?_
  refine pl_val (.int .i64 0) (y_assign rfl) ?_
  refine c_nil ?_
  obtain ⟨o66, hl67, hs⟩ := bind_some hs
  refine wp_block ?_
  refine wp_forC (id := 0) (w64 ((w64 (n * n)) * n)) (I := fun k64 s62 a w63 => ∃ (σ : Nat → Value) (a68 : Option Addr) (n68 : Nat) (c68 : Nat) (f68 : List Nat), a = fr 48 (ovl σ [(0, (.int .i64 n)), (1, (.bool dual)), (4, (.pointer (some ⟨g1, 0, none⟩))), (5, (.pointer (some ⟨g4, 0, none⟩))), (6, (.int .i64 k64))]) ∧ Chg [] w w63 ∧ Own (Nw w []) M w63 (f68 ++ (([g4]) ++ (([g1]) ++ []))) ∧ BoxV w63 g1 24 [(.int .i64 0), (.slice none 0 0)] ∧ BoxV w63 g4 24 [(.int .i64 3), (.slice a68 n68 c68)] ∧ (RT.os 3 (RT.int .i64)).val M w63 (.slice a68 n68 c68) s62 f68) (J := fun s62 a w63 => ∃ (σ : Nat → Value) (a70 : Option Addr) (n70 : Nat) (c70 : Nat) (f70 : List Nat), a = fr 48 (ovl σ [(4, (.pointer (some ⟨g1, 0, none⟩))), (5, (.pointer (some ⟨g4, 0, none⟩)))]) ∧ Chg [] w w63 ∧ Own (Nw w []) M w63 (f70 ++ (([g4]) ++ (([g1]) ++ []))) ∧ BoxV w63 g1 24 [(.int .i64 0), (.slice none 0 0)] ∧ BoxV w63 g4 24 [(.int .i64 3), (.slice a70 n70 c70)] ∧ (RT.os 3 (RT.int .i64)).val M w63 (.slice a70 n70 c70) s62 f70) (K := (k_spec_l18Op M w)) ?_ ?_ 0 [] o66 _ _ ?_ hl67 ?_
  · rintro k64 s62 a w63 ⟨σ, a68, n68, c68, f68, rfl, hC, hO, hb1, hb5, hv68⟩ hlt
    refine c_seq ?_
    refine c_seq ?_
    refine c_region ?_
    refine pl_val (.int .i64 k64) (y_move rfl) ?_
    refine pl_val (.int .i64 n) (y_move rfl) ?_
    refine pl_val (.int .i64 n) (y_move rfl) ?_
    refine pl_val (.int .i64 (w64 (n * n))) (y_mul rfl rfl) ?_
    refine pl_val (.int .i64 n) (y_move rfl) ?_
    refine pl_val (.int .i64 (w64 ((w64 (n * n)) * n))) (y_mul rfl rfl) ?_
    refine pl_val (.bool (decide (k64 < (w64 ((w64 (n * n)) * n))))) (y_lss rfl rfl) ?_
    refine c_nil ?_
    refine c_condF (congrArg Value.bool (decide_eq_false hlt)) ?_
    refine wp_exit ?_
    have hO := hO.fr2
    have hO := hO.fr2
    have hO := hO.fr2
    exact ⟨rfl, _, a68, n68, c68, f68, fr_ovl 48 ⟨rfl, rfl, trivial⟩, hC, hO, hb1, hb5, hv68⟩
  · rintro k64 s62 o66 a w63 ⟨σ, a68, n68, c68, f68, rfl, hC, hO, hb1, hb5, hv68⟩ hlt hw hs
    refine c_seq ?_
    refine c_seq ?_
    refine c_region ?_
    refine pl_val (.int .i64 k64) (y_move rfl) ?_
    refine pl_val (.int .i64 n) (y_move rfl) ?_
    refine pl_val (.int .i64 n) (y_move rfl) ?_
    refine pl_val (.int .i64 (w64 (n * n))) (y_mul rfl rfl) ?_
    refine pl_val (.int .i64 n) (y_move rfl) ?_
    refine pl_val (.int .i64 (w64 ((w64 (n * n)) * n))) (y_mul rfl rfl) ?_
    refine pl_val (.bool (decide (k64 < (w64 ((w64 (n * n)) * n))))) (y_lss rfl rfl) ?_
    refine c_nil ?_
    refine c_condT (congrArg Value.bool (decide_eq_true hlt)) ?_
    refine wp_skip ?_
    refine c_seq ?_
    refine wp_block ?_
    refine c_seq ?_
    refine c_region ?_
    refine pl_val (.int .i64 n) (y_move rfl) ?_
    refine pl_val (.int .i64 k64) (y_move rfl) ?_
    obtain ⟨r73, hr73, hs⟩ := bind_some hs
    refine pl_call Bd57 rfl (c_spec_l2Args (M := M) n 3 k64  hO.fut hr73) ?_
    rintro _ w72 ⟨a72x0, n72x0, c72x0, f72x0, rfl, hC72, hv72x0, hfr72x0⟩
    have hb1 := hb1.chg hC72 (fun h => nomatch h)
    have hb5 := hb5.chg hC72 (fun h => nomatch h)
    have hv68 := hv68.ext hC72
    have hC := hC.ext hC72
    have hO := hO.new hC72 hfr72x0 (os_nodup hv72x0) hv72x0.fpl
    refine pl_val (.slice a72x0 n72x0 c72x0) (y_assign rfl) ?_
    refine c_nil ?_
    refine c_seq ?_
    refine x_start [] Mx rfl ?_
    have hCw75 := Chg.drew w72
    generalize World.drew w72 = w75 at hCw75 ⊢
    have hb1 := hb1.chg hCw75 (fun h => nomatch h)
    have hb5 := hb5.chg hCw75 (fun h => nomatch h)
    have hv68 := hv68.ext hCw75
    have hv72x0 := hv72x0.ext hCw75
    have hC := hC.ext hCw75
    have hO := hO.ext hCw75
    have hS := Chg.refl [] w75
    refine x_p 0 (.slice a72x0 n72x0 c72x0) rfl (by kernel_rfl)  (fun _ => y_move rfl) (fun _ => hS) ?_
    obtain ⟨x76, hx76, hs⟩ := bind_some hs
    obtain ⟨g77, f77, hg77, hk77, hp77, ha77, hf77⟩ := os_idx Sl22 Sz3 hv72x0 hx76
    refine x_p 1 (.pointer (some ⟨g77, 0 + Int.toNat 0 * 1, none⟩)) rfl (by kernel_rfl)  (fun _ => hp77 _ _ _ _ _ _ _ _ _ rfl rfl) (fun _ => hS) ?_
    refine x_l 2 (.int .i64 x76) rfl (by kernel_rfl)  (fun w' hw' => y_load rfl ((at_load_int Ag3 Sz3 ha77) w' hw')) hS ?_
    refine x_p 3 (.slice a72x0 n72x0 c72x0) rfl (by kernel_rfl)  (fun _ => y_move rfl) (fun _ => hS) ?_
    obtain ⟨x78, hx78, hs⟩ := bind_some hs
    obtain ⟨g79, f79, hg79, hk79, hp79, ha79, hf79⟩ := os_idx Sl22 Sz3 hv72x0 hx78
    refine x_p 4 (.pointer (some ⟨g79, 0 + Int.toNat 1 * 1, none⟩)) rfl (by kernel_rfl)  (fun _ => hp79 _ _ _ _ _ _ _ _ _ rfl rfl) (fun _ => hS) ?_
    refine x_l 5 (.int .i64 x78) rfl (by kernel_rfl)  (fun w' hw' => y_load rfl ((at_load_int Ag3 Sz3 ha79) w' hw')) hS ?_
    refine x_p 6 (.bool (x76 == x78)) rfl (by kernel_rfl)  (fun _ => y_eql rfl rfl) (fun _ => hS) ?_
    refine x_p 7 (.bool dual) rfl (by kernel_rfl)  (fun _ => y_move rfl) (fun _ => hS) ?_
    refine x_p 8 (.bool ((x76 == x78) == dual)) rfl (by kernel_rfl)  (fun _ => y_beql Try.underlying4 rfl rfl) (fun _ => hS) ?_
    refine x_end (by kernel_rfl) ?_
    clear hS
    rcases bif_some hs with ⟨hc80, hs⟩ | ⟨hc80, hs⟩
    · skip
      refine c_condT (congrArg Value.bool hc80) ?_
      refine x_start [6, 8] Mx rfl ?_
      have hCw81 := Chg.drew w75
      generalize World.drew w75 = w81 at hCw81 ⊢
      have hb1 := hb1.chg hCw81 (fun h => nomatch h)
      have hb5 := hb5.chg hCw81 (fun h => nomatch h)
      have hv68 := hv68.ext hCw81
      have hv72x0 := hv72x0.ext hCw81
      have hC := hC.ext hCw81
      have hO := hO.ext hCw81
      have hS := Chg.refl [] w81
      refine x_p 0 (.pointer (some ⟨g4, 1, none⟩)) rfl (by kernel_rfl)  (fun _ => y_faddr rfl Fa24x1) (fun _ => hS) ?_
      refine x_l 1 (.slice a68 n68 c68) rfl (by kernel_rfl)  (fun w' hw' => y_load rfl ((box_load Ag22 Sz22 hb5 [(.int .i64 3)] [(.slice a68 n68 c68)] [] rfl rfl (fun _ => rfl)) w' hw')) hS ?_
      refine x_p 2 (.slice a72x0 n72x0 c72x0) rfl (by kernel_rfl)  (fun _ => y_move rfl) (fun _ => hS) ?_
      obtain ⟨x82, hx82, hs⟩ := bind_some hs
      obtain ⟨g83, f83, hg83, hk83, hp83, ha83, hf83⟩ := os_idx Sl22 Sz3 hv72x0 hx82
      refine x_p 3 (.pointer (some ⟨g83, 0 + Int.toNat 0 * 1, none⟩)) rfl (by kernel_rfl)  (fun _ => hp83 _ _ _ _ _ _ _ _ _ rfl rfl) (fun _ => hS) ?_
      refine x_l 4 (.int .i64 x82) rfl (by kernel_rfl)  (fun w' hw' => y_load rfl ((at_load_int Ag3 Sz3 ha83) w' hw')) hS ?_
      refine x_one (i := 5) (by kernel_rfl) ?_
      obtain ⟨w84, g84, ew84, eg84, hC84, hb84⟩ := new_block w81 [(.int .i64 x82)] 3
      refine xk_val (w' := w84) (b := false) (.slice (some ⟨g84, 0, none⟩) 1 1) rfl  (y_bslice rfl (by rw [ew84, eg84]; kernel_rfl)) rfl (fun _ => hS.ext hC84) ?_
      have hb1 := hb1.chg hC84 (fun h => nomatch h)
      have hb5 := hb5.chg hC84 (fun h => nomatch h)
      have hv68 := hv68.ext hC84
      have hv72x0 := hv72x0.ext hC84
      have hC := hC.ext hC84
      have hO := hO.new (X' := [g84]) hC84 (fun q hq => by rw [List.mem_singleton.1 hq, eg84]; exact Nat.le_refl _) (List.nodup_cons.2 ⟨(fun h => nomatch h), List.nodup_nil⟩) (fun q hq => by rw [List.mem_singleton.1 hq]; exact hb84.lt)
      have hv84 := os_of_box (r := (RT.int .i64)) (M := M) (css := [[(.int .i64 x82)]]) (fps := [([] : List Nat)]) (xs := ([x82] : List Int)) hb84 ⟨⟨rfl, rfl⟩, trivial⟩ (Nat.le_of_ble_eq_true rfl) (List.nodup_cons.2 ⟨(fun h => nomatch h), List.nodup_nil⟩)
      have hv84 : (RT.os 3 (RT.int .i64)).val M w84 (.slice (some ⟨g84, 0, none⟩) 1 1) [x82] [g84] := hv84
      have hS := hS.ext hC84
      refine x_one (i := 6) (by kernel_rfl) ?_
      obtain ⟨y87, hy87, hs⟩ := bind_some hs
      have hO := hO.fr2
      obtain ⟨a86, n86, c86, w86, f86, hr86, hC86, hf86, hv86⟩ := app_os Rw22 hy87 hv68 hv84 hO.inM (fun g hg hq => hO.apart g hq (mem_l hg))
      have hG86 := os_block hv68
      refine xk_val (w' := w86) (b := true) (.slice a86 n86 c86) rfl  (y_append rfl rfl (hr86 _)) rfl (fun h => nomatch h) ?_
      have hO := hO.fr1
      have hO := hO.fr1
      have hb1 := hb1.chg hC86 (fun hg => hO.apart _ (hG86 _ hg) (mem_r (mem_r (mem_r (mem_l (List.mem_singleton.2 rfl))))))
      have hb5 := hb5.chg hC86 (fun hg => hO.apart _ (hG86 _ hg) (mem_r (mem_r (mem_l (List.mem_singleton.2 rfl)))))
      have hv72x0 := hv72x0.mut hC86 (fun g hg => hO.inM g (hG86 g hg)) (fun g hg e => hO.apart g (hG86 g hg) (mem_r (mem_l (e))))
      have hC := hC.step hC86 (fun g hg => hO.inN g (hG86 g hg))
      have hO := hO.eat hC86 hf86 (os_nodup hv86) hv86.fpl
      refine x_p 7 (.pointer (some ⟨g4, 1, none⟩)) rfl (by kernel_rfl)  (fun _ => y_faddr rfl Fa24x1) (fun h => nomatch h) ?_
      refine x_one (i := 8) (by kernel_rfl) ?_
      obtain ⟨w89, hst89, hC89, hb89⟩ := box_store (P := Try.prog) hb5 [(.int .i64 3)] [(.slice a68 n68 c68)] [] [(.slice a86 n86 c86)] rfl rfl (by intro u hu; simp only [List.mem_cons, List.not_mem_nil, or_false] at hu; rcases hu with rfl <;> rfl)
      refine xk_skip (w' := w89) (b := true) rfl (ys_store rfl rfl (hst89 _ _ rfl Sz22)) rfl (fun h => nomatch h) ?_
      have hO := hO.fr2
      have hb1 := hb1.chg hC89 (fun hg => hO.apart _ ((fun _ h => h) _ hg) (mem_r (mem_r (mem_l (List.mem_singleton.2 rfl)))))
      have hv72x0 := hv72x0.mut hC89 (fun g hg => hO.inM g ((fun _ h => h) g hg)) (fun g hg e => hO.apart g ((fun _ h => h) g hg) (mem_r (mem_l (e))))
      have hv86 := hv86.mut hC89 (fun g hg => hO.inM g ((fun _ h => h) g hg)) (fun g hg e => hO.apart g ((fun _ h => h) g hg) (mem_l (e)))
      have hC := hC.step hC89 (fun g hg => hO.inN g ((fun _ h => h) g hg))
      have hO := hO.ext hC89
      have hb89 : BoxV w89 g4 24 [(.int .i64 3), (.slice a86 n86 c86)] := hb89
      refine x_end (by kernel_rfl) ?_
      clear hS
      refine c_region ?_
      refine pl_val (.int .i64 k64) (y_move rfl) ?_
      refine pl_val (.int .i64 (w64 (k64 + 1))) (y_add rfl rfl) ?_
      refine pl_val (.int .i64 (w64 (k64 + 1))) (y_assign rfl) ?_
      refine c_nil ?_
      cases hs
      have hO := hO.fr2
      have hO := hO.drop
      have hO := hO.fr2
      have hO := hO.fr1
      have hO := hO.fr2
      exact ⟨_, a86, n86, c86, f86, fr_ovl 48 ⟨rfl, rfl, rfl, rfl, congrArg (Value.int .i64) hw, trivial⟩, hC, hO, hb1, hb89, hv86⟩
    · skip
      refine c_condF (congrArg Value.bool hc80) ?_
      refine x_start [6, 8] Mx rfl ?_
      have hCw90 := Chg.drew w75
      generalize World.drew w75 = w90 at hCw90 ⊢
      have hb1 := hb1.chg hCw90 (fun h => nomatch h)
      have hb5 := hb5.chg hCw90 (fun h => nomatch h)
      have hv68 := hv68.ext hCw90
      have hv72x0 := hv72x0.ext hCw90
      have hC := hC.ext hCw90
      have hO := hO.ext hCw90
      have hS := Chg.refl [] w90
      refine x_p 0 (.pointer (some ⟨g4, 1, none⟩)) rfl (by kernel_rfl)  (fun _ => y_faddr rfl Fa24x1) (fun _ => hS) ?_
      refine x_l 1 (.slice a68 n68 c68) rfl (by kernel_rfl)  (fun w' hw' => y_load rfl ((box_load Ag22 Sz22 hb5 [(.int .i64 3)] [(.slice a68 n68 c68)] [] rfl rfl (fun _ => rfl)) w' hw')) hS ?_
      refine x_p 2 (.slice a72x0 n72x0 c72x0) rfl (by kernel_rfl)  (fun _ => y_move rfl) (fun _ => hS) ?_
      obtain ⟨x91, hx91, hs⟩ := bind_some hs
      obtain ⟨g92, f92, hg92, hk92, hp92, ha92, hf92⟩ := os_idx Sl22 Sz3 hv72x0 hx91
      refine x_p 3 (.pointer (some ⟨g92, 0 + Int.toNat 2 * 1, none⟩)) rfl (by kernel_rfl)  (fun _ => hp92 _ _ _ _ _ _ _ _ _ rfl rfl) (fun _ => hS) ?_
      refine x_l 4 (.int .i64 x91) rfl (by kernel_rfl)  (fun w' hw' => y_load rfl ((at_load_int Ag3 Sz3 ha92) w' hw')) hS ?_
      refine x_one (i := 5) (by kernel_rfl) ?_
      obtain ⟨w93, g93, ew93, eg93, hC93, hb93⟩ := new_block w90 [(.int .i64 x91)] 3
      refine xk_val (w' := w93) (b := false) (.slice (some ⟨g93, 0, none⟩) 1 1) rfl  (y_bslice rfl (by rw [ew93, eg93]; kernel_rfl)) rfl (fun _ => hS.ext hC93) ?_
      have hb1 := hb1.chg hC93 (fun h => nomatch h)
      have hb5 := hb5.chg hC93 (fun h => nomatch h)
      have hv68 := hv68.ext hC93
      have hv72x0 := hv72x0.ext hC93
      have hC := hC.ext hC93
      have hO := hO.new (X' := [g93]) hC93 (fun q hq => by rw [List.mem_singleton.1 hq, eg93]; exact Nat.le_refl _) (List.nodup_cons.2 ⟨(fun h => nomatch h), List.nodup_nil⟩) (fun q hq => by rw [List.mem_singleton.1 hq]; exact hb93.lt)
      have hv93 := os_of_box (r := (RT.int .i64)) (M := M) (css := [[(.int .i64 x91)]]) (fps := [([] : List Nat)]) (xs := ([x91] : List Int)) hb93 ⟨⟨rfl, rfl⟩, trivial⟩ (Nat.le_of_ble_eq_true rfl) (List.nodup_cons.2 ⟨(fun h => nomatch h), List.nodup_nil⟩)
      have hv93 : (RT.os 3 (RT.int .i64)).val M w93 (.slice (some ⟨g93, 0, none⟩) 1 1) [x91] [g93] := hv93
      have hS := hS.ext hC93
      refine x_one (i := 6) (by kernel_rfl) ?_
      obtain ⟨y96, hy96, hs⟩ := bind_some hs
      have hO := hO.fr2
      obtain ⟨a95, n95, c95, w95, f95, hr95, hC95, hf95, hv95⟩ := app_os Rw22 hy96 hv68 hv93 hO.inM (fun g hg hq => hO.apart g hq (mem_l hg))
      have hG95 := os_block hv68
      refine xk_val (w' := w95) (b := true) (.slice a95 n95 c95) rfl  (y_append rfl rfl (hr95 _)) rfl (fun h => nomatch h) ?_
      have hO := hO.fr1
      have hO := hO.fr1
      have hb1 := hb1.chg hC95 (fun hg => hO.apart _ (hG95 _ hg) (mem_r (mem_r (mem_r (mem_l (List.mem_singleton.2 rfl))))))
      have hb5 := hb5.chg hC95 (fun hg => hO.apart _ (hG95 _ hg) (mem_r (mem_r (mem_l (List.mem_singleton.2 rfl)))))
      have hv72x0 := hv72x0.mut hC95 (fun g hg => hO.inM g (hG95 g hg)) (fun g hg e => hO.apart g (hG95 g hg) (mem_r (mem_l (e))))
      have hC := hC.step hC95 (fun g hg => hO.inN g (hG95 g hg))
      have hO := hO.eat hC95 hf95 (os_nodup hv95) hv95.fpl
      refine x_p 7 (.pointer (some ⟨g4, 1, none⟩)) rfl (by kernel_rfl)  (fun _ => y_faddr rfl Fa24x1) (fun h => nomatch h) ?_
      refine x_one (i := 8) (by kernel_rfl) ?_
      obtain ⟨w98, hst98, hC98, hb98⟩ := box_store (P := Try.prog) hb5 [(.int .i64 3)] [(.slice a68 n68 c68)] [] [(.slice a95 n95 c95)] rfl rfl (by intro u hu; simp only [List.mem_cons, List.not_mem_nil, or_false] at hu; rcases hu with rfl <;> rfl)
      refine xk_skip (w' := w98) (b := true) rfl (ys_store rfl rfl (hst98 _ _ rfl Sz22)) rfl (fun h => nomatch h) ?_
      have hO := hO.fr2
      have hb1 := hb1.chg hC98 (fun hg => hO.apart _ ((fun _ h => h) _ hg) (mem_r (mem_r (mem_l (List.mem_singleton.2 rfl)))))
      have hv72x0 := hv72x0.mut hC98 (fun g hg => hO.inM g ((fun _ h => h) g hg)) (fun g hg e => hO.apart g ((fun _ h => h) g hg) (mem_r (mem_l (e))))
      have hv95 := hv95.mut hC98 (fun g hg => hO.inM g ((fun _ h => h) g hg)) (fun g hg e => hO.apart g ((fun _ h => h) g hg) (mem_l (e)))
      have hC := hC.step hC98 (fun g hg => hO.inN g ((fun _ h => h) g hg))
      have hO := hO.ext hC98
      have hb98 : BoxV w98 g4 24 [(.int .i64 3), (.slice a95 n95 c95)] := hb98
      refine x_end (by kernel_rfl) ?_
      clear hS
      refine c_region ?_
      refine pl_val (.int .i64 k64) (y_move rfl) ?_
      refine pl_val (.int .i64 (w64 (k64 + 1))) (y_add rfl rfl) ?_
      refine pl_val (.int .i64 (w64 (k64 + 1))) (y_assign rfl) ?_
      refine c_nil ?_
      cases hs
      have hO := hO.fr2
      have hO := hO.drop
      have hO := hO.fr2
      have hO := hO.fr1
      have hO := hO.fr2
      exact ⟨_, a95, n95, c95, f95, fr_ovl 48 ⟨rfl, rfl, rfl, rfl, congrArg (Value.int .i64) hw, trivial⟩, hC, hO, hb1, hb98, hv95⟩
  · skip
    have hO := hO.fr2
    have hO := hO.fr1
    have hO := hO.fr2
    exact ⟨_, (some ⟨g2, 0, none⟩), 0, 0, ([g2]), fr_ovl 48 ⟨rfl, rfl, rfl, rfl, rfl, trivial⟩, hC, hO, hb1, hb5, hv2⟩
  · cases o66 with
    | nx _ => exact True.intro
    | rt r_ =>
      have hs := after_rt hs
      intro a1 w1 hK
      cases hs
      exact hK
    | br s62 =>
      have hs := after_br hs
      rintro a1 w63 ⟨σ, a70, n70, c70, f70, rfl, hC, hO, hb1, hb5, hv70⟩
      refine c_seq ?_
      refine c_region ?_
      refine pl_val (.agg #[(.int .i64 3), (.slice a70 n70 c70)]) (y_load rfl ((box_load Ag24 Sz24 hb5 [] [(.int .i64 3), (.slice a70 n70 c70)] [] rfl rfl (fun h => nomatch h)) _ (Chg.refl _ _))) ?_
      obtain ⟨w99, hst99, hC99, hb99⟩ := box_store (P := Try.prog) hb1 [] [(.int .i64 0), (.slice none 0 0)] [] [(.int .i64 3), (.slice a70 n70 c70)] rfl rfl (by intro u hu; simp only [List.mem_cons, List.not_mem_nil, or_false] at hu; rcases hu with rfl | rfl <;> rfl)
      refine pl_skip (w' := w99) (ys_store rfl rfl (hst99 _ _ rfl Sz24)) ?_
      have hO := hO.fr2
      have hb5 := hb5.chg hC99 (fun hg => hO.apart _ ((fun _ h => h) _ hg) (mem_r (mem_l (List.mem_singleton.2 rfl))))
      have hv70 := hv70.mut hC99 (fun g hg => hO.inM g ((fun _ h => h) g hg)) (fun g hg e => hO.apart g ((fun _ h => h) g hg) (mem_l (e)))
      have hC := hC.step hC99 (fun g hg => hO.inN g ((fun _ h => h) g hg))
      have hO := hO.ext hC99
      have hb99 : BoxV w99 g1 24 [(.int .i64 3), (.slice a70 n70 c70)] := hb99
      refine c_nil ?_
      refine wp_ret ?_
      cases hs
      exact ⟨_, g1, a70, n70, c70, f70, fr_ovl 48 ⟨rfl, trivial⟩, hb99, hC, hv70, (fun g hg => ((hO.2.1 g (mem_r (mem_l (hg)))).2.2).resolve_left (fun h => nomatch h))⟩

theorem Bd31 : Bodied Try.prog 31 := bodied Try.func31 (by kernel_rfl) rfl

theorem Bd32 : Bodied Try.prog 32 := bodied Try.func32 (by kernel_rfl) rfl

def k_spec_DiscriminatorOp (M : Nat → Prop) (w0 : World) (r : (Int × (List Int)) × Bool) (a : Act) (w : World) : Prop :=
  ∃ (σ : Nat → Value) (rg2 : Nat) (ra0 : Option Addr) (rn0 rc0 : Nat) (rf0 : List Nat), a = fr 10 (ovl σ [(2, (.pointer (some ⟨rg2, 0, none⟩))), (3, (.bool r.2))]) ∧ BoxV w rg2 24 [(.int .i64 r.1.1), (.slice ra0 rn0 rc0)] ∧ Chg [] w0 w ∧ (RT.os 3 (RT.int .i64)).val M w (.slice ra0 rn0 rc0) r.1.2 rf0 ∧ (∀ g ∈ rf0, w0.heap.size ≤ g)
def s_spec_DiscriminatorOp (n : Int) : Option ((Int × (List Int)) × Bool) :=
  (s_spec_l6Size n).bind fun r3 =>
  (bif (!r3) then some ((0, []), false) else (s_spec_l18Op n false).bind fun r7 =>
  some ((r7.1, r7.2), true))
set_option maxHeartbeats 4000000 in
theorem c_spec_DiscriminatorOp {M : Nat → Prop} {w : World}  (n : Int)  (hM : ∀ g, w.heap.size ≤ g → M g) {r : (Int × (List Int)) × Bool} (hs : s_spec_DiscriminatorOp n = some r) :
    Gives Try.prog 15 [(.int .i64 n)] w (fun v w' => ∃ (ra0 : Option Addr) (rn0 rc0 : Nat) (rf0 : List Nat), v = (.tuple #[(.agg #[(.int .i64 r.1.1), (.slice ra0 rn0 rc0)]), (.bool r.2)]) ∧ Chg [] w w' ∧ (RT.os 3 (RT.int .i64)).val M w' (.slice ra0 rn0 rc0) r.1.2 rf0 ∧ (∀ g ∈ rf0, w.heap.size ≤ g)) := by
  refine calls_fr Try.func15 rfl Try.ntmps15 (Nat.le_of_ble_eq_true rfl) ?_
  have hO := Own.start (N := Nw w []) hM Nw.fut
  have hC := Chg.refl [] w
  unfold s_spec_DiscriminatorOp at hs
  refine wp_mono (Q := KPost (k_spec_DiscriminatorOp M w r)) ?_ (fun e a w1 h => ?_)
  rotate_left
  · cases e
    case ret =>
      obtain ⟨σ, rg2, ra0, rn0, rc0, rf0, rfl, hbrg2, hrest⟩ := h
      exact ret2x Try.results15 (res_cell rfl (box_load Ag24 Sz24 hbrg2 [] _ [] rfl rfl (fun h => nomatch h))) (res_tmp rfl) ⟨ra0, rn0, rc0, rf0, rfl, hrest⟩
    all_goals exact (h : False).elim
  refine c_seq ?_
  refine c_region ?_
  obtain ⟨w1, g1, ew1, eg1, hC1, hb1⟩ := new_block w [(.int .i64 0), (.slice none 0 0)] 24
  refine pl_val (w' := w1) (.pointer (some ⟨g1, 0, none⟩)) (y_alloc (by rw [ew1, eg1]; kernel_rfl)) ?_
  have hC := hC.ext hC1
  have hO := hO.new (X' := [g1]) hC1 (fun q hq => by rw [List.mem_singleton.1 hq, eg1]; exact Nat.le_refl _) (List.nodup_cons.2 ⟨(fun h => nomatch h), List.nodup_nil⟩) (fun q hq => by rw [List.mem_singleton.1 hq]; exact hb1.lt)
  refine pl_val (.bool false) (y_assign rfl) ?_
  refine c_nil ?_
  refine c_seq ?_
  refine c_seq ?_
  refine c_region ?_
  refine pl_val (.int .i64 n) (y_move rfl) ?_
  obtain ⟨r3, hr3, hs⟩ := bind_some hs
  refine pl_call Bd31 rfl (c_spec_l6Size (M := M) n  hO.fut hr3) ?_
  rintro _ w2 ⟨rfl, hC2⟩
  have hb1 := hb1.chg hC2 (fun h => nomatch h)
  have hC := hC.ext hC2
  have hO := hO.ext hC2
  refine pl_val (.bool (!r3)) (y_not rfl) ?_
  refine c_nil ?_
  rcases bif_some hs with ⟨hc4, hs⟩ | ⟨hc4, hs⟩
  · skip
    refine c_condT (congrArg Value.bool hc4) ?_
    refine c_seq ?_
    refine c_region ?_
    refine pl_val (.agg #[(.int .i64 0), (.slice none 0 0)]) (y_build rfl (by kernel_rfl)) ?_
    obtain ⟨w5, hst5, hC5, hb5⟩ := box_store (P := Try.prog) hb1 [] [(.int .i64 0), (.slice none 0 0)] [] [(.int .i64 0), (.slice none 0 0)] rfl rfl (by intro u hu; simp only [List.mem_cons, List.not_mem_nil, or_false] at hu; rcases hu with rfl | rfl <;> rfl)
    refine pl_skip (w' := w5) (ys_store rfl rfl (hst5 _ _ rfl Sz24)) ?_
    have hC := hC.step hC5 (fun g hg => hO.inN g ((fun _ h => h) g hg))
    have hO := hO.ext hC5
    have hb5 : BoxV w5 g1 24 [(.int .i64 0), (.slice none 0 0)] := hb5
    refine pl_val (.bool false) (y_assign rfl) ?_
    refine c_nil ?_
    refine wp_ret ?_
    cases hs
    exact ⟨_, g1, none, 0, 0, [], fr_ovl 10 ⟨rfl, rfl, trivial⟩, hb5, hC, os_nil, (fun _ h => nomatch h)⟩
  · skip
    refine c_condF (congrArg Value.bool hc4) ?_
    refine wp_skip ?_
    refine c_seq ?_
    refine c_region ?_
    refine pl_val (.int .i64 n) (y_move rfl) ?_
    obtain ⟨r7, hr7, hs⟩ := bind_some hs
    refine pl_call Bd32 rfl (c_spec_l18Op (M := M) n false  hO.fut hr7) ?_
    rintro _ w6 ⟨a6x0, n6x0, c6x0, f6x0, rfl, hC6, hv6x0, hfr6x0⟩
    have hb1 := hb1.chg hC6 (fun h => nomatch h)
    have hC := hC.ext hC6
    have hO := hO.new hC6 hfr6x0 (os_nodup hv6x0) hv6x0.fpl
    obtain ⟨w9, hst9, hC9, hb9⟩ := box_store (P := Try.prog) hb1 [] [(.int .i64 0), (.slice none 0 0)] [] [(.int .i64 r7.1), (.slice a6x0 n6x0 c6x0)] rfl rfl (by intro u hu; simp only [List.mem_cons, List.not_mem_nil, or_false] at hu; rcases hu with rfl | rfl <;> rfl)
    refine pl_skip (w' := w9) (ys_store rfl rfl (hst9 _ _ rfl Sz24)) ?_
    have hO := hO.fr1
    have hv6x0 := hv6x0.mut hC9 (fun g hg => hO.inM g ((fun _ h => h) g hg)) (fun g hg e => hO.apart g ((fun _ h => h) g hg) (mem_l (e)))
    have hC := hC.step hC9 (fun g hg => hO.inN g ((fun _ h => h) g hg))
    have hO := hO.ext hC9
    have hb9 : BoxV w9 g1 24 [(.int .i64 r7.1), (.slice a6x0 n6x0 c6x0)] := hb9
    refine pl_val (.bool true) (y_assign rfl) ?_
    refine c_nil ?_
    refine wp_ret ?_
    cases hs
    exact ⟨_, g1, a6x0, n6x0, c6x0, f6x0, fr_ovl 10 ⟨rfl, rfl, trivial⟩, hb9, hC, hv6x0, (fun g hg => ((hO.2.1 g (mem_r (mem_l (hg)))).2.2).resolve_left (fun h => nomatch h))⟩

def k_impl_isSize (M : Nat → Prop) (w0 : World) (r : Bool) (a : Act) (w : World) : Prop :=
  ∃ (σ : Nat → Value) , a = fr 9 (ovl σ [(2, (.bool r))]) ∧ Chg [] w0 w
def s_impl_isSize (n : Int) : Option (Bool) :=
  (bif (decide (1 ≤ n)) then some (decide (n ≤ 8)) else some false)
set_option maxHeartbeats 4000000 in
theorem c_impl_isSize {M : Nat → Prop} {w : World}  (n : Int)  (hM : ∀ g, w.heap.size ≤ g → M g) {r : Bool} (hs : s_impl_isSize n = some r) :
    Gives Try.prog 33 [(.int .i64 n)] w (fun v w' => v = (.bool r) ∧ Chg [] w w') := by
  refine calls_fr Try.func33 rfl Try.ntmps33 (Nat.le_of_ble_eq_true rfl) ?_
  have hO := Own.start (N := Nw w []) hM Nw.fut
  have hC := Chg.refl [] w
  unfold s_impl_isSize at hs
  refine wp_mono (Q := KPost (k_impl_isSize M w r)) ?_ (fun e a w1 h => ?_)
  rotate_left
  · cases e
    case ret =>
      obtain ⟨σ, rfl, hrest⟩ := h
      exact ret1x Try.results33 (res_tmp rfl) ⟨rfl, hrest⟩
    all_goals exact (h : False).elim
  refine c_seq ?_
  refine c_region ?_
  refine pl_val (.bool false) (y_assign rfl) ?_
  refine c_nil ?_
  refine c_seq ?_
  refine c_region ?_
  refine pl_val (.int .i64 n) (y_move rfl) ?_
  refine pl_val (.bool (decide (1 ≤ n))) (y_geq rfl rfl) ?_
  refine pl_val (.bool (decide (1 ≤ n))) (y_move rfl) ?_
  rcases bif_some hs with ⟨hc1, hs⟩ | ⟨hc1, hs⟩
  · skip
    refine pl_yes (.int .i64 n) (tg := 5) (by kernel_rfl) (congrArg Value.bool hc1) (y_move rfl) ?_
    refine pl_yes (.bool (decide (n ≤ 8))) (tg := 5) (by kernel_rfl) (congrArg Value.bool hc1) (y_leq rfl rfl) ?_
    refine pl_val (.bool (decide (n ≤ 8))) (y_pick_t (congrArg Value.bool hc1) rfl) ?_
    refine pl_val (.bool (decide (n ≤ 8))) (y_assign rfl) ?_
    refine c_nil ?_
    refine wp_ret ?_
    cases hs
    exact ⟨_, fr_ovl 9 ⟨rfl, trivial⟩, hC⟩
  · skip
    refine pl_not (tg := 5) (by kernel_rfl) (congrArg Value.bool hc1) ?_
    refine pl_not (tg := 5) (by kernel_rfl) (congrArg Value.bool hc1) ?_
    refine pl_val (.bool false) (y_pick_f (congrArg Value.bool hc1) rfl) ?_
    refine pl_val (.bool false) (y_assign rfl) ?_
    refine c_nil ?_
    refine wp_ret ?_
    cases hs
    exact ⟨_, fr_ovl 9 ⟨rfl, trivial⟩, hC⟩

def k_impl_discriminator_1 (M : Nat → Prop) (w0 : World) (r : Int) (a : Act) (w : World) : Prop :=
  ∃ (σ : Nat → Value) , a = fr 12 (ovl σ [(6, (.int .i64 r))]) ∧ Chg [] w0 w
def s_impl_discriminator_1 (x_ : Int) (y : Int) (z : Int) : Option (Int) :=
  (bif (x_ == y) then some z else some x_)
set_option maxHeartbeats 4000000 in
theorem c_impl_discriminator_1 {M : Nat → Prop} {w : World}  (x_ : Int) (y : Int) (z : Int)  (hM : ∀ g, w.heap.size ≤ g → M g) {r : Int} (hs : s_impl_discriminator_1 x_ y z = some r) :
    Gives Try.prog 58 [(.int .i64 x_), (.int .i64 y), (.int .i64 z)] w (fun v w' => v = (.int .i64 r) ∧ Chg [] w w') := by
  refine calls_fr Try.func58 rfl Try.ntmps58 (Nat.le_of_ble_eq_true rfl) ?_
  have hO := Own.start (N := Nw w []) hM Nw.fut
  have hC := Chg.refl [] w
  unfold s_impl_discriminator_1 at hs
  refine wp_mono (Q := KPost (k_impl_discriminator_1 M w r)) ?_ (fun e a w1 h => ?_)
  rotate_left
  · cases e
    case ret =>
      obtain ⟨σ, rfl, hrest⟩ := h
      exact ret1x Try.results58 (res_tmp rfl) ⟨rfl, hrest⟩
    all_goals exact (h : False).elim
  refine c_seq ?_
  refine c_region ?_
  refine pl_val (.int .i64 0) (y_assign rfl) ?_
  refine c_nil ?_
  refine c_seq ?_
  refine c_seq ?_
  refine c_region ?_
  refine pl_val (.int .i64 x_) (y_move rfl) ?_
  refine pl_val (.int .i64 y) (y_move rfl) ?_
  refine pl_val (.bool (x_ == y)) (y_eql rfl rfl) ?_
  refine c_nil ?_
  rcases bif_some hs with ⟨hc1, hs⟩ | ⟨hc1, hs⟩
  · skip
    refine c_condT (congrArg Value.bool hc1) ?_
    refine c_seq ?_
    refine c_region ?_
    refine pl_val (.int .i64 z) (y_move rfl) ?_
    refine pl_val (.int .i64 z) (y_assign rfl) ?_
    refine c_nil ?_
    refine wp_ret ?_
    cases hs
    exact ⟨_, fr_ovl 12 ⟨rfl, trivial⟩, hC⟩
  · skip
    refine c_condF (congrArg Value.bool hc1) ?_
    refine wp_skip ?_
    refine c_seq ?_
    refine c_region ?_
    refine pl_val (.int .i64 x_) (y_move rfl) ?_
    refine pl_val (.int .i64 x_) (y_assign rfl) ?_
    refine c_nil ?_
    refine wp_ret ?_
    cases hs
    exact ⟨_, fr_ovl 12 ⟨rfl, trivial⟩, hC⟩

theorem Bd58 : Bodied Try.prog 58 := bodied Try.func58 (by kernel_rfl) rfl

def k_impl_ternary__impl_discriminator_1 (M : Nat → Prop) (w0 : World) (r : (Int × (List Int))) (a : Act) (w : World) : Prop :=
  ∃ (σ : Nat → Value) (rg4 : Nat) (ra0 : Option Addr) (rn0 rc0 : Nat) (rf0 : List Nat), a = fr 38 (ovl σ [(4, (.pointer (some ⟨rg4, 0, none⟩)))]) ∧ BoxV w rg4 24 [(.int .i64 r.1), (.slice ra0 rn0 rc0)] ∧ Chg [] w0 w ∧ (RT.os 3 (RT.int .i64)).val M w (.slice ra0 rn0 rc0) r.2 rf0 ∧ (∀ g ∈ rf0, w0.heap.size ≤ g)
def s_impl_ternary__impl_discriminator_1 (n : Int) : Option ((Int × (List Int))) :=
  (forC (S := (List Int)) (R := (Int × (List Int))) (fun k38 s36 =>
  (nz n).bind fun u47 =>
  (nz n).bind fun u48 =>
  (nz n).bind fun u49 =>
  (nz n).bind fun u50 =>
  (nz n).bind fun u51 =>
  (s_impl_discriminator_1 (w64 (Int.tdiv (w64 (Int.tdiv k38 n)) n)) (Int.tmod (w64 (Int.tdiv k38 n)) n) (Int.tmod k38 n)).bind fun r53 =>
  (app s36 ([r53])).bind fun y57 =>
  some (.nx y57)) 0 (w64 ((w64 (n * n)) * n)) []).bind fun o40 => after o40 (fun r_ => some r_) (fun s36 =>
  some (3, s36))
set_option maxHeartbeats 4000000 in
theorem c_impl_ternary__impl_discriminator_1 {M : Nat → Prop} {w : World}  (n : Int)  (hM : ∀ g, w.heap.size ≤ g → M g) {r : (Int × (List Int))} (hs : s_impl_ternary__impl_discriminator_1 n = some r) :
    Gives Try.prog 34 [(.int .i64 n), (.func (.func 58) #[] #[])] w (fun v w' => ∃ (ra0 : Option Addr) (rn0 rc0 : Nat) (rf0 : List Nat), v = (.agg #[(.int .i64 r.1), (.slice ra0 rn0 rc0)]) ∧ Chg [] w w' ∧ (RT.os 3 (RT.int .i64)).val M w' (.slice ra0 rn0 rc0) r.2 rf0 ∧ (∀ g ∈ rf0, w.heap.size ≤ g)) := by
  refine calls_fr Try.func34 rfl Try.ntmps34 (Nat.le_of_ble_eq_true rfl) ?_
  have hO := Own.start (N := Nw w []) hM Nw.fut
  have hC := Chg.refl [] w
  unfold s_impl_ternary__impl_discriminator_1 at hs
  refine wp_mono (Q := KPost (k_impl_ternary__impl_discriminator_1 M w r)) ?_ (fun e a w1 h => ?_)
  rotate_left
  · cases e
    case ret =>
      obtain ⟨σ, rg4, ra0, rn0, rc0, rf0, rfl, hbrg4, hrest⟩ := h
      exact ret1x Try.results34 (res_cell rfl (box_load Ag24 Sz24 hbrg4 [] _ [] rfl rfl (fun h => nomatch h))) ⟨ra0, rn0, rc0, rf0, rfl, hrest⟩
    all_goals exact (h : False).elim
  refine c_seq ?_
  refine c_region ?_
  obtain ⟨w1, g1, ew1, eg1, hC1, hb1⟩ := new_block w [(.int .i64 0), (.slice none 0 0)] 24
  refine pl_val (w' := w1) (.pointer (some ⟨g1, 0, none⟩)) (y_alloc (by rw [ew1, eg1]; kernel_rfl)) ?_
  have hC := hC.ext hC1
  have hO := hO.new (X' := [g1]) hC1 (fun q hq => by rw [List.mem_singleton.1 hq, eg1]; exact Nat.le_refl _) (List.nodup_cons.2 ⟨(fun h => nomatch h), List.nodup_nil⟩) (fun q hq => by rw [List.mem_singleton.1 hq]; exact hb1.lt)
  refine c_nil ?_
  refine c_seq ?_
  refine c_region ?_
  refine pl_val (.agg #[(.int .i64 3), (.slice none 0 0)]) (y_build rfl (by kernel_rfl)) ?_
  obtain ⟨w2, g2, ew2, eg2, hC2, hb2⟩ := new_block w1 [(.int .i64 0), (.slice none 0 0)] 24
  refine pl_val (w' := w2) (.pointer (some ⟨g2, 0, none⟩)) (y_alloc (by rw [ew2, eg2]; kernel_rfl)) ?_
  have hb1 := hb1.chg hC2 (fun h => nomatch h)
  have hC := hC.ext hC2
  have hO := hO.new (X' := [g2]) hC2 (fun q hq => by rw [List.mem_singleton.1 hq, eg2]; exact Nat.le_refl _) (List.nodup_cons.2 ⟨(fun h => nomatch h), List.nodup_nil⟩) (fun q hq => by rw [List.mem_singleton.1 hq]; exact hb2.lt)
  obtain ⟨w3, hst3, hC3, hb3⟩ := box_store (P := Try.prog) hb2 [] [(.int .i64 0), (.slice none 0 0)] [] [(.int .i64 3), (.slice none 0 0)] rfl rfl (by intro u hu; simp only [List.mem_cons, List.not_mem_nil, or_false] at hu; rcases hu with rfl | rfl <;> rfl)
  refine pl_skip (w' := w3) (ys_store rfl rfl (hst3 _ _ rfl Sz24)) ?_
  have hb1 := hb1.chg hC3 (fun hg => hO.apart _ ((fun _ h => h) _ hg) (mem_l (List.mem_singleton.2 rfl)))
  have hC := hC.step hC3 (fun g hg => hO.inN g ((fun _ h => h) g hg))
  have hO := hO.ext hC3
  have hb3 : BoxV w3 g2 24 [(.int .i64 3), (.slice none 0 0)] := hb3
  refine c_nil ?_
  refine c_seq ?_
  refine c_seq ?_
  refine c_region ?_
  refine pl_val (.int .i64 0) (y_assign rfl) ?_
  refine c_nil ?_
  obtain ⟨o40, hl41, hs⟩ := bind_some hs
  refine wp_block ?_
  refine wp_forC (id := 0) (w64 ((w64 (n * n)) * n)) (I := fun k38 s36 a w37 => ∃ (σ : Nat → Value) (a42 : Option Addr) (n42 : Nat) (c42 : Nat) (f42 : List Nat), a = fr 38 (ovl σ [(0, (.int .i64 n)), (1, (.func (.func 58) #[] #[])), (4, (.pointer (some ⟨g1, 0, none⟩))), (5, (.pointer (some ⟨g2, 0, none⟩))), (6, (.int .i64 k38))]) ∧ Chg [] w w37 ∧ Own (Nw w []) M w37 (f42 ++ (([g2]) ++ (([g1]) ++ []))) ∧ BoxV w37 g1 24 [(.int .i64 0), (.slice none 0 0)] ∧ BoxV w37 g2 24 [(.int .i64 3), (.slice a42 n42 c42)] ∧ (RT.os 3 (RT.int .i64)).val M w37 (.slice a42 n42 c42) s36 f42) (J := fun s36 a w37 => ∃ (σ : Nat → Value) (a44 : Option Addr) (n44 : Nat) (c44 : Nat) (f44 : List Nat), a = fr 38 (ovl σ [(4, (.pointer (some ⟨g1, 0, none⟩))), (5, (.pointer (some ⟨g2, 0, none⟩)))]) ∧ Chg [] w w37 ∧ Own (Nw w []) M w37 (f44 ++ (([g2]) ++ (([g1]) ++ []))) ∧ BoxV w37 g1 24 [(.int .i64 0), (.slice none 0 0)] ∧ BoxV w37 g2 24 [(.int .i64 3), (.slice a44 n44 c44)] ∧ (RT.os 3 (RT.int .i64)).val M w37 (.slice a44 n44 c44) s36 f44) (K := (k_impl_ternary__impl_discriminator_1 M w)) ?_ ?_ 0 [] o40 _ _ ?_ hl41 ?_
  · rintro k38 s36 a w37 ⟨σ, a42, n42, c42, f42, rfl, hC, hO, hb1, hb3, hv42⟩ hlt
    refine c_seq ?_
    refine c_seq ?_
    refine c_region ?_
    refine pl_val (.int .i64 k38) (y_move rfl) ?_
    refine pl_val (.int .i64 n) (y_move rfl) ?_
    refine pl_val (.int .i64 n) (y_move rfl) ?_
    refine pl_val (.int .i64 (w64 (n * n))) (y_mul rfl rfl) ?_
    refine pl_val (.int .i64 n) (y_move rfl) ?_
    refine pl_val (.int .i64 (w64 ((w64 (n * n)) * n))) (y_mul rfl rfl) ?_
    refine pl_val (.bool (decide (k38 < (w64 ((w64 (n * n)) * n))))) (y_lss rfl rfl) ?_
    refine c_nil ?_
    refine c_condF (congrArg Value.bool (decide_eq_false hlt)) ?_
    refine wp_exit ?_
    have hO := hO.fr2
    have hO := hO.fr2
    have hO := hO.fr2
    exact ⟨rfl, _, a42, n42, c42, f42, fr_ovl 38 ⟨rfl, rfl, trivial⟩, hC, hO, hb1, hb3, hv42⟩
  · rintro k38 s36 o40 a w37 ⟨σ, a42, n42, c42, f42, rfl, hC, hO, hb1, hb3, hv42⟩ hlt hw hs
    refine c_seq ?_
    refine c_seq ?_
    refine c_region ?_
    refine pl_val (.int .i64 k38) (y_move rfl) ?_
    refine pl_val (.int .i64 n) (y_move rfl) ?_
    refine pl_val (.int .i64 n) (y_move rfl) ?_
    refine pl_val (.int .i64 (w64 (n * n))) (y_mul rfl rfl) ?_
    refine pl_val (.int .i64 n) (y_move rfl) ?_
    refine pl_val (.int .i64 (w64 ((w64 (n * n)) * n))) (y_mul rfl rfl) ?_
    refine pl_val (.bool (decide (k38 < (w64 ((w64 (n * n)) * n))))) (y_lss rfl rfl) ?_
    refine c_nil ?_
    refine c_condT (congrArg Value.bool (decide_eq_true hlt)) ?_
    refine wp_skip ?_
    refine c_seq ?_
    refine wp_block ?_
    refine x_start [18, 20] Mx rfl ?_
    have hCw46 := Chg.drew w37
    generalize World.drew w37 = w46 at hCw46 ⊢
    have hb1 := hb1.chg hCw46 (fun h => nomatch h)
    have hb3 := hb3.chg hCw46 (fun h => nomatch h)
    have hv42 := hv42.ext hCw46
    have hC := hC.ext hCw46
    have hO := hO.ext hCw46
    have hS := Chg.refl [] w46
    refine x_p 0 (.pointer (some ⟨g2, 1, none⟩)) rfl (by kernel_rfl)  (fun _ => y_faddr rfl Fa24x1) (fun _ => hS) ?_
    refine x_l 1 (.slice a42 n42 c42) rfl (by kernel_rfl)  (fun w' hw' => y_load rfl ((box_load Ag22 Sz22 hb3 [(.int .i64 3)] [(.slice a42 n42 c42)] [] rfl rfl (fun _ => rfl)) w' hw')) hS ?_
    refine x_p 2 (.func (.func 58) #[] #[]) rfl (by kernel_rfl)  (fun _ => y_move rfl) (fun _ => hS) ?_
    refine x_p 3 (.int .i64 k38) rfl (by kernel_rfl)  (fun _ => y_move rfl) (fun _ => hS) ?_
    refine x_p 4 (.int .i64 n) rfl (by kernel_rfl)  (fun _ => y_move rfl) (fun _ => hS) ?_
    obtain ⟨u47, hu47, hs⟩ := bind_some hs
    refine x_p 5 (.int .i64 (w64 (Int.tdiv k38 n))) rfl (by kernel_rfl)  (fun _ => y_quo rfl rfl (nz_ne hu47)) (fun _ => hS) ?_
    refine x_p 6 (.int .i64 n) rfl (by kernel_rfl)  (fun _ => y_move rfl) (fun _ => hS) ?_
    obtain ⟨u48, hu48, hs⟩ := bind_some hs
    refine x_p 7 (.int .i64 (w64 (Int.tdiv (w64 (Int.tdiv k38 n)) n))) rfl (by kernel_rfl)  (fun _ => y_quo rfl rfl (nz_ne hu48)) (fun _ => hS) ?_
    refine x_p 8 (.int .i64 k38) rfl (by kernel_rfl)  (fun _ => y_move rfl) (fun _ => hS) ?_
    refine x_p 9 (.int .i64 n) rfl (by kernel_rfl)  (fun _ => y_move rfl) (fun _ => hS) ?_
    obtain ⟨u49, hu49, hs⟩ := bind_some hs
    refine x_p 10 (.int .i64 (w64 (Int.tdiv k38 n))) rfl (by kernel_rfl)  (fun _ => y_quo rfl rfl (nz_ne hu49)) (fun _ => hS) ?_
    refine x_p 11 (.int .i64 n) rfl (by kernel_rfl)  (fun _ => y_move rfl) (fun _ => hS) ?_
    obtain ⟨u50, hu50, hs⟩ := bind_some hs
    refine x_p 12 (.int .i64 (Int.tmod (w64 (Int.tdiv k38 n)) n)) rfl (by kernel_rfl)  (fun _ => y_rem rfl rfl (nz_ne hu50)) (fun _ => hS) ?_
    refine x_p 13 (.int .i64 k38) rfl (by kernel_rfl)  (fun _ => y_move rfl) (fun _ => hS) ?_
    refine x_p 14 (.int .i64 n) rfl (by kernel_rfl)  (fun _ => y_move rfl) (fun _ => hS) ?_
    obtain ⟨u51, hu51, hs⟩ := bind_some hs
    refine x_p 15 (.int .i64 (Int.tmod k38 n)) rfl (by kernel_rfl)  (fun _ => y_rem rfl rfl (nz_ne hu51)) (fun _ => hS) ?_
    refine x_one (i := 16) (by kernel_rfl) ?_
    obtain ⟨r53, hr53, hs⟩ := bind_some hs
    refine xk_callv (b := false) rfl  (h := rfl) Bd58 rfl (c_impl_discriminator_1 (M := M) (w64 (Int.tdiv (w64 (Int.tdiv k38 n)) n)) (Int.tmod (w64 (Int.tdiv k38 n)) n) (Int.tmod k38 n)  hO.fut hr53) rfl (by rintro _ _ _ ⟨rfl, hC52⟩; exact hS.ext hC52) ?_
    rintro _ w52 ⟨rfl, hC52⟩
    have hb1 := hb1.chg hC52 (fun h => nomatch h)
    have hb3 := hb3.chg hC52 (fun h => nomatch h)
    have hv42 := hv42.ext hC52
    have hC := hC.ext hC52
    have hO := hO.ext hC52
    have hS := hS.ext hC52
    refine x_one (i := 17) (by kernel_rfl) ?_
    obtain ⟨w54, g54, ew54, eg54, hC54, hb54⟩ := new_block w52 [(.int .i64 r53)] 3
    refine xk_val (w' := w54) (b := false) (.slice (some ⟨g54, 0, none⟩) 1 1) rfl  (y_bslice rfl (by rw [ew54, eg54]; kernel_rfl)) rfl (fun _ => hS.ext hC54) ?_
    have hb1 := hb1.chg hC54 (fun h => nomatch h)
    have hb3 := hb3.chg hC54 (fun h => nomatch h)
    have hv42 := hv42.ext hC54
    have hC := hC.ext hC54
    have hO := hO.new (X' := [g54]) hC54 (fun q hq => by rw [List.mem_singleton.1 hq, eg54]; exact Nat.le_refl _) (List.nodup_cons.2 ⟨(fun h => nomatch h), List.nodup_nil⟩) (fun q hq => by rw [List.mem_singleton.1 hq]; exact hb54.lt)
    have hv54 := os_of_box (r := (RT.int .i64)) (M := M) (css := [[(.int .i64 r53)]]) (fps := [([] : List Nat)]) (xs := ([r53] : List Int)) hb54 ⟨⟨rfl, rfl⟩, trivial⟩ (Nat.le_of_ble_eq_true rfl) (List.nodup_cons.2 ⟨(fun h => nomatch h), List.nodup_nil⟩)
    have hv54 : (RT.os 3 (RT.int .i64)).val M w54 (.slice (some ⟨g54, 0, none⟩) 1 1) [r53] [g54] := hv54
    have hS := hS.ext hC54
    refine x_one (i := 18) (by kernel_rfl) ?_
    obtain ⟨y57, hy57, hs⟩ := bind_some hs
    have hO := hO.fr1
    obtain ⟨a56, n56, c56, w56, f56, hr56, hC56, hf56, hv56⟩ := app_os Rw22 hy57 hv42 hv54 hO.inM (fun g hg hq => hO.apart g hq (mem_l hg))
    have hG56 := os_block hv42
    refine xk_val (w' := w56) (b := true) (.slice a56 n56 c56) rfl  (y_append rfl rfl (hr56 _)) rfl (fun h => nomatch h) ?_
    have hO := hO.fr1
    have hO := hO.fr1
    have hb1 := hb1.chg hC56 (fun hg => hO.apart _ (hG56 _ hg) (mem_r (mem_r (mem_l (List.mem_singleton.2 rfl)))))
    have hb3 := hb3.chg hC56 (fun hg => hO.apart _ (hG56 _ hg) (mem_r (mem_l (List.mem_singleton.2 rfl))))
    have hC := hC.step hC56 (fun g hg => hO.inN g (hG56 g hg))
    have hO := hO.eat hC56 hf56 (os_nodup hv56) hv56.fpl
    refine x_p 19 (.pointer (some ⟨g2, 1, none⟩)) rfl (by kernel_rfl)  (fun _ => y_faddr rfl Fa24x1) (fun h => nomatch h) ?_
    refine x_one (i := 20) (by kernel_rfl) ?_
    obtain ⟨w59, hst59, hC59, hb59⟩ := box_store (P := Try.prog) hb3 [(.int .i64 3)] [(.slice a42 n42 c42)] [] [(.slice a56 n56 c56)] rfl rfl (by intro u hu; simp only [List.mem_cons, List.not_mem_nil, or_false] at hu; rcases hu with rfl <;> rfl)
    refine xk_skip (w' := w59) (b := true) rfl (ys_store rfl rfl (hst59 _ _ rfl Sz22)) rfl (fun h => nomatch h) ?_
    have hO := hO.fr1
    have hb1 := hb1.chg hC59 (fun hg => hO.apart _ ((fun _ h => h) _ hg) (mem_r (mem_l (List.mem_singleton.2 rfl))))
    have hv56 := hv56.mut hC59 (fun g hg => hO.inM g ((fun _ h => h) g hg)) (fun g hg e => hO.apart g ((fun _ h => h) g hg) (mem_l (e)))
    have hC := hC.step hC59 (fun g hg => hO.inN g ((fun _ h => h) g hg))
    have hO := hO.ext hC59
    have hb59 : BoxV w59 g2 24 [(.int .i64 3), (.slice a56 n56 c56)] := hb59
    refine x_end (by kernel_rfl) ?_
    clear hS
    refine c_region ?_
    refine pl_val (.int .i64 k38) (y_move rfl) ?_
    refine pl_val (.int .i64 (w64 (k38 + 1))) (y_add rfl rfl) ?_
    refine pl_val (.int .i64 (w64 (k38 + 1))) (y_assign rfl) ?_
    refine c_nil ?_
    cases hs
    have hO := hO.fr2
    have hO := hO.fr1
    have hO := hO.fr2
    exact ⟨_, a56, n56, c56, f56, fr_ovl 38 ⟨rfl, rfl, rfl, rfl, congrArg (Value.int .i64) hw, trivial⟩, hC, hO, hb1, hb59, hv56⟩
  · skip
    have hO := hO.fr1
    have hO := hO.fr1
    have hO := hO.nil
    exact ⟨_, none, 0, 0, [], fr_ovl 38 ⟨rfl, rfl, rfl, rfl, rfl, trivial⟩, hC, hO, hb1, hb3, os_nil⟩
  · cases o40 with
    | nx _ => exact True.intro
    | rt r_ =>
      have hs := after_rt hs
      intro a1 w1 hK
      cases hs
      exact hK
    | br s36 =>
      have hs := after_br hs
      rintro a1 w37 ⟨σ, a44, n44, c44, f44, rfl, hC, hO, hb1, hb3, hv44⟩
      refine c_seq ?_
      refine c_region ?_
      refine pl_val (.agg #[(.int .i64 3), (.slice a44 n44 c44)]) (y_load rfl ((box_load Ag24 Sz24 hb3 [] [(.int .i64 3), (.slice a44 n44 c44)] [] rfl rfl (fun h => nomatch h)) _ (Chg.refl _ _))) ?_
      obtain ⟨w60, hst60, hC60, hb60⟩ := box_store (P := Try.prog) hb1 [] [(.int .i64 0), (.slice none 0 0)] [] [(.int .i64 3), (.slice a44 n44 c44)] rfl rfl (by intro u hu; simp only [List.mem_cons, List.not_mem_nil, or_false] at hu; rcases hu with rfl | rfl <;> rfl)
      refine pl_skip (w' := w60) (ys_store rfl rfl (hst60 _ _ rfl Sz24)) ?_
      have hO := hO.fr2
      have hb3 := hb3.chg hC60 (fun hg => hO.apart _ ((fun _ h => h) _ hg) (mem_r (mem_l (List.mem_singleton.2 rfl))))
      have hv44 := hv44.mut hC60 (fun g hg => hO.inM g ((fun _ h => h) g hg)) (fun g hg e => hO.apart g ((fun _ h => h) g hg) (mem_l (e)))
      have hC := hC.step hC60 (fun g hg => hO.inN g ((fun _ h => h) g hg))
      have hO := hO.ext hC60
      have hb60 : BoxV w60 g1 24 [(.int .i64 3), (.slice a44 n44 c44)] := hb60
      refine c_nil ?_
      refine wp_ret ?_
      cases hs
      exact ⟨_, g1, a44, n44, c44, f44, fr_ovl 38 ⟨rfl, trivial⟩, hb60, hC, hv44, (fun g hg => ((hO.2.1 g (mem_r (mem_l (hg)))).2.2).resolve_left (fun h => nomatch h))⟩

theorem Bd34 : Bodied Try.prog 34 := bodied Try.func34 (by kernel_rfl) rfl

def k_impl_discriminator (M : Nat → Prop) (w0 : World) (r : (Int × (List Int))) (a : Act) (w : World) : Prop :=
  ∃ (σ : Nat → Value) (rg2 : Nat) (ra0 : Option Addr) (rn0 rc0 : Nat) (rf0 : List Nat), a = fr 5 (ovl σ [(2, (.pointer (some ⟨rg2, 0, none⟩)))]) ∧ BoxV w rg2 24 [(.int .i64 r.1), (.slice ra0 rn0 rc0)] ∧ Chg [] w0 w ∧ (RT.os 3 (RT.int .i64)).val M w (.slice ra0 rn0 rc0) r.2 rf0 ∧ (∀ g ∈ rf0, w0.heap.size ≤ g)
def s_impl_discriminator (n : Int) : Option ((Int × (List Int))) :=
  (s_impl_ternary__impl_discriminator_1 n).bind fun r3 =>
  some (r3.1, r3.2)
set_option maxHeartbeats 4000000 in
theorem c_impl_discriminator {M : Nat → Prop} {w : World}  (n : Int)  (hM : ∀ g, w.heap.size ≤ g → M g) {r : (Int × (List Int))} (hs : s_impl_discriminator n = some r) :
    Gives Try.prog 38 [(.int .i64 n)] w (fun v w' => ∃ (ra0 : Option Addr) (rn0 rc0 : Nat) (rf0 : List Nat), v = (.agg #[(.int .i64 r.1), (.slice ra0 rn0 rc0)]) ∧ Chg [] w w' ∧ (RT.os 3 (RT.int .i64)).val M w' (.slice ra0 rn0 rc0) r.2 rf0 ∧ (∀ g ∈ rf0, w.heap.size ≤ g)) := by
  refine calls_fr Try.func38 rfl Try.ntmps38 (Nat.le_of_ble_eq_true rfl) ?_
  have hO := Own.start (N := Nw w []) hM Nw.fut
  have hC := Chg.refl [] w
  unfold s_impl_discriminator at hs
  refine wp_mono (Q := KPost (k_impl_discriminator M w r)) ?_ (fun e a w1 h => ?_)
  rotate_left
  · cases e
    case ret =>
      obtain ⟨σ, rg2, ra0, rn0, rc0, rf0, rfl, hbrg2, hrest⟩ := h
      exact ret1x Try.results38 (res_cell rfl (box_load Ag24 Sz24 hbrg2 [] _ [] rfl rfl (fun h => nomatch h))) ⟨ra0, rn0, rc0, rf0, rfl, hrest⟩
    all_goals exact (h : False).elim
  refine c_seq ?_
  refine c_region ?_
  obtain ⟨w1, g1, ew1, eg1, hC1, hb1⟩ := new_block w [(.int .i64 0), (.slice none 0 0)] 24
  refine pl_val (w' := w1) (.pointer (some ⟨g1, 0, none⟩)) (y_alloc (by rw [ew1, eg1]; kernel_rfl)) ?_
  have hC := hC.ext hC1
  have hO := hO.new (X' := [g1]) hC1 (fun q hq => by rw [List.mem_singleton.1 hq, eg1]; exact Nat.le_refl _) (List.nodup_cons.2 ⟨(fun h => nomatch h), List.nodup_nil⟩) (fun q hq => by rw [List.mem_singleton.1 hq]; exact hb1.lt)
  refine c_nil ?_
  refine c_seq ?_
  refine c_region ?_
  refine pl_val (.int .i64 n) (y_move rfl) ?_
  obtain ⟨r3, hr3, hs⟩ := bind_some hs
  refine pl_call Bd34 rfl (c_impl_ternary__impl_discriminator_1 (M := M) n  hO.fut hr3) ?_
  rintro _ w2 ⟨a2x0, n2x0, c2x0, f2x0, rfl, hC2, hv2x0, hfr2x0⟩
  have hb1 := hb1.chg hC2 (fun h => nomatch h)
  have hC := hC.ext hC2
  have hO := hO.new hC2 hfr2x0 (os_nodup hv2x0) hv2x0.fpl
  obtain ⟨w5, hst5, hC5, hb5⟩ := box_store (P := Try.prog) hb1 [] [(.int .i64 0), (.slice none 0 0)] [] [(.int .i64 r3.1), (.slice a2x0 n2x0 c2x0)] rfl rfl (by intro u hu; simp only [List.mem_cons, List.not_mem_nil, or_false] at hu; rcases hu with rfl | rfl <;> rfl)
  refine pl_skip (w' := w5) (ys_store rfl rfl (hst5 _ _ rfl Sz24)) ?_
  have hO := hO.fr1
  have hv2x0 := hv2x0.mut hC5 (fun g hg => hO.inM g ((fun _ h => h) g hg)) (fun g hg e => hO.apart g ((fun _ h => h) g hg) (mem_l (e)))
  have hC := hC.step hC5 (fun g hg => hO.inN g ((fun _ h => h) g hg))
  have hO := hO.ext hC5
  have hb5 : BoxV w5 g1 24 [(.int .i64 r3.1), (.slice a2x0 n2x0 c2x0)] := hb5
  refine c_nil ?_
  refine wp_ret ?_
  cases hs
  exact ⟨_, g1, a2x0, n2x0, c2x0, f2x0, fr_ovl 5 ⟨rfl, trivial⟩, hb5, hC, hv2x0, (fun g hg => ((hO.2.1 g (mem_r (mem_l (hg)))).2.2).resolve_left (fun h => nomatch h))⟩

theorem Bd33 : Bodied Try.prog 33 := bodied Try.func33 (by kernel_rfl) rfl

theorem Bd38 : Bodied Try.prog 38 := bodied Try.func38 (by kernel_rfl) rfl

def k_impl_DiscriminatorOp (M : Nat → Prop) (w0 : World) (r : (Int × (List Int)) × Bool) (a : Act) (w : World) : Prop :=
  ∃ (σ : Nat → Value) (rg2 : Nat) (ra0 : Option Addr) (rn0 rc0 : Nat) (rf0 : List Nat), a = fr 10 (ovl σ [(2, (.pointer (some ⟨rg2, 0, none⟩))), (3, (.bool r.2))]) ∧ BoxV w rg2 24 [(.int .i64 r.1.1), (.slice ra0 rn0 rc0)] ∧ Chg [] w0 w ∧ (RT.os 3 (RT.int .i64)).val M w (.slice ra0 rn0 rc0) r.1.2 rf0 ∧ (∀ g ∈ rf0, w0.heap.size ≤ g)
def s_impl_DiscriminatorOp (n : Int) : Option ((Int × (List Int)) × Bool) :=
  (s_impl_isSize n).bind fun r3 =>
  (bif (!r3) then some ((0, []), false) else (s_impl_discriminator n).bind fun r7 =>
  some ((r7.1, r7.2), true))
set_option maxHeartbeats 4000000 in
theorem c_impl_DiscriminatorOp {M : Nat → Prop} {w : World}  (n : Int)  (hM : ∀ g, w.heap.size ≤ g → M g) {r : (Int × (List Int)) × Bool} (hs : s_impl_DiscriminatorOp n = some r) :
    Gives Try.prog 16 [(.int .i64 n)] w (fun v w' => ∃ (ra0 : Option Addr) (rn0 rc0 : Nat) (rf0 : List Nat), v = (.tuple #[(.agg #[(.int .i64 r.1.1), (.slice ra0 rn0 rc0)]), (.bool r.2)]) ∧ Chg [] w w' ∧ (RT.os 3 (RT.int .i64)).val M w' (.slice ra0 rn0 rc0) r.1.2 rf0 ∧ (∀ g ∈ rf0, w.heap.size ≤ g)) := by
  refine calls_fr Try.func16 rfl Try.ntmps16 (Nat.le_of_ble_eq_true rfl) ?_
  have hO := Own.start (N := Nw w []) hM Nw.fut
  have hC := Chg.refl [] w
  unfold s_impl_DiscriminatorOp at hs
  refine wp_mono (Q := KPost (k_impl_DiscriminatorOp M w r)) ?_ (fun e a w1 h => ?_)
  rotate_left
  · cases e
    case ret =>
      obtain ⟨σ, rg2, ra0, rn0, rc0, rf0, rfl, hbrg2, hrest⟩ := h
      exact ret2x Try.results16 (res_cell rfl (box_load Ag24 Sz24 hbrg2 [] _ [] rfl rfl (fun h => nomatch h))) (res_tmp rfl) ⟨ra0, rn0, rc0, rf0, rfl, hrest⟩
    all_goals exact (h : False).elim
  refine c_seq ?_
  refine c_region ?_
  obtain ⟨w1, g1, ew1, eg1, hC1, hb1⟩ := new_block w [(.int .i64 0), (.slice none 0 0)] 24
  refine pl_val (w' := w1) (.pointer (some ⟨g1, 0, none⟩)) (y_alloc (by rw [ew1, eg1]; kernel_rfl)) ?_
  have hC := hC.ext hC1
  have hO := hO.new (X' := [g1]) hC1 (fun q hq => by rw [List.mem_singleton.1 hq, eg1]; exact Nat.le_refl _) (List.nodup_cons.2 ⟨(fun h => nomatch h), List.nodup_nil⟩) (fun q hq => by rw [List.mem_singleton.1 hq]; exact hb1.lt)
  refine pl_val (.bool false) (y_assign rfl) ?_
  refine c_nil ?_
  refine c_seq ?_
  refine c_seq ?_
  refine c_region ?_
  refine pl_val (.int .i64 n) (y_move rfl) ?_
  obtain ⟨r3, hr3, hs⟩ := bind_some hs
  refine pl_call Bd33 rfl (c_impl_isSize (M := M) n  hO.fut hr3) ?_
  rintro _ w2 ⟨rfl, hC2⟩
  have hb1 := hb1.chg hC2 (fun h => nomatch h)
  have hC := hC.ext hC2
  have hO := hO.ext hC2
  refine pl_val (.bool (!r3)) (y_not rfl) ?_
  refine c_nil ?_
  rcases bif_some hs with ⟨hc4, hs⟩ | ⟨hc4, hs⟩
  · skip
    refine c_condT (congrArg Value.bool hc4) ?_
    refine c_seq ?_
    refine c_region ?_
    refine pl_val (.agg #[(.int .i64 0), (.slice none 0 0)]) (y_build rfl (by kernel_rfl)) ?_
    obtain ⟨w5, hst5, hC5, hb5⟩ := box_store (P := Try.prog) hb1 [] [(.int .i64 0), (.slice none 0 0)] [] [(.int .i64 0), (.slice none 0 0)] rfl rfl (by intro u hu; simp only [List.mem_cons, List.not_mem_nil, or_false] at hu; rcases hu with rfl | rfl <;> rfl)
    refine pl_skip (w' := w5) (ys_store rfl rfl (hst5 _ _ rfl Sz24)) ?_
    have hC := hC.step hC5 (fun g hg => hO.inN g ((fun _ h => h) g hg))
    have hO := hO.ext hC5
    have hb5 : BoxV w5 g1 24 [(.int .i64 0), (.slice none 0 0)] := hb5
    refine pl_val (.bool false) (y_assign rfl) ?_
    refine c_nil ?_
    refine wp_ret ?_
    cases hs
    exact ⟨_, g1, none, 0, 0, [], fr_ovl 10 ⟨rfl, rfl, trivial⟩, hb5, hC, os_nil, (fun _ h => nomatch h)⟩
  · skip
    refine c_condF (congrArg Value.bool hc4) ?_
    refine wp_skip ?_
    refine c_seq ?_
    refine c_region ?_
    refine pl_val (.int .i64 n) (y_move rfl) ?_
    obtain ⟨r7, hr7, hs⟩ := bind_some hs
    refine pl_call Bd38 rfl (c_impl_discriminator (M := M) n  hO.fut hr7) ?_
    rintro _ w6 ⟨a6x0, n6x0, c6x0, f6x0, rfl, hC6, hv6x0, hfr6x0⟩
    have hb1 := hb1.chg hC6 (fun h => nomatch h)
    have hC := hC.ext hC6
    have hO := hO.new hC6 hfr6x0 (os_nodup hv6x0) hv6x0.fpl
    obtain ⟨w9, hst9, hC9, hb9⟩ := box_store (P := Try.prog) hb1 [] [(.int .i64 0), (.slice none 0 0)] [] [(.int .i64 r7.1), (.slice a6x0 n6x0 c6x0)] rfl rfl (by intro u hu; simp only [List.mem_cons, List.not_mem_nil, or_false] at hu; rcases hu with rfl | rfl <;> rfl)
    refine pl_skip (w' := w9) (ys_store rfl rfl (hst9 _ _ rfl Sz24)) ?_
    have hO := hO.fr1
    have hv6x0 := hv6x0.mut hC9 (fun g hg => hO.inM g ((fun _ h => h) g hg)) (fun g hg e => hO.apart g ((fun _ h => h) g hg) (mem_l (e)))
    have hC := hC.step hC9 (fun g hg => hO.inN g ((fun _ h => h) g hg))
    have hO := hO.ext hC9
    have hb9 : BoxV w9 g1 24 [(.int .i64 r7.1), (.slice a6x0 n6x0 c6x0)] := hb9
    refine pl_val (.bool true) (y_assign rfl) ?_
    refine c_nil ?_
    refine wp_ret ?_
    cases hs
    exact ⟨_, g1, a6x0, n6x0, c6x0, f6x0, fr_ovl 10 ⟨rfl, rfl, trivial⟩, hb9, hC, hv6x0, (fun g hg => ((hO.2.1 g (mem_r (mem_l (hg)))).2.2).resolve_left (fun h => nomatch h))⟩

def k_laws_eqIntS (M : Nat → Prop) (w0 : World) (r : Bool) (a : Act) (w : World) : Prop :=
  ∃ (σ : Nat → Value) , a = fr 26 (ovl σ [(4, (.bool r))]) ∧ Chg [] w0 w
def s_laws_eqIntS (a_ : List Int) (b : List Int) : Option (Bool) :=
  (bif ((a_.length : Int) != (b.length : Int)) then some false else (forC (S := Unit) (R := Bool) (fun k12 s10 =>
  (idx a_ k12).bind fun x17 =>
  (idx b k12).bind fun x19 =>
  (bif (x17 != x19) then some (.rt false) else some (.nx ()))) 0 (a_.length : Int) ()).bind fun o14 => after o14 (fun r_ => some r_) (fun s10 =>
  some true))
set_option maxHeartbeats 4000000 in
theorem c_laws_eqIntS {M : Nat → Prop} {w : World} {pa0 : Option Addr} {pn0 pc0 : Nat} {pa1 : Option Addr} {pn1 pc1 : Nat} (a_ : List Int) (b : List Int) (h0 : (RT.rs (RT.int .i64)).val M w (.slice pa0 pn0 pc0) a_ ([])) (h1 : (RT.rs (RT.int .i64)).val M w (.slice pa1 pn1 pc1) b ([])) (hM : ∀ g, w.heap.size ≤ g → M g) {r : Bool} (hs : s_laws_eqIntS a_ b = some r) :
    Gives Try.prog 26 [(.slice pa0 pn0 pc0), (.slice pa1 pn1 pc1)] w (fun v w' => v = (.bool r) ∧ Chg [] w w') := by
  refine calls_fr Try.func26 rfl Try.ntmps26 (Nat.le_of_ble_eq_true rfl) ?_
  have hO := Own.start (N := Nw w []) hM Nw.fut
  have hC := Chg.refl [] w
  unfold s_laws_eqIntS at hs
  refine wp_mono (Q := KPost (k_laws_eqIntS M w r)) ?_ (fun e a w1 h => ?_)
  rotate_left
  · cases e
    case ret =>
      obtain ⟨σ, rfl, hrest⟩ := h
      exact ret1x Try.results26 (res_tmp rfl) ⟨rfl, hrest⟩
    all_goals exact (h : False).elim
  refine c_seq ?_
  refine c_region ?_
  refine pl_val (.bool false) (y_assign rfl) ?_
  refine c_nil ?_
  refine c_seq ?_
  refine c_seq ?_
  refine c_region ?_
  refine pl_val (.slice pa0 pn0 pc0) (y_move rfl) ?_
  refine pl_val (.int .i64 (a_.length : Int)) (y_len' Sl22 (rs_len h0) rfl) ?_
  refine pl_val (.slice pa1 pn1 pc1) (y_move rfl) ?_
  refine pl_val (.int .i64 (b.length : Int)) (y_len' Sl22 (rs_len h1) rfl) ?_
  refine pl_val (.bool ((a_.length : Int) != (b.length : Int))) (y_neq rfl rfl) ?_
  refine c_nil ?_
  rcases bif_some hs with ⟨hc3, hs⟩ | ⟨hc3, hs⟩
  · skip
    refine c_condT (congrArg Value.bool hc3) ?_
    refine c_seq ?_
    refine c_region ?_
    refine pl_val (.bool false) (y_assign rfl) ?_
    refine c_nil ?_
    refine wp_ret ?_
    cases hs
    exact ⟨_, fr_ovl 26 ⟨rfl, trivial⟩, hC⟩
  · skip
    refine c_condF (congrArg Value.bool hc3) ?_
    refine wp_skip ?_
    refine c_seq ?_
    refine c_seq ?_
    refine c_region ?_
    refine pl_val (.int .i64 0) (y_assign rfl) ?_
    refine c_nil ?_
    obtain ⟨o14, hl15, hs⟩ := bind_some hs
    refine wp_block ?_
    refine wp_forC (id := 0) (a_.length : Int) (I := fun k12 s10 a w11 => ∃ (σ : Nat → Value), a = fr 26 (ovl σ [(0, (.slice pa0 pn0 pc0)), (1, (.slice pa1 pn1 pc1)), (5, (.int .i64 k12))]) ∧ Chg [] w w11 ∧ Own (Nw w []) M w11 ([]) ∧ (RT.rs (RT.int .i64)).val M w11 (.slice pa0 pn0 pc0) a_ ([]) ∧ (RT.rs (RT.int .i64)).val M w11 (.slice pa1 pn1 pc1) b ([])) (J := fun s10 a w11 => ∃ (σ : Nat → Value), a = fr 26 (ovl σ []) ∧ Chg [] w w11 ∧ Own (Nw w []) M w11 ([]) ∧ (RT.rs (RT.int .i64)).val M w11 (.slice pa0 pn0 pc0) a_ ([]) ∧ (RT.rs (RT.int .i64)).val M w11 (.slice pa1 pn1 pc1) b ([])) (K := (k_laws_eqIntS M w)) ?_ ?_ 0 () o14 _ _ ?_ hl15 ?_
    · rintro k12 s10 a w11 ⟨σ, rfl, hC, hO, h0, h1⟩ hlt
      refine c_seq ?_
      refine c_seq ?_
      refine c_region ?_
      refine pl_val (.int .i64 k12) (y_move rfl) ?_
      refine pl_val (.slice pa0 pn0 pc0) (y_move rfl) ?_
      refine pl_val (.int .i64 (a_.length : Int)) (y_len' Sl22 (rs_len h0) rfl) ?_
      refine pl_val (.bool (decide (k12 < (a_.length : Int)))) (y_lss rfl rfl) ?_
      refine c_nil ?_
      refine c_condF (congrArg Value.bool (decide_eq_false hlt)) ?_
      refine wp_exit ?_
      exact ⟨rfl, _, fr_ovl 26 trivial, hC, hO, h0, h1⟩
    · rintro k12 s10 o14 a w11 ⟨σ, rfl, hC, hO, h0, h1⟩ hlt hw hs
      refine c_seq ?_
      refine c_seq ?_
      refine c_region ?_
      refine pl_val (.int .i64 k12) (y_move rfl) ?_
      refine pl_val (.slice pa0 pn0 pc0) (y_move rfl) ?_
      refine pl_val (.int .i64 (a_.length : Int)) (y_len' Sl22 (rs_len h0) rfl) ?_
      refine pl_val (.bool (decide (k12 < (a_.length : Int)))) (y_lss rfl rfl) ?_
      refine c_nil ?_
      refine c_condT (congrArg Value.bool (decide_eq_true hlt)) ?_
      refine wp_skip ?_
      refine c_seq ?_
      refine wp_block ?_
      refine c_seq ?_
      refine x_start [] Mx rfl ?_
      have hCw16 := Chg.drew w11
      generalize World.drew w11 = w16 at hCw16 ⊢
      have h0 := h0.ext hCw16
      have h1 := h1.ext hCw16
      have hC := hC.ext hCw16
      have hO := hO.ext hCw16
      have hS := Chg.refl [] w16
      refine x_p 0 (.slice pa0 pn0 pc0) rfl (by kernel_rfl)  (fun _ => y_move rfl) (fun _ => hS) ?_
      refine x_p 1 (.int .i64 k12) rfl (by kernel_rfl)  (fun _ => y_move rfl) (fun _ => hS) ?_
      obtain ⟨x17, hx17, hs⟩ := bind_some hs
      obtain ⟨b18, o18, hp18, ha18⟩ := rs_idx Sl22 Sz3 h0 hx17
      refine x_p 2 (.pointer (some ⟨b18, o18, none⟩)) rfl (by kernel_rfl)  (fun _ => hp18 _ _ _ _ _ _ _ _ _ rfl rfl) (fun _ => hS) ?_
      refine x_l 3 (.int .i64 x17) rfl (by kernel_rfl)  (fun w' hw' => y_load rfl ((at_load_int Ag3 Sz3 ha18) w' hw')) hS ?_
      refine x_p 4 (.slice pa1 pn1 pc1) rfl (by kernel_rfl)  (fun _ => y_move rfl) (fun _ => hS) ?_
      refine x_p 5 (.int .i64 k12) rfl (by kernel_rfl)  (fun _ => y_move rfl) (fun _ => hS) ?_
      obtain ⟨x19, hx19, hs⟩ := bind_some hs
      obtain ⟨b20, o20, hp20, ha20⟩ := rs_idx Sl22 Sz3 h1 hx19
      refine x_p 6 (.pointer (some ⟨b20, o20, none⟩)) rfl (by kernel_rfl)  (fun _ => hp20 _ _ _ _ _ _ _ _ _ rfl rfl) (fun _ => hS) ?_
      refine x_l 7 (.int .i64 x19) rfl (by kernel_rfl)  (fun w' hw' => y_load rfl ((at_load_int Ag3 Sz3 ha20) w' hw')) hS ?_
      refine x_p 8 (.bool (x17 != x19)) rfl (by kernel_rfl)  (fun _ => y_neq rfl rfl) (fun _ => hS) ?_
      refine x_end (by kernel_rfl) ?_
      clear hS
      rcases bif_some hs with ⟨hc21, hs⟩ | ⟨hc21, hs⟩
      · skip
        refine c_condT (congrArg Value.bool hc21) ?_
        refine c_seq ?_
        refine c_region ?_
        refine pl_val (.bool false) (y_assign rfl) ?_
        refine c_nil ?_
        refine wp_ret ?_
        cases hs
        exact ⟨_, fr_ovl 26 ⟨rfl, trivial⟩, hC⟩
      · skip
        refine c_condF (congrArg Value.bool hc21) ?_
        refine wp_skip ?_
        refine c_region ?_
        refine pl_val (.int .i64 k12) (y_move rfl) ?_
        refine pl_val (.int .i64 (w64 (k12 + 1))) (y_add rfl rfl) ?_
        refine pl_val (.int .i64 (w64 (k12 + 1))) (y_assign rfl) ?_
        refine c_nil ?_
        cases hs
        exact ⟨_, fr_ovl 26 ⟨rfl, rfl, congrArg (Value.int .i64) hw, trivial⟩, hC, hO, h0, h1⟩
    · skip
      exact ⟨_, fr_ovl 26 ⟨rfl, rfl, rfl, trivial⟩, hC, hO, h0, h1⟩
    · cases o14 with
      | nx _ => exact True.intro
      | rt r_ =>
        have hs := after_rt hs
        intro a1 w1 hK
        cases hs
        exact hK
      | br s10 =>
        have hs := after_br hs
        rintro a1 w11 ⟨σ, rfl, hC, hO, h0, h1⟩
        refine c_seq ?_
        refine c_region ?_
        refine pl_val (.bool true) (y_assign rfl) ?_
        refine c_nil ?_
        refine wp_ret ?_
        cases hs
        exact ⟨_, fr_ovl 26 ⟨rfl, trivial⟩, hC⟩

theorem Fa24x0 : ∀ (a : Addr) (w : World), (Instr.fieldAt 24 (.pointer (some a)) 0).run Try.prog w = .ok (.pointer (some (a.add 0))) w := fun _ _ => by kernel_rfl

theorem Bd26 : Bodied Try.prog 26 := bodied Try.func26 (by kernel_rfl) rfl

def k_laws_eqOp (M : Nat → Prop) (w0 : World) (r : Bool) (a : Act) (w : World) : Prop :=
  ∃ (σ : Nat → Value) , a = fr 16 (ovl σ [(4, (.bool r))]) ∧ Chg [] w0 w
def s_laws_eqOp (a_ : Int × (List Int)) (b : Int × (List Int)) : Option (Bool) :=
  (bif (a_.1 != b.1) then some false else (s_laws_eqIntS a_.2 b.2).bind fun r7 =>
  (bif (!r7) then some false else some true))
set_option maxHeartbeats 4000000 in
theorem c_laws_eqOp {M : Nat → Prop} {w : World} {pa0 : Option Addr} {pn0 pc0 : Nat} {pa1 : Option Addr} {pn1 pc1 : Nat} (a_ : Int × (List Int)) (b : Int × (List Int)) (h0 : (RT.rs (RT.int .i64)).val M w (.slice pa0 pn0 pc0) a_.2 ([])) (h1 : (RT.rs (RT.int .i64)).val M w (.slice pa1 pn1 pc1) b.2 ([])) (hM : ∀ g, w.heap.size ≤ g → M g) {r : Bool} (hs : s_laws_eqOp a_ b = some r) :
    Gives Try.prog 12 [(.agg #[(.int .i64 a_.1), (.slice pa0 pn0 pc0)]), (.agg #[(.int .i64 b.1), (.slice pa1 pn1 pc1)])] w (fun v w' => v = (.bool r) ∧ Chg [] w w') := by
  refine calls_fr Try.func12 rfl Try.ntmps12 (Nat.le_of_ble_eq_true rfl) ?_
  have hO := Own.start (N := Nw w []) hM Nw.fut
  have hC := Chg.refl [] w
  unfold s_laws_eqOp at hs
  refine wp_mono (Q := KPost (k_laws_eqOp M w r)) ?_ (fun e a w1 h => ?_)
  rotate_left
  · cases e
    case ret =>
      obtain ⟨σ, rfl, hrest⟩ := h
      exact ret1x Try.results12 (res_tmp rfl) ⟨rfl, hrest⟩
    all_goals exact (h : False).elim
  refine c_seq ?_
  refine c_region ?_
  obtain ⟨w3, g3, ew3, eg3, hC3, hb3⟩ := new_block w [(.int .i64 a_.1), (.slice pa0 pn0 pc0)] 24
  refine pl_val (w' := w3) (.pointer (some ⟨g3, 0, none⟩)) (y_box rfl (by rw [ew3, eg3]; kernel_rfl)) ?_
  have h0 := h0.ext hC3
  have h1 := h1.ext hC3
  have hC := hC.ext hC3
  have hO := hO.new (X' := [g3]) hC3 (fun q hq => by rw [List.mem_singleton.1 hq, eg3]; exact Nat.le_refl _) (List.nodup_cons.2 ⟨(fun h => nomatch h), List.nodup_nil⟩) (fun q hq => by rw [List.mem_singleton.1 hq]; exact hb3.lt)
  obtain ⟨w4, g4, ew4, eg4, hC4, hb4⟩ := new_block w3 [(.int .i64 b.1), (.slice pa1 pn1 pc1)] 24
  refine pl_val (w' := w4) (.pointer (some ⟨g4, 0, none⟩)) (y_box rfl (by rw [ew4, eg4]; kernel_rfl)) ?_
  have h0 := h0.ext hC4
  have h1 := h1.ext hC4
  have hb3 := hb3.chg hC4 (fun h => nomatch h)
  have hC := hC.ext hC4
  have hO := hO.new (X' := [g4]) hC4 (fun q hq => by rw [List.mem_singleton.1 hq, eg4]; exact Nat.le_refl _) (List.nodup_cons.2 ⟨(fun h => nomatch h), List.nodup_nil⟩) (fun q hq => by rw [List.mem_singleton.1 hq]; exact hb4.lt)
  refine pl_val (.bool false) (y_assign rfl) ?_
  refine c_nil ?_
  refine c_seq ?_
  refine c_seq ?_
  refine c_region ?_
  refine pl_val (.pointer (some ⟨g3, 0, none⟩)) (y_faddr rfl Fa24x0) ?_
  refine pl_val (.int .i64 a_.1) (y_load rfl ((box_load Ag3 Sz3 hb3 [] [(.int .i64 a_.1)] [(.slice pa0 pn0 pc0)] rfl rfl (fun _ => rfl)) _ (Chg.refl _ _))) ?_
  refine pl_val (.pointer (some ⟨g4, 0, none⟩)) (y_faddr rfl Fa24x0) ?_
  refine pl_val (.int .i64 b.1) (y_load rfl ((box_load Ag3 Sz3 hb4 [] [(.int .i64 b.1)] [(.slice pa1 pn1 pc1)] rfl rfl (fun _ => rfl)) _ (Chg.refl _ _))) ?_
  refine pl_val (.bool (a_.1 != b.1)) (y_neq rfl rfl) ?_
  refine c_nil ?_
  rcases bif_some hs with ⟨hc5, hs⟩ | ⟨hc5, hs⟩
  · skip
    refine c_condT (congrArg Value.bool hc5) ?_
    refine c_seq ?_
    refine c_region ?_
    refine pl_val (.bool false) (y_assign rfl) ?_
    refine c_nil ?_
    refine wp_ret ?_
    cases hs
    exact ⟨_, fr_ovl 16 ⟨rfl, trivial⟩, hC⟩
  · skip
    refine c_condF (congrArg Value.bool hc5) ?_
    refine wp_skip ?_
    refine c_seq ?_
    refine c_seq ?_
    refine c_region ?_
    refine pl_val (.pointer (some ⟨g3, 1, none⟩)) (y_faddr rfl Fa24x1) ?_
    refine pl_val (.slice pa0 pn0 pc0) (y_load rfl ((box_load Ag22 Sz22 hb3 [(.int .i64 a_.1)] [(.slice pa0 pn0 pc0)] [] rfl rfl (fun _ => rfl)) _ (Chg.refl _ _))) ?_
    refine pl_val (.pointer (some ⟨g4, 1, none⟩)) (y_faddr rfl Fa24x1) ?_
    refine pl_val (.slice pa1 pn1 pc1) (y_load rfl ((box_load Ag22 Sz22 hb4 [(.int .i64 b.1)] [(.slice pa1 pn1 pc1)] [] rfl rfl (fun _ => rfl)) _ (Chg.refl _ _))) ?_
    obtain ⟨r7, hr7, hs⟩ := bind_some hs
    refine pl_call Bd26 rfl (c_laws_eqIntS (M := M) a_.2 b.2 h0 h1 hO.fut hr7) ?_
    rintro _ w6 ⟨rfl, hC6⟩
    have h0 := h0.ext hC6
    have h1 := h1.ext hC6
    have hb3 := hb3.chg hC6 (fun h => nomatch h)
    have hb4 := hb4.chg hC6 (fun h => nomatch h)
    have hC := hC.ext hC6
    have hO := hO.ext hC6
    refine pl_val (.bool (!r7)) (y_not rfl) ?_
    refine c_nil ?_
    rcases bif_some hs with ⟨hc8, hs⟩ | ⟨hc8, hs⟩
    · skip
      refine c_condT (congrArg Value.bool hc8) ?_
      refine c_seq ?_
      refine c_region ?_
      refine pl_val (.bool false) (y_assign rfl) ?_
      refine c_nil ?_
      refine wp_ret ?_
      cases hs
      exact ⟨_, fr_ovl 16 ⟨rfl, trivial⟩, hC⟩
    · skip
      refine c_condF (congrArg Value.bool hc8) ?_
      refine wp_skip ?_
      refine c_seq ?_
      refine c_region ?_
      refine pl_val (.bool true) (y_assign rfl) ?_
      refine c_nil ?_
      refine wp_ret ?_
      cases hs
      exact ⟨_, fr_ovl 16 ⟨rfl, trivial⟩, hC⟩

def k_laws_markIntS (M : Nat → Prop) (w0 : World) (qa : Option Addr) (qn qc : Nat) (qf : List Nat) (r : Int × (List Int)) (a : Act) (w : World) : Prop :=
  ∃ (σ : Nat → Value) (rfi : List Nat), a = fr 19 (ovl σ [(4, (.int .i64 r.1))]) ∧ Chg qf w0 w ∧ (RT.os 3 (RT.int .i64)).val M w (.slice qa qn qc) r.2 rfi ∧ (∀ g ∈ rfi, g ∈ qf)
def s_laws_markIntS (a_ : List Int) (k : Int) : Option (Int × (List Int)) :=
  (iter (S := Int × Int × (List Int)) (R := Int × (List Int)) (fun s25 =>
  (bif (decide (s25.2.1 < (s25.2.2.length : Int))) then (idx s25.2.2 s25.2.1).bind fun x34 =>
  some (.nx (w64 (s25.1 + 1), w64 (s25.2.1 + 1), List.set s25.2.2 (Int.toNat s25.2.1) s25.1)) else some (.br (s25.1, s25.2.1, s25.2.2)))) FU (k, 0, a_)).bind fun o29 => after o29 (fun r_ => some r_) (fun s25 =>
  some (s25.1, s25.2.2))
set_option maxHeartbeats 4000000 in
theorem c_laws_markIntS {M : Nat → Prop} {w : World} {pa0 : Option Addr} {pn0 pc0 : Nat} {pf0 : List Nat} (a_ : List Int) (k : Int) (h0 : (RT.os 3 (RT.int .i64)).val M w (.slice pa0 pn0 pc0) a_ pf0) (hI : ∀ g ∈ pf0, M g) (hM : ∀ g, w.heap.size ≤ g → M g) {r : Int × (List Int)} (hs : s_laws_markIntS a_ k = some r) :
    Gives Try.prog 36 [(.slice pa0 pn0 pc0), (.int .i64 k)] w (fun v w' => ∃ (rfi : List Nat), v = (.int .i64 r.1) ∧ Chg pf0 w w' ∧ (RT.os 3 (RT.int .i64)).val M w' (.slice pa0 pn0 pc0) r.2 rfi ∧ (∀ g ∈ rfi, g ∈ pf0)) := by
  refine calls_fr Try.func36 rfl Try.ntmps36 (Nat.le_of_ble_eq_true rfl) ?_
  have hO := Own.start1 hM h0 hI
  have hC := Chg.refl pf0 w
  unfold s_laws_markIntS at hs
  refine wp_mono (Q := KPost (k_laws_markIntS M w pa0 pn0 pc0 pf0 r)) ?_ (fun e a w1 h => ?_)
  rotate_left
  · cases e
    case ret =>
      obtain ⟨σ, rfi, rfl, hrest⟩ := h
      exact ret1x Try.results36 (res_tmp rfl) ⟨rfi, rfl, hrest⟩
    all_goals exact (h : False).elim
  refine c_seq ?_
  refine c_region ?_
  refine pl_val (.int .i64 0) (y_assign rfl) ?_
  refine c_nil ?_
  refine c_seq ?_
  refine c_seq ?_
  refine c_region ?_
  refine pl_val (.int .i64 0) (y_assign rfl) ?_
  refine c_nil ?_
  obtain ⟨o29, hl30, hs⟩ := bind_some hs
  refine wp_block ?_
  refine wp_iter (id := 0) (I := fun s25 a w26 => ∃ (σ : Nat → Value) (f31 : List Nat), a = fr 19 (ovl σ [(0, (.slice pa0 pn0 pc0)), (1, (.int .i64 s25.1)), (5, (.int .i64 s25.2.1))]) ∧ Chg pf0 w w26 ∧ Own (Nw w pf0) M w26 (f31 ++ []) ∧ (RT.os 3 (RT.int .i64)).val M w26 (.slice pa0 pn0 pc0) s25.2.2 f31 ∧ (∀ g ∈ f31, g ∈ pf0)) (J := fun s25 a w26 => ∃ (σ : Nat → Value) (f32 : List Nat), a = fr 19 (ovl σ [(1, (.int .i64 s25.1))]) ∧ Chg pf0 w w26 ∧ Own (Nw w pf0) M w26 (f32 ++ []) ∧ (RT.os 3 (RT.int .i64)).val M w26 (.slice pa0 pn0 pc0) s25.2.2 f32 ∧ (∀ g ∈ f32, g ∈ pf0)) (K := (k_laws_markIntS M w pa0 pn0 pc0 pf0)) ?_ FU (k, 0, a_) o29 _ _ ?_ hl30 ?_
  · rintro s25 o29 a w26 ⟨σ, f31, rfl, hC, hO, hv31, hsub⟩ hs
    refine c_seq ?_
    refine c_seq ?_
    refine c_region ?_
    refine pl_val (.int .i64 s25.2.1) (y_move rfl) ?_
    refine pl_val (.slice pa0 pn0 pc0) (y_move rfl) ?_
    refine pl_val (.int .i64 (s25.2.2.length : Int)) (y_len' Sl22 (os_len hv31) rfl) ?_
    refine pl_val (.bool (decide (s25.2.1 < (s25.2.2.length : Int)))) (y_lss rfl rfl) ?_
    refine c_nil ?_
    rcases bif_some hs with ⟨hc33, hs⟩ | ⟨hc33, hs⟩
    · skip
      refine c_condT (congrArg Value.bool hc33) ?_
      refine wp_skip ?_
      refine c_seq ?_
      refine wp_block ?_
      refine c_seq ?_
      refine c_region ?_
      refine pl_val (.slice pa0 pn0 pc0) (y_move rfl) ?_
      refine pl_val (.int .i64 s25.2.1) (y_move rfl) ?_
      refine pl_val (.int .i64 s25.1) (y_move rfl) ?_
      obtain ⟨x34, hx34, hs⟩ := bind_some hs
      obtain ⟨g35, f35, hg35, hk35, hp35, ha35, hf35⟩ := os_idx Sl22 Sz3 hv31 hx34
      refine pl_val (.pointer (some ⟨g35, 0 + Int.toNat s25.2.1 * 1, none⟩)) (hp35 _ _ _ _ _ _ _ _ _ rfl rfl) ?_
      obtain ⟨w36, f36, hst36, hC36, hf36, hv36⟩ := os_store (P := Try.prog) (c' := [(.int .i64 s25.1)]) hg35 hv31 hk35 (fun g hg => hO.inM g (os_block hv31 g (by simpa using hg))) ⟨rfl, rfl⟩ List.nodup_nil (fun _ h => nomatch h) (fun _ h => .inl h)
      have hG36 : ∀ q ∈ [g35], q ∈ f31 := fun q hq => os_block hv31 q (by rw [hg35]; exact hq)
      refine pl_skip (w' := w36) (ys_store rfl rfl (hst36 _ _ rfl Sz3)) ?_
      have hC := hC.step hC36 (fun g hg => hO.inN g (hG36 g hg))
      have hO := hO.grow hC36 (fun q hq => .inl ((hf36 q hq).resolve_right (fun h => nomatch h))) (os_nodup hv36) hv36.fpl
      have hsub36 : ∀ q ∈ f36, q ∈ pf0 := fun q hq => hsub q ((hf36 q hq).resolve_right (fun h => nomatch h))
      refine c_nil ?_
      refine c_region ?_
      refine pl_val (.int .i64 s25.1) (y_move rfl) ?_
      refine pl_val (.int .i64 (w64 (s25.1 + 1))) (y_add rfl rfl) ?_
      refine pl_val (.int .i64 (w64 (s25.1 + 1))) (y_assign rfl) ?_
      refine c_nil ?_
      refine c_region ?_
      refine pl_val (.int .i64 s25.2.1) (y_move rfl) ?_
      refine pl_val (.int .i64 (w64 (s25.2.1 + 1))) (y_add rfl rfl) ?_
      refine pl_val (.int .i64 (w64 (s25.2.1 + 1))) (y_assign rfl) ?_
      refine c_nil ?_
      cases hs
      exact ⟨_, f36, fr_ovl 19 ⟨rfl, rfl, rfl, trivial⟩, hC, hO, hv36, hsub36⟩
    · skip
      refine c_condF (congrArg Value.bool hc33) ?_
      refine wp_exit ?_
      cases hs
      exact ⟨rfl, _, f31, fr_ovl 19 ⟨rfl, trivial⟩, hC, hO, hv31, hsub⟩
  · skip
    exact ⟨_, pf0, fr_ovl 19 ⟨rfl, rfl, rfl, trivial⟩, hC, hO, h0, (fun _ h => h)⟩
  · cases o29 with
    | nx _ => exact True.intro
    | rt r_ =>
      have hs := after_rt hs
      intro a1 w1 hK
      cases hs
      exact hK
    | br s25 =>
      have hs := after_br hs
      rintro a1 w26 ⟨σ, f32, rfl, hC, hO, hv32, hsub⟩
      refine c_seq ?_
      refine c_region ?_
      refine pl_val (.int .i64 s25.1) (y_move rfl) ?_
      refine pl_val (.int .i64 s25.1) (y_assign rfl) ?_
      refine c_nil ?_
      refine wp_ret ?_
      cases hs
      exact ⟨_, f32, fr_ovl 19 ⟨rfl, trivial⟩, hC, hv32, hsub⟩

theorem Bd36 : Bodied Try.prog 36 := bodied Try.func36 (by kernel_rfl) rfl

def k_laws_markOp (M : Nat → Prop) (w0 : World) (qa : Option Addr) (qn qc : Nat) (qf : List Nat) (r : Int × (List Int)) (a : Act) (w : World) : Prop :=
  ∃ (σ : Nat → Value) (rfi : List Nat), a = fr 10 (ovl σ [(4, (.int .i64 r.1))]) ∧ Chg qf w0 w ∧ (RT.os 3 (RT.int .i64)).val M w (.slice qa qn qc) r.2 rfi ∧ (∀ g ∈ rfi, g ∈ qf)
def s_laws_markOp (a_ : Int × (List Int)) (k : Int) : Option (Int × (List Int)) :=
  (s_laws_markIntS a_.2 k).bind fun r4 =>
  some (r4.1, r4.2)
set_option maxHeartbeats 4000000 in
theorem c_laws_markOp {M : Nat → Prop} {w : World} {pa0 : Option Addr} {pn0 pc0 : Nat} {pf0 : List Nat} (a_ : Int × (List Int)) (k : Int) (h0 : (RT.os 3 (RT.int .i64)).val M w (.slice pa0 pn0 pc0) a_.2 pf0) (hI : ∀ g ∈ pf0, M g) (hM : ∀ g, w.heap.size ≤ g → M g) {r : Int × (List Int)} (hs : s_laws_markOp a_ k = some r) :
    Gives Try.prog 13 [(.agg #[(.int .i64 a_.1), (.slice pa0 pn0 pc0)]), (.int .i64 k)] w (fun v w' => ∃ (rfi : List Nat), v = (.int .i64 r.1) ∧ Chg pf0 w w' ∧ (RT.os 3 (RT.int .i64)).val M w' (.slice pa0 pn0 pc0) r.2 rfi ∧ (∀ g ∈ rfi, g ∈ pf0)) := by
  refine calls_fr Try.func13 rfl Try.ntmps13 (Nat.le_of_ble_eq_true rfl) ?_
  have hO := Own.start1 hM h0 hI
  have hC := Chg.refl pf0 w
  unfold s_laws_markOp at hs
  refine wp_mono (Q := KPost (k_laws_markOp M w pa0 pn0 pc0 pf0 r)) ?_ (fun e a w1 h => ?_)
  rotate_left
  · cases e
    case ret =>
      obtain ⟨σ, rfi, rfl, hrest⟩ := h
      exact ret1x Try.results13 (res_tmp rfl) ⟨rfi, rfl, hrest⟩
    all_goals exact (h : False).elim
  refine c_seq ?_
  refine c_region ?_
  obtain ⟨w2, g2, ew2, eg2, hC2, hb2⟩ := new_block w [(.int .i64 a_.1), (.slice pa0 pn0 pc0)] 24
  refine pl_val (w' := w2) (.pointer (some ⟨g2, 0, none⟩)) (y_box rfl (by rw [ew2, eg2]; kernel_rfl)) ?_
  have h0 := h0.ext hC2
  have hC := hC.ext hC2
  have hO := hO.new (X' := [g2]) hC2 (fun q hq => by rw [List.mem_singleton.1 hq, eg2]; exact Nat.le_refl _) (List.nodup_cons.2 ⟨(fun h => nomatch h), List.nodup_nil⟩) (fun q hq => by rw [List.mem_singleton.1 hq]; exact hb2.lt)
  refine pl_val (.int .i64 0) (y_assign rfl) ?_
  refine c_nil ?_
  refine c_seq ?_
  refine c_region ?_
  refine pl_val (.pointer (some ⟨g2, 1, none⟩)) (y_faddr rfl Fa24x1) ?_
  refine pl_val (.slice pa0 pn0 pc0) (y_load rfl ((box_load Ag22 Sz22 hb2 [(.int .i64 a_.1)] [(.slice pa0 pn0 pc0)] [] rfl rfl (fun _ => rfl)) _ (Chg.refl _ _))) ?_
  refine pl_val (.int .i64 k) (y_move rfl) ?_
  have hO := hO.fr1
  obtain ⟨r4, hr4, hs⟩ := bind_some hs
  refine pl_call Bd36 rfl (c_laws_markIntS (M := M) a_.2 k h0 hO.inM hO.fut hr4) ?_
  rintro _ w3 ⟨fi3, rfl, hC3, hvi3, hfi3⟩
  have hb2 := hb2.chg hC3 (fun hg => hO.apart _ ((fun _ h => h) _ hg) (mem_l (List.mem_singleton.2 rfl)))
  have hC := hC.step hC3 (fun g hg => hO.inN g ((fun _ h => h) g hg))
  have hO := hO.grow hC3 (fun q hq => .inl (hfi3 q hq)) (os_nodup hvi3) hvi3.fpl
  have hsub3 : ∀ q ∈ fi3, q ∈ pf0 := fun q hq => (fun _ h => h) q (hfi3 q hq)
  refine pl_val (.int .i64 r4.1) (y_assign rfl) ?_
  refine c_nil ?_
  refine c_seq ?_
  refine c_region ?_
  refine pl_val (.int .i64 r4.1) (y_move rfl) ?_
  refine pl_val (.int .i64 r4.1) (y_assign rfl) ?_
  refine c_nil ?_
  refine wp_ret ?_
  cases hs
  exact ⟨_, fi3, fr_ovl 10 ⟨rfl, trivial⟩, hC, hvi3, hsub3⟩

def k_laws_heldIntS (M : Nat → Prop) (w0 : World) (r : Int) (a : Act) (w : World) : Prop :=
  ∃ (σ : Nat → Value) , a = fr 21 (ovl σ [(4, (.int .i64 r))]) ∧ Chg [] w0 w
def s_laws_heldIntS (a_ : List Int) (k : Int) : Option (Int) :=
  (forC (S := Int) (R := Int) (fun k7 s5 =>
  (idx a_ k7).bind fun x11 =>
  (bif (x11 != s5) then some (.rt (-1)) else some (.nx (w64 (s5 + 1))))) 0 (a_.length : Int) k).bind fun o9 => after o9 (fun r_ => some r_) (fun s5 =>
  some s5)
set_option maxHeartbeats 4000000 in
theorem c_laws_heldIntS {M : Nat → Prop} {w : World} {pa0 : Option Addr} {pn0 pc0 : Nat} (a_ : List Int) (k : Int) (h0 : (RT.rs (RT.int .i64)).val M w (.slice pa0 pn0 pc0) a_ ([])) (hM : ∀ g, w.heap.size ≤ g → M g) {r : Int} (hs : s_laws_heldIntS a_ k = some r) :
    Gives Try.prog 37 [(.slice pa0 pn0 pc0), (.int .i64 k)] w (fun v w' => v = (.int .i64 r) ∧ Chg [] w w') := by
  refine calls_fr Try.func37 rfl Try.ntmps37 (Nat.le_of_ble_eq_true rfl) ?_
  have hO := Own.start (N := Nw w []) hM Nw.fut
  have hC := Chg.refl [] w
  unfold s_laws_heldIntS at hs
  refine wp_mono (Q := KPost (k_laws_heldIntS M w r)) ?_ (fun e a w1 h => ?_)
  rotate_left
  · cases e
    case ret =>
      obtain ⟨σ, rfl, hrest⟩ := h
      exact ret1x Try.results37 (res_tmp rfl) ⟨rfl, hrest⟩
    all_goals exact (h : False).elim
  refine c_seq ?_
  refine c_region ?_
  refine pl_val (.int .i64 0) (y_assign rfl) ?_
  refine c_nil ?_
  refine c_seq ?_
  refine c_seq ?_
  refine c_region ?_
  refine pl_val (.int .i64 0) (y_assign rfl) ?_
  refine c_nil ?_
  obtain ⟨o9, hl10, hs⟩ := bind_some hs
  refine wp_block ?_
  refine wp_forC (id := 0) (a_.length : Int) (I := fun k7 s5 a w6 => ∃ (σ : Nat → Value), a = fr 21 (ovl σ [(0, (.slice pa0 pn0 pc0)), (1, (.int .i64 s5)), (5, (.int .i64 k7))]) ∧ Chg [] w w6 ∧ Own (Nw w []) M w6 ([]) ∧ (RT.rs (RT.int .i64)).val M w6 (.slice pa0 pn0 pc0) a_ ([])) (J := fun s5 a w6 => ∃ (σ : Nat → Value), a = fr 21 (ovl σ [(1, (.int .i64 s5))]) ∧ Chg [] w w6 ∧ Own (Nw w []) M w6 ([]) ∧ (RT.rs (RT.int .i64)).val M w6 (.slice pa0 pn0 pc0) a_ ([])) (K := (k_laws_heldIntS M w)) ?_ ?_ 0 k o9 _ _ ?_ hl10 ?_
  · rintro k7 s5 a w6 ⟨σ, rfl, hC, hO, h0⟩ hlt
    refine c_seq ?_
    refine c_seq ?_
    refine c_region ?_
    refine pl_val (.int .i64 k7) (y_move rfl) ?_
    refine pl_val (.slice pa0 pn0 pc0) (y_move rfl) ?_
    refine pl_val (.int .i64 (a_.length : Int)) (y_len' Sl22 (rs_len h0) rfl) ?_
    refine pl_val (.bool (decide (k7 < (a_.length : Int)))) (y_lss rfl rfl) ?_
    refine c_nil ?_
    refine c_condF (congrArg Value.bool (decide_eq_false hlt)) ?_
    refine wp_exit ?_
    exact ⟨rfl, _, fr_ovl 21 ⟨rfl, trivial⟩, hC, hO, h0⟩
  · rintro k7 s5 o9 a w6 ⟨σ, rfl, hC, hO, h0⟩ hlt hw hs
    refine c_seq ?_
    refine c_seq ?_
    refine c_region ?_
    refine pl_val (.int .i64 k7) (y_move rfl) ?_
    refine pl_val (.slice pa0 pn0 pc0) (y_move rfl) ?_
    refine pl_val (.int .i64 (a_.length : Int)) (y_len' Sl22 (rs_len h0) rfl) ?_
    refine pl_val (.bool (decide (k7 < (a_.length : Int)))) (y_lss rfl rfl) ?_
    refine c_nil ?_
    refine c_condT (congrArg Value.bool (decide_eq_true hlt)) ?_
    refine wp_skip ?_
    refine c_seq ?_
    refine wp_block ?_
    refine c_seq ?_
    refine c_seq ?_
    refine c_region ?_
    refine pl_val (.slice pa0 pn0 pc0) (y_move rfl) ?_
    refine pl_val (.int .i64 k7) (y_move rfl) ?_
    obtain ⟨x11, hx11, hs⟩ := bind_some hs
    obtain ⟨b12, o12, hp12, ha12⟩ := rs_idx Sl22 Sz3 h0 hx11
    refine pl_val (.pointer (some ⟨b12, o12, none⟩)) (hp12 _ _ _ _ _ _ _ _ _ rfl rfl) ?_
    refine pl_val (.int .i64 x11) (y_load rfl ((at_load_int Ag3 Sz3 ha12) _ (Chg.refl _ _))) ?_
    refine pl_val (.int .i64 s5) (y_move rfl) ?_
    refine pl_val (.bool (x11 != s5)) (y_neq rfl rfl) ?_
    refine c_nil ?_
    rcases bif_some hs with ⟨hc13, hs⟩ | ⟨hc13, hs⟩
    · skip
      refine c_condT (congrArg Value.bool hc13) ?_
      refine c_seq ?_
      refine c_region ?_
      refine pl_val (.int .i64 (-1)) (y_assign rfl) ?_
      refine c_nil ?_
      refine wp_ret ?_
      cases hs
      exact ⟨_, fr_ovl 21 ⟨rfl, trivial⟩, hC⟩
    · skip
      refine c_condF (congrArg Value.bool hc13) ?_
      refine wp_skip ?_
      refine c_region ?_
      refine pl_val (.int .i64 s5) (y_move rfl) ?_
      refine pl_val (.int .i64 (w64 (s5 + 1))) (y_add rfl rfl) ?_
      refine pl_val (.int .i64 (w64 (s5 + 1))) (y_assign rfl) ?_
      refine c_nil ?_
      refine c_region ?_
      refine pl_val (.int .i64 k7) (y_move rfl) ?_
      refine pl_val (.int .i64 (w64 (k7 + 1))) (y_add rfl rfl) ?_
      refine pl_val (.int .i64 (w64 (k7 + 1))) (y_assign rfl) ?_
      refine c_nil ?_
      cases hs
      exact ⟨_, fr_ovl 21 ⟨rfl, rfl, congrArg (Value.int .i64) hw, trivial⟩, hC, hO, h0⟩
  · skip
    exact ⟨_, fr_ovl 21 ⟨rfl, rfl, rfl, trivial⟩, hC, hO, h0⟩
  · cases o9 with
    | nx _ => exact True.intro
    | rt r_ =>
      have hs := after_rt hs
      intro a1 w1 hK
      cases hs
      exact hK
    | br s5 =>
      have hs := after_br hs
      rintro a1 w6 ⟨σ, rfl, hC, hO, h0⟩
      refine c_seq ?_
      refine c_region ?_
      refine pl_val (.int .i64 s5) (y_move rfl) ?_
      refine pl_val (.int .i64 s5) (y_assign rfl) ?_
      refine c_nil ?_
      refine wp_ret ?_
      cases hs
      exact ⟨_, fr_ovl 21 ⟨rfl, trivial⟩, hC⟩

theorem Bd37 : Bodied Try.prog 37 := bodied Try.func37 (by kernel_rfl) rfl

def k_laws_heldOp (M : Nat → Prop) (w0 : World) (r : Int) (a : Act) (w : World) : Prop :=
  ∃ (σ : Nat → Value) , a = fr 12 (ovl σ [(4, (.int .i64 r))]) ∧ Chg [] w0 w
def s_laws_heldOp (a_ : Int × (List Int)) (k : Int) : Option (Int) :=
  (s_laws_heldIntS a_.2 k).bind fun r4 =>
  (bif (decide (r4 < 0)) then some (-1) else some r4)
set_option maxHeartbeats 4000000 in
theorem c_laws_heldOp {M : Nat → Prop} {w : World} {pa0 : Option Addr} {pn0 pc0 : Nat} (a_ : Int × (List Int)) (k : Int) (h0 : (RT.rs (RT.int .i64)).val M w (.slice pa0 pn0 pc0) a_.2 ([])) (hM : ∀ g, w.heap.size ≤ g → M g) {r : Int} (hs : s_laws_heldOp a_ k = some r) :
    Gives Try.prog 14 [(.agg #[(.int .i64 a_.1), (.slice pa0 pn0 pc0)]), (.int .i64 k)] w (fun v w' => v = (.int .i64 r) ∧ Chg [] w w') := by
  refine calls_fr Try.func14 rfl Try.ntmps14 (Nat.le_of_ble_eq_true rfl) ?_
  have hO := Own.start (N := Nw w []) hM Nw.fut
  have hC := Chg.refl [] w
  unfold s_laws_heldOp at hs
  refine wp_mono (Q := KPost (k_laws_heldOp M w r)) ?_ (fun e a w1 h => ?_)
  rotate_left
  · cases e
    case ret =>
      obtain ⟨σ, rfl, hrest⟩ := h
      exact ret1x Try.results14 (res_tmp rfl) ⟨rfl, hrest⟩
    all_goals exact (h : False).elim
  refine c_seq ?_
  refine c_region ?_
  obtain ⟨w2, g2, ew2, eg2, hC2, hb2⟩ := new_block w [(.int .i64 a_.1), (.slice pa0 pn0 pc0)] 24
  refine pl_val (w' := w2) (.pointer (some ⟨g2, 0, none⟩)) (y_box rfl (by rw [ew2, eg2]; kernel_rfl)) ?_
  have h0 := h0.ext hC2
  have hC := hC.ext hC2
  have hO := hO.new (X' := [g2]) hC2 (fun q hq => by rw [List.mem_singleton.1 hq, eg2]; exact Nat.le_refl _) (List.nodup_cons.2 ⟨(fun h => nomatch h), List.nodup_nil⟩) (fun q hq => by rw [List.mem_singleton.1 hq]; exact hb2.lt)
  refine pl_val (.int .i64 0) (y_assign rfl) ?_
  refine c_nil ?_
  refine c_seq ?_
  refine c_region ?_
  refine pl_val (.pointer (some ⟨g2, 1, none⟩)) (y_faddr rfl Fa24x1) ?_
  refine pl_val (.slice pa0 pn0 pc0) (y_load rfl ((box_load Ag22 Sz22 hb2 [(.int .i64 a_.1)] [(.slice pa0 pn0 pc0)] [] rfl rfl (fun _ => rfl)) _ (Chg.refl _ _))) ?_
  refine pl_val (.int .i64 k) (y_move rfl) ?_
  obtain ⟨r4, hr4, hs⟩ := bind_some hs
  refine pl_call Bd37 rfl (c_laws_heldIntS (M := M) a_.2 k h0 hO.fut hr4) ?_
  rintro _ w3 ⟨rfl, hC3⟩
  have h0 := h0.ext hC3
  have hb2 := hb2.chg hC3 (fun h => nomatch h)
  have hC := hC.ext hC3
  have hO := hO.ext hC3
  refine pl_val (.int .i64 r4) (y_assign rfl) ?_
  refine c_nil ?_
  refine c_seq ?_
  refine c_seq ?_
  refine c_region ?_
  refine pl_val (.int .i64 r4) (y_move rfl) ?_
  refine pl_val (.bool (decide (r4 < 0))) (y_lss rfl rfl) ?_
  refine c_nil ?_
  rcases bif_some hs with ⟨hc5, hs⟩ | ⟨hc5, hs⟩
  · skip
    refine c_condT (congrArg Value.bool hc5) ?_
    refine c_seq ?_
    refine c_region ?_
    refine pl_val (.int .i64 (-1)) (y_assign rfl) ?_
    refine c_nil ?_
    refine wp_ret ?_
    cases hs
    exact ⟨_, fr_ovl 12 ⟨rfl, trivial⟩, hC⟩
  · skip
    refine c_condF (congrArg Value.bool hc5) ?_
    refine wp_skip ?_
    refine c_seq ?_
    refine c_region ?_
    refine pl_val (.int .i64 r4) (y_move rfl) ?_
    refine pl_val (.int .i64 r4) (y_assign rfl) ?_
    refine c_nil ?_
    refine wp_ret ?_
    cases hs
    exact ⟨_, fr_ovl 12 ⟨rfl, trivial⟩, hC⟩

theorem Bd15 : Bodied Try.prog 15 := bodied Try.func15 (by kernel_rfl) rfl

theorem Bd16 : Bodied Try.prog 16 := bodied Try.func16 (by kernel_rfl) rfl

theorem Bd12 : Bodied Try.prog 12 := bodied Try.func12 (by kernel_rfl) rfl

theorem Bd13 : Bodied Try.prog 13 := bodied Try.func13 (by kernel_rfl) rfl

theorem Bd14 : Bodied Try.prog 14 := bodied Try.func14 (by kernel_rfl) rfl

def k_laws_FnExactDiscriminatorOp (M : Nat → Prop) (w0 : World) (r : Bool) (a : Act) (w : World) : Prop :=
  ∃ (σ : Nat → Value) , a = fr 63 (ovl σ [(2, (.bool r))]) ∧ Chg [] w0 w
def s_laws_FnExactDiscriminatorOp (aN : Int) : Option (Bool) :=
  (s_spec_DiscriminatorOp aN).bind fun r2 =>
  (s_impl_DiscriminatorOp aN).bind fun r7 =>
  ((s_laws_eqOp (r7.1.1, r7.1.2) (r2.1.1, r2.1.2)).bind fun r15 =>
  (bif (!r15) then some true else some (!(r7.2 == r2.2)))).bind fun s11 =>
  (bif s11 then some false else (s_laws_markOp (r7.1.1, r7.1.2) 1).bind fun r19 =>
  (s_laws_heldOp (r7.1.1, r19.2) 1).bind fun r21 =>
  (bif (decide (r21 < 0)) then some false else (bif (r21 != r19.1) then some false else (s_impl_DiscriminatorOp aN).bind fun r25 =>
  ((s_laws_eqOp (r25.1.1, r25.1.2) (r2.1.1, r2.1.2)).bind fun r33 =>
  (bif (!r33) then some true else some (!(r25.2 == r2.2)))).bind fun s29 =>
  (bif s29 then some false else (s_laws_heldOp (r7.1.1, r19.2) 1).bind fun r37 =>
  (bif (decide (r37 < 0)) then some false else (bif (r37 != r19.1) then some false else some true))))))
set_option maxHeartbeats 4000000 in
theorem c_laws_FnExactDiscriminatorOp {M : Nat → Prop} {w : World}  (aN : Int)  (hM : ∀ g, w.heap.size ≤ g → M g) {r : Bool} (hs : s_laws_FnExactDiscriminatorOp aN = some r) :
    Gives Try.prog 4 [(.int .i64 aN)] w (fun v w' => v = (.bool r) ∧ Chg [] w w') := by
  refine calls_fr Try.func4 rfl Try.ntmps4 (Nat.le_of_ble_eq_true rfl) ?_
  have hO := Own.start (N := Nw w []) hM Nw.fut
  have hC := Chg.refl [] w
  unfold s_laws_FnExactDiscriminatorOp at hs
  refine wp_mono (Q := KPost (k_laws_FnExactDiscriminatorOp M w r)) ?_ (fun e a w1 h => ?_)
  rotate_left
  · cases e
    case ret =>
      obtain ⟨σ, rfl, hrest⟩ := h
      exact ret1x Try.results4 (res_tmp rfl) ⟨rfl, hrest⟩
    all_goals exact (h : False).elim
  refine c_seq ?_
  refine c_region ?_
  refine pl_val (.bool false) (y_assign rfl) ?_
  refine c_nil ?_
  refine c_seq ?_
  refine c_region ?_
  refine pl_val (.int .i64 aN) (y_move rfl) ?_
  obtain ⟨r2, hr2, hs⟩ := bind_some hs
  refine pl_call Bd15 rfl (c_spec_DiscriminatorOp (M := M) aN  hO.fut hr2) ?_
  rintro _ w1 ⟨a1x0, n1x0, c1x0, f1x0, rfl, hC1, hv1x0, hfr1x0⟩
  have hC := hC.ext hC1
  have hO := hO.new hC1 hfr1x0 (os_nodup hv1x0) hv1x0.fpl
  refine pl_val (.tuple #[(.agg #[(.int .i64 r2.1.1), (.slice a1x0 n1x0 c1x0)]), (.bool r2.2)]) (y_move rfl) ?_
  refine pl_val (.agg #[(.int .i64 r2.1.1), (.slice a1x0 n1x0 c1x0)]) (y_extract rfl (by kernel_rfl)) ?_
  refine pl_val (.bool r2.2) (y_extract rfl (by kernel_rfl)) ?_
  obtain ⟨w4, g4, ew4, eg4, hC4, hb4⟩ := new_block w1 [(.int .i64 0), (.slice none 0 0)] 24
  refine pl_val (w' := w4) (.pointer (some ⟨g4, 0, none⟩)) (y_alloc (by rw [ew4, eg4]; kernel_rfl)) ?_
  have hv1x0 := hv1x0.ext hC4
  have hC := hC.ext hC4
  have hO := hO.new (X' := [g4]) hC4 (fun q hq => by rw [List.mem_singleton.1 hq, eg4]; exact Nat.le_refl _) (List.nodup_cons.2 ⟨(fun h => nomatch h), List.nodup_nil⟩) (fun q hq => by rw [List.mem_singleton.1 hq]; exact hb4.lt)
  obtain ⟨w5, hst5, hC5, hb5⟩ := box_store (P := Try.prog) hb4 [] [(.int .i64 0), (.slice none 0 0)] [] [(.int .i64 r2.1.1), (.slice a1x0 n1x0 c1x0)] rfl rfl (by intro u hu; simp only [List.mem_cons, List.not_mem_nil, or_false] at hu; rcases hu with rfl | rfl <;> rfl)
  refine pl_skip (w' := w5) (ys_store rfl rfl (hst5 _ _ rfl Sz24)) ?_
  have hv1x0 := hv1x0.mut hC5 (fun g hg => hO.inM g ((fun _ h => h) g hg)) (fun g hg e => hO.apart g ((fun _ h => h) g hg) (mem_l (e)))
  have hC := hC.step hC5 (fun g hg => hO.inN g ((fun _ h => h) g hg))
  have hO := hO.ext hC5
  have hb5 : BoxV w5 g4 24 [(.int .i64 r2.1.1), (.slice a1x0 n1x0 c1x0)] := hb5
  refine pl_val (.bool r2.2) (y_assign rfl) ?_
  refine c_nil ?_
  refine c_seq ?_
  refine c_region ?_
  refine pl_val (.int .i64 aN) (y_move rfl) ?_
  obtain ⟨r7, hr7, hs⟩ := bind_some hs
  refine pl_call Bd16 rfl (c_impl_DiscriminatorOp (M := M) aN  hO.fut hr7) ?_
  rintro _ w6 ⟨a6x0, n6x0, c6x0, f6x0, rfl, hC6, hv6x0, hfr6x0⟩
  have hv1x0 := hv1x0.ext hC6
  have hb5 := hb5.chg hC6 (fun h => nomatch h)
  have hC := hC.ext hC6
  have hO := hO.new hC6 hfr6x0 (os_nodup hv6x0) hv6x0.fpl
  refine pl_val (.tuple #[(.agg #[(.int .i64 r7.1.1), (.slice a6x0 n6x0 c6x0)]), (.bool r7.2)]) (y_move rfl) ?_
  refine pl_val (.agg #[(.int .i64 r7.1.1), (.slice a6x0 n6x0 c6x0)]) (y_extract rfl (by kernel_rfl)) ?_
  refine pl_val (.bool r7.2) (y_extract rfl (by kernel_rfl)) ?_
  obtain ⟨w9, g9, ew9, eg9, hC9, hb9⟩ := new_block w6 [(.int .i64 0), (.slice none 0 0)] 24
  refine pl_val (w' := w9) (.pointer (some ⟨g9, 0, none⟩)) (y_alloc (by rw [ew9, eg9]; kernel_rfl)) ?_
  have hv1x0 := hv1x0.ext hC9
  have hb5 := hb5.chg hC9 (fun h => nomatch h)
  have hv6x0 := hv6x0.ext hC9
  have hC := hC.ext hC9
  have hO := hO.new (X' := [g9]) hC9 (fun q hq => by rw [List.mem_singleton.1 hq, eg9]; exact Nat.le_refl _) (List.nodup_cons.2 ⟨(fun h => nomatch h), List.nodup_nil⟩) (fun q hq => by rw [List.mem_singleton.1 hq]; exact hb9.lt)
  obtain ⟨w10, hst10, hC10, hb10⟩ := box_store (P := Try.prog) hb9 [] [(.int .i64 0), (.slice none 0 0)] [] [(.int .i64 r7.1.1), (.slice a6x0 n6x0 c6x0)] rfl rfl (by intro u hu; simp only [List.mem_cons, List.not_mem_nil, or_false] at hu; rcases hu with rfl | rfl <;> rfl)
  refine pl_skip (w' := w10) (ys_store rfl rfl (hst10 _ _ rfl Sz24)) ?_
  have hv1x0 := hv1x0.mut hC10 (fun g hg => hO.inM g ((fun _ h => h) g hg)) (fun g hg e => hO.apart g ((fun _ h => h) g hg) (mem_r (mem_r (mem_l (e)))))
  have hb5 := hb5.chg hC10 (fun hg => hO.apart _ ((fun _ h => h) _ hg) (mem_r (mem_l (List.mem_singleton.2 rfl))))
  have hv6x0 := hv6x0.mut hC10 (fun g hg => hO.inM g ((fun _ h => h) g hg)) (fun g hg e => hO.apart g ((fun _ h => h) g hg) (mem_l (e)))
  have hC := hC.step hC10 (fun g hg => hO.inN g ((fun _ h => h) g hg))
  have hO := hO.ext hC10
  have hb10 : BoxV w10 g9 24 [(.int .i64 r7.1.1), (.slice a6x0 n6x0 c6x0)] := hb10
  refine pl_val (.bool r7.2) (y_assign rfl) ?_
  refine c_nil ?_
  refine c_seq ?_
  refine c_seq ?_
  obtain ⟨s11, hm13, hs⟩ := bind_some hs
  refine c_mid (I := fun a w12 => ∃ (σ : Nat → Value), a = fr 63 (ovl σ [(0, (.int .i64 aN)), (2, (.bool false)), (3, (.pointer (some ⟨g4, 0, none⟩))), (4, (.bool r2.2)), (5, (.pointer (some ⟨g9, 0, none⟩))), (29, (.bool s11))]) ∧ Chg [] w10 w12) ?_ ?_
  · replace hs := hm13
    have hMid := Chg.refl [] w10
    refine c_region ?_
    refine pl_val (.agg #[(.int .i64 r7.1.1), (.slice a6x0 n6x0 c6x0)]) (y_load rfl ((box_load Ag24 Sz24 hb10 [] [(.int .i64 r7.1.1), (.slice a6x0 n6x0 c6x0)] [] rfl rfl (fun h => nomatch h)) _ (Chg.refl _ _))) ?_
    refine pl_val (.agg #[(.int .i64 r2.1.1), (.slice a1x0 n1x0 c1x0)]) (y_load rfl ((box_load Ag24 Sz24 hb5 [] [(.int .i64 r2.1.1), (.slice a1x0 n1x0 c1x0)] [] rfl rfl (fun h => nomatch h)) _ (Chg.refl _ _))) ?_
    have hO := hO.fr3
    have hO := hO.fr2
    obtain ⟨r15, hr15, hs⟩ := bind_some hs
    refine pl_call Bd12 rfl (c_laws_eqOp (M := (Less (Less M f6x0) f1x0)) (r7.1.1, r7.1.2) (r2.1.1, r2.1.2) ((((Frz.os Frz.int)).val hv6x0 Less.sub Less.not).sub Less.sub) (((Frz.os Frz.int)).val (hv1x0.sub Less.sub) Less.sub Less.not) (hO.less).less.fut hr15) ?_
    rintro _ w14 ⟨rfl, hC14⟩
    have hv1x0 := hv1x0.ext hC14
    have hb5 := hb5.chg hC14 (fun h => nomatch h)
    have hv6x0 := hv6x0.ext hC14
    have hb10 := hb10.chg hC14 (fun h => nomatch h)
    have hMid := hMid.ext hC14
    have hC := hC.ext hC14
    have hO := hO.ext hC14
    refine pl_val (.bool (!r15)) (y_not rfl) ?_
    refine pl_val (.bool (!r15)) (y_move rfl) ?_
    rcases bif_some hs with ⟨hc16, hs⟩ | ⟨hc16, hs⟩
    · skip
      refine pl_not (tg := 25) (by kernel_rfl) (congrArg Value.bool hc16) ?_
      refine pl_not (tg := 25) (by kernel_rfl) (congrArg Value.bool hc16) ?_
      refine pl_not (tg := 25) (by kernel_rfl) (congrArg Value.bool hc16) ?_
      refine pl_val (.bool true) (y_pick_t (congrArg Value.bool hc16) rfl) ?_
      refine c_nil ?_
      cases hs
      exact ⟨_, fr_ovl 63 ⟨rfl, rfl, rfl, rfl, rfl, rfl, trivial⟩, hMid⟩
    · skip
      refine pl_yes (.bool r7.2) (tg := 25) (by kernel_rfl) (congrArg Value.bool hc16) (y_move rfl) ?_
      refine pl_yes (.bool r2.2) (tg := 25) (by kernel_rfl) (congrArg Value.bool hc16) (y_move rfl) ?_
      refine pl_yes (.bool (!(r7.2 == r2.2))) (tg := 25) (by kernel_rfl) (congrArg Value.bool hc16) (y_bneq Try.underlying4 rfl rfl) ?_
      refine pl_val (.bool (!(r7.2 == r2.2))) (y_pick_f (congrArg Value.bool hc16) rfl) ?_
      refine c_nil ?_
      cases hs
      exact ⟨_, fr_ovl 63 ⟨rfl, rfl, rfl, rfl, rfl, rfl, trivial⟩, hMid⟩
  · rintro a1 w12 ⟨σ, rfl, hCs11⟩
    have hv1x0 := hv1x0.ext hCs11
    have hb5 := hb5.chg hCs11 (fun h => nomatch h)
    have hv6x0 := hv6x0.ext hCs11
    have hb10 := hb10.chg hCs11 (fun h => nomatch h)
    have hC := hC.ext hCs11
    have hO := hO.ext hCs11
    rcases bif_some hs with ⟨hc17, hs⟩ | ⟨hc17, hs⟩
    · skip
      refine c_condT (congrArg Value.bool hc17) ?_
      refine c_seq ?_
      refine c_region ?_
      refine pl_val (.bool false) (y_assign rfl) ?_
      refine c_nil ?_
      refine wp_ret ?_
      cases hs
      exact ⟨_, fr_ovl 63 ⟨rfl, trivial⟩, hC⟩
    · skip
      refine c_condF (congrArg Value.bool hc17) ?_
      refine wp_skip ?_
      refine c_seq ?_
      refine c_region ?_
      refine pl_val (.int .i64 1) (y_assign rfl) ?_
      refine c_nil ?_
      refine c_seq ?_
      refine c_region ?_
      refine pl_val (.agg #[(.int .i64 r7.1.1), (.slice a6x0 n6x0 c6x0)]) (y_load rfl ((box_load Ag24 Sz24 hb10 [] [(.int .i64 r7.1.1), (.slice a6x0 n6x0 c6x0)] [] rfl rfl (fun h => nomatch h)) _ (Chg.refl _ _))) ?_
      refine pl_val (.int .i64 1) (y_move rfl) ?_
      have hO := hO.fr1
      obtain ⟨r19, hr19, hs⟩ := bind_some hs
      refine pl_call Bd13 rfl (c_laws_markOp (M := M) (r7.1.1, r7.1.2) 1 hv6x0 hO.inM hO.fut hr19) ?_
      rintro _ w18 ⟨fi18, rfl, hC18, hvi18, hfi18⟩
      have hv1x0 := hv1x0.mut hC18 (fun g hg => hO.inM g ((fun _ h => h) g hg)) (fun g hg e => hO.apart g ((fun _ h => h) g hg) (mem_r (mem_r (mem_l (e)))))
      have hb5 := hb5.chg hC18 (fun hg => hO.apart _ ((fun _ h => h) _ hg) (mem_r (mem_l (List.mem_singleton.2 rfl))))
      have hb10 := hb10.chg hC18 (fun hg => hO.apart _ ((fun _ h => h) _ hg) (mem_l (List.mem_singleton.2 rfl)))
      have hC := hC.step hC18 (fun g hg => hO.inN g ((fun _ h => h) g hg))
      have hO := hO.grow hC18 (fun q hq => .inl (hfi18 q hq)) (os_nodup hvi18) hvi18.fpl
      refine pl_val (.int .i64 r19.1) (y_assign rfl) ?_
      refine c_nil ?_
      refine c_seq ?_
      refine c_region ?_
      refine pl_val (.int .i64 1) (y_assign rfl) ?_
      refine c_nil ?_
      refine c_seq ?_
      refine c_region ?_
      refine pl_val (.agg #[(.int .i64 r7.1.1), (.slice a6x0 n6x0 c6x0)]) (y_load rfl ((box_load Ag24 Sz24 hb10 [] [(.int .i64 r7.1.1), (.slice a6x0 n6x0 c6x0)] [] rfl rfl (fun h => nomatch h)) _ (Chg.refl _ _))) ?_
      refine pl_val (.int .i64 1) (y_move rfl) ?_
      obtain ⟨r21, hr21, hs⟩ := bind_some hs
      refine pl_call Bd14 rfl (c_laws_heldOp (M := (Less M fi18)) (r7.1.1, r19.2) 1 (((Frz.os Frz.int)).val hvi18 Less.sub Less.not) hO.less.fut hr21) ?_
      rintro _ w20 ⟨rfl, hC20⟩
      have hv1x0 := hv1x0.ext hC20
      have hb5 := hb5.chg hC20 (fun h => nomatch h)
      have hvi18 := hvi18.ext hC20
      have hb10 := hb10.chg hC20 (fun h => nomatch h)
      have hC := hC.ext hC20
      have hO := hO.ext hC20
      refine pl_val (.int .i64 r21) (y_assign rfl) ?_
      refine c_nil ?_
      refine c_seq ?_
      refine c_seq ?_
      refine c_region ?_
      refine pl_val (.int .i64 r21) (y_move rfl) ?_
      refine pl_val (.bool (decide (r21 < 0))) (y_lss rfl rfl) ?_
      refine c_nil ?_
      rcases bif_some hs with ⟨hc22, hs⟩ | ⟨hc22, hs⟩
      · skip
        refine c_condT (congrArg Value.bool hc22) ?_
        refine c_seq ?_
        refine c_region ?_
        refine pl_val (.bool false) (y_assign rfl) ?_
        refine c_nil ?_
        refine wp_ret ?_
        cases hs
        exact ⟨_, fr_ovl 63 ⟨rfl, trivial⟩, hC⟩
      · skip
        refine c_condF (congrArg Value.bool hc22) ?_
        refine wp_skip ?_
        refine c_seq ?_
        refine c_seq ?_
        refine c_region ?_
        refine pl_val (.int .i64 r21) (y_move rfl) ?_
        refine pl_val (.int .i64 r19.1) (y_move rfl) ?_
        refine pl_val (.bool (r21 != r19.1)) (y_neq rfl rfl) ?_
        refine c_nil ?_
        rcases bif_some hs with ⟨hc23, hs⟩ | ⟨hc23, hs⟩
        · skip
          refine c_condT (congrArg Value.bool hc23) ?_
          refine c_seq ?_
          refine c_region ?_
          refine pl_val (.bool false) (y_assign rfl) ?_
          refine c_nil ?_
          refine wp_ret ?_
          cases hs
          exact ⟨_, fr_ovl 63 ⟨rfl, trivial⟩, hC⟩
        · skip
          refine c_condF (congrArg Value.bool hc23) ?_
          refine wp_skip ?_
          refine c_seq ?_
          refine c_region ?_
          refine pl_val (.int .i64 aN) (y_move rfl) ?_
          obtain ⟨r25, hr25, hs⟩ := bind_some hs
          refine pl_call Bd16 rfl (c_impl_DiscriminatorOp (M := M) aN  hO.fut hr25) ?_
          rintro _ w24 ⟨a24x0, n24x0, c24x0, f24x0, rfl, hC24, hv24x0, hfr24x0⟩
          have hv1x0 := hv1x0.ext hC24
          have hb5 := hb5.chg hC24 (fun h => nomatch h)
          have hvi18 := hvi18.ext hC24
          have hb10 := hb10.chg hC24 (fun h => nomatch h)
          have hC := hC.ext hC24
          have hO := hO.new hC24 hfr24x0 (os_nodup hv24x0) hv24x0.fpl
          refine pl_val (.tuple #[(.agg #[(.int .i64 r25.1.1), (.slice a24x0 n24x0 c24x0)]), (.bool r25.2)]) (y_move rfl) ?_
          refine pl_val (.agg #[(.int .i64 r25.1.1), (.slice a24x0 n24x0 c24x0)]) (y_extract rfl (by kernel_rfl)) ?_
          refine pl_val (.bool r25.2) (y_extract rfl (by kernel_rfl)) ?_
          obtain ⟨w27, g27, ew27, eg27, hC27, hb27⟩ := new_block w24 [(.int .i64 0), (.slice none 0 0)] 24
          refine pl_val (w' := w27) (.pointer (some ⟨g27, 0, none⟩)) (y_alloc (by rw [ew27, eg27]; kernel_rfl)) ?_
          have hv1x0 := hv1x0.ext hC27
          have hb5 := hb5.chg hC27 (fun h => nomatch h)
          have hvi18 := hvi18.ext hC27
          have hb10 := hb10.chg hC27 (fun h => nomatch h)
          have hv24x0 := hv24x0.ext hC27
          have hC := hC.ext hC27
          have hO := hO.new (X' := [g27]) hC27 (fun q hq => by rw [List.mem_singleton.1 hq, eg27]; exact Nat.le_refl _) (List.nodup_cons.2 ⟨(fun h => nomatch h), List.nodup_nil⟩) (fun q hq => by rw [List.mem_singleton.1 hq]; exact hb27.lt)
          obtain ⟨w28, hst28, hC28, hb28⟩ := box_store (P := Try.prog) hb27 [] [(.int .i64 0), (.slice none 0 0)] [] [(.int .i64 r25.1.1), (.slice a24x0 n24x0 c24x0)] rfl rfl (by intro u hu; simp only [List.mem_cons, List.not_mem_nil, or_false] at hu; rcases hu with rfl | rfl <;> rfl)
          refine pl_skip (w' := w28) (ys_store rfl rfl (hst28 _ _ rfl Sz24)) ?_
          have hv1x0 := hv1x0.mut hC28 (fun g hg => hO.inM g ((fun _ h => h) g hg)) (fun g hg e => hO.apart g ((fun _ h => h) g hg) (mem_r (mem_r (mem_r (mem_r (mem_l (e)))))))
          have hb5 := hb5.chg hC28 (fun hg => hO.apart _ ((fun _ h => h) _ hg) (mem_r (mem_r (mem_r (mem_l (List.mem_singleton.2 rfl))))))
          have hvi18 := hvi18.mut hC28 (fun g hg => hO.inM g ((fun _ h => h) g hg)) (fun g hg e => hO.apart g ((fun _ h => h) g hg) (mem_r (mem_l (e))))
          have hb10 := hb10.chg hC28 (fun hg => hO.apart _ ((fun _ h => h) _ hg) (mem_r (mem_r (mem_l (List.mem_singleton.2 rfl)))))
          have hv24x0 := hv24x0.mut hC28 (fun g hg => hO.inM g ((fun _ h => h) g hg)) (fun g hg e => hO.apart g ((fun _ h => h) g hg) (mem_l (e)))
          have hC := hC.step hC28 (fun g hg => hO.inN g ((fun _ h => h) g hg))
          have hO := hO.ext hC28
          have hb28 : BoxV w28 g27 24 [(.int .i64 r25.1.1), (.slice a24x0 n24x0 c24x0)] := hb28
          refine pl_val (.bool r25.2) (y_assign rfl) ?_
          refine c_nil ?_
          refine c_seq ?_
          refine c_seq ?_
          obtain ⟨s29, hm31, hs⟩ := bind_some hs
          refine c_mid (I := fun a w30 => ∃ (σ : Nat → Value), a = fr 63 (ovl σ [(2, (.bool false)), (5, (.pointer (some ⟨g9, 0, none⟩))), (7, (.int .i64 r19.1)), (8, (.int .i64 r21)), (54, (.bool s29))]) ∧ Chg [] w28 w30) ?_ ?_
          · replace hs := hm31
            have hMid := Chg.refl [] w28
            refine c_region ?_
            refine pl_val (.agg #[(.int .i64 r25.1.1), (.slice a24x0 n24x0 c24x0)]) (y_load rfl ((box_load Ag24 Sz24 hb28 [] [(.int .i64 r25.1.1), (.slice a24x0 n24x0 c24x0)] [] rfl rfl (fun h => nomatch h)) _ (Chg.refl _ _))) ?_
            refine pl_val (.agg #[(.int .i64 r2.1.1), (.slice a1x0 n1x0 c1x0)]) (y_load rfl ((box_load Ag24 Sz24 hb5 [] [(.int .i64 r2.1.1), (.slice a1x0 n1x0 c1x0)] [] rfl rfl (fun h => nomatch h)) _ (Chg.refl _ _))) ?_
            have hO := hO.fr5
            have hO := hO.fr2
            obtain ⟨r33, hr33, hs⟩ := bind_some hs
            refine pl_call Bd12 rfl (c_laws_eqOp (M := (Less (Less M f24x0) f1x0)) (r25.1.1, r25.1.2) (r2.1.1, r2.1.2) ((((Frz.os Frz.int)).val hv24x0 Less.sub Less.not).sub Less.sub) (((Frz.os Frz.int)).val (hv1x0.sub Less.sub) Less.sub Less.not) (hO.less).less.fut hr33) ?_
            rintro _ w32 ⟨rfl, hC32⟩
            have hv1x0 := hv1x0.ext hC32
            have hb5 := hb5.chg hC32 (fun h => nomatch h)
            have hvi18 := hvi18.ext hC32
            have hb10 := hb10.chg hC32 (fun h => nomatch h)
            have hv24x0 := hv24x0.ext hC32
            have hb28 := hb28.chg hC32 (fun h => nomatch h)
            have hMid := hMid.ext hC32
            have hC := hC.ext hC32
            have hO := hO.ext hC32
            refine pl_val (.bool (!r33)) (y_not rfl) ?_
            refine pl_val (.bool (!r33)) (y_move rfl) ?_
            rcases bif_some hs with ⟨hc34, hs⟩ | ⟨hc34, hs⟩
            · skip
              refine pl_not (tg := 50) (by kernel_rfl) (congrArg Value.bool hc34) ?_
              refine pl_not (tg := 50) (by kernel_rfl) (congrArg Value.bool hc34) ?_
              refine pl_not (tg := 50) (by kernel_rfl) (congrArg Value.bool hc34) ?_
              refine pl_val (.bool true) (y_pick_t (congrArg Value.bool hc34) rfl) ?_
              refine c_nil ?_
              cases hs
              exact ⟨_, fr_ovl 63 ⟨rfl, rfl, rfl, rfl, rfl, trivial⟩, hMid⟩
            · skip
              refine pl_yes (.bool r25.2) (tg := 50) (by kernel_rfl) (congrArg Value.bool hc34) (y_move rfl) ?_
              refine pl_yes (.bool r2.2) (tg := 50) (by kernel_rfl) (congrArg Value.bool hc34) (y_move rfl) ?_
              refine pl_yes (.bool (!(r25.2 == r2.2))) (tg := 50) (by kernel_rfl) (congrArg Value.bool hc34) (y_bneq Try.underlying4 rfl rfl) ?_
              refine pl_val (.bool (!(r25.2 == r2.2))) (y_pick_f (congrArg Value.bool hc34) rfl) ?_
              refine c_nil ?_
              cases hs
              exact ⟨_, fr_ovl 63 ⟨rfl, rfl, rfl, rfl, rfl, trivial⟩, hMid⟩
          · rintro a1 w30 ⟨σ, rfl, hCs29⟩
            have hv1x0 := hv1x0.ext hCs29
            have hb5 := hb5.chg hCs29 (fun h => nomatch h)
            have hvi18 := hvi18.ext hCs29
            have hb10 := hb10.chg hCs29 (fun h => nomatch h)
            have hv24x0 := hv24x0.ext hCs29
            have hb28 := hb28.chg hCs29 (fun h => nomatch h)
            have hC := hC.ext hCs29
            have hO := hO.ext hCs29
            rcases bif_some hs with ⟨hc35, hs⟩ | ⟨hc35, hs⟩
            · skip
              refine c_condT (congrArg Value.bool hc35) ?_
              refine c_seq ?_
              refine c_region ?_
              refine pl_val (.bool false) (y_assign rfl) ?_
              refine c_nil ?_
              refine wp_ret ?_
              cases hs
              exact ⟨_, fr_ovl 63 ⟨rfl, trivial⟩, hC⟩
            · skip
              refine c_condF (congrArg Value.bool hc35) ?_
              refine wp_skip ?_
              refine c_seq ?_
              refine c_region ?_
              refine pl_val (.int .i64 1) (y_assign rfl) ?_
              refine c_nil ?_
              refine c_seq ?_
              refine c_region ?_
              refine pl_val (.agg #[(.int .i64 r7.1.1), (.slice a6x0 n6x0 c6x0)]) (y_load rfl ((box_load Ag24 Sz24 hb10 [] [(.int .i64 r7.1.1), (.slice a6x0 n6x0 c6x0)] [] rfl rfl (fun h => nomatch h)) _ (Chg.refl _ _))) ?_
              refine pl_val (.int .i64 1) (y_move rfl) ?_
              have hO := hO.fr2
              obtain ⟨r37, hr37, hs⟩ := bind_some hs
              refine pl_call Bd14 rfl (c_laws_heldOp (M := (Less M fi18)) (r7.1.1, r19.2) 1 (((Frz.os Frz.int)).val hvi18 Less.sub Less.not) hO.less.fut hr37) ?_
              rintro _ w36 ⟨rfl, hC36⟩
              have hv1x0 := hv1x0.ext hC36
              have hb5 := hb5.chg hC36 (fun h => nomatch h)
              have hvi18 := hvi18.ext hC36
              have hb10 := hb10.chg hC36 (fun h => nomatch h)
              have hv24x0 := hv24x0.ext hC36
              have hb28 := hb28.chg hC36 (fun h => nomatch h)
              have hC := hC.ext hC36
              have hO := hO.ext hC36
              refine pl_val (.int .i64 r37) (y_assign rfl) ?_
              refine c_nil ?_
              refine c_seq ?_
              refine c_seq ?_
              refine c_region ?_
              refine pl_val (.int .i64 r37) (y_move rfl) ?_
              refine pl_val (.bool (decide (r37 < 0))) (y_lss rfl rfl) ?_
              refine c_nil ?_
              rcases bif_some hs with ⟨hc38, hs⟩ | ⟨hc38, hs⟩
              · skip
                refine c_condT (congrArg Value.bool hc38) ?_
                refine c_seq ?_
                refine c_region ?_
                refine pl_val (.bool false) (y_assign rfl) ?_
                refine c_nil ?_
                refine wp_ret ?_
                cases hs
                exact ⟨_, fr_ovl 63 ⟨rfl, trivial⟩, hC⟩
              · skip
                refine c_condF (congrArg Value.bool hc38) ?_
                refine wp_skip ?_
                refine c_seq ?_
                refine c_seq ?_
                refine c_region ?_
                refine pl_val (.int .i64 r37) (y_move rfl) ?_
                refine pl_val (.int .i64 r19.1) (y_move rfl) ?_
                refine pl_val (.bool (r37 != r19.1)) (y_neq rfl rfl) ?_
                refine c_nil ?_
                rcases bif_some hs with ⟨hc39, hs⟩ | ⟨hc39, hs⟩
                · skip
                  refine c_condT (congrArg Value.bool hc39) ?_
                  refine c_seq ?_
                  refine c_region ?_
                  refine pl_val (.bool false) (y_assign rfl) ?_
                  refine c_nil ?_
                  refine wp_ret ?_
                  cases hs
                  exact ⟨_, fr_ovl 63 ⟨rfl, trivial⟩, hC⟩
                · skip
                  refine c_condF (congrArg Value.bool hc39) ?_
                  refine wp_skip ?_
                  refine c_seq ?_
                  refine c_region ?_
                  refine pl_val (.bool true) (y_assign rfl) ?_
                  refine c_nil ?_
                  refine wp_ret ?_
                  cases hs
                  exact ⟨_, fr_ovl 63 ⟨rfl, trivial⟩, hC⟩

end Go.Proofs
