/- What functions of the program compute, as plain functions, and that a call gives just that. Conditions: those named in each theorem. -/
import Derived.Test.YtlflgcnolmojfaaGY2
import Derived.Test.YtlflgcnolmojfaaRows
set_option linter.unusedVariables false
namespace Go.Proofs
open Go.G Go.RowKit
set_option maxRecDepth 100000

theorem Sl22 : SlT Try.prog 22 3 := Try.underlying22

def k_laws_szIntS (M : Nat → Prop) (w0 : World) (r : Int) (a : Act) (w : World) : Prop :=
  ∃ (σ : Nat → Value) , a = fr 12 (ovl σ [(4, (.int .i64 r))]) ∧ Chg [] w0 w
def s_laws_szIntS (a_ : List Int) (left : Int) : Option (Int) :=
  (bif (decide ((w64 (left - (a_.length : Int))) < 0)) then some (-1) else some (w64 (left - (a_.length : Int))))
set_option maxHeartbeats 4000000 in
theorem c_laws_szIntS {M : Nat → Prop} {w : World} {pa0 : Option Addr} {pn0 pc0 : Nat} (a_ : List Int) (left : Int) (h0 : (RT.rs (RT.int .i64)).val M w (.slice pa0 pn0 pc0) a_ ([])) (hM : ∀ g, w.heap.size ≤ g → M g) {r : Int} (hs : s_laws_szIntS a_ left = some r) :
    Gives Try.prog 39 [(.slice pa0 pn0 pc0), (.int .i64 left)] w (fun v w' => v = (.int .i64 r) ∧ Chg [] w w') := by
  refine calls_fr Try.func39 rfl Try.ntmps39 (Nat.le_of_ble_eq_true rfl) ?_
  have hO := Own.start (N := Nw w []) hM Nw.fut
  have hC := Chg.refl [] w
  unfold s_laws_szIntS at hs
  refine wp_mono (Q := KPost (k_laws_szIntS M w r)) ?_ (fun e a w1 h => ?_)
  rotate_left
  · cases e
    case ret =>
      obtain ⟨σ, rfl, hrest⟩ := h
      exact ret1x Try.results39 (res_tmp rfl) ⟨rfl, hrest⟩
    all_goals exact (h : False).elim
  refine c_seq ?_
  refine c_region ?_
  refine pl_val (.int .i64 0) (y_assign rfl) ?_
  refine c_nil ?_
  refine c_seq ?_
  refine c_region ?_
  refine pl_val (.int .i64 left) (y_move rfl) ?_
  refine pl_val (.slice pa0 pn0 pc0) (y_move rfl) ?_
  refine pl_val (.int .i64 (a_.length : Int)) (y_len' Sl22 (rs_len h0) rfl) ?_
  refine pl_val (.int .i64 (w64 (left - (a_.length : Int)))) (y_sub rfl rfl) ?_
  refine pl_val (.int .i64 (w64 (left - (a_.length : Int)))) (y_assign rfl) ?_
  refine c_nil ?_
  refine c_seq ?_
  refine c_seq ?_
  refine c_region ?_
  refine pl_val (.int .i64 (w64 (left - (a_.length : Int)))) (y_move rfl) ?_
  refine pl_val (.bool (decide ((w64 (left - (a_.length : Int))) < 0))) (y_lss rfl rfl) ?_
  refine c_nil ?_
  rcases bif_some hs with ⟨hc2, hs⟩ | ⟨hc2, hs⟩
  · skip
    refine c_condT (congrArg Value.bool hc2) ?_
    refine c_seq ?_
    refine c_region ?_
    refine pl_val (.int .i64 (-1)) (y_assign rfl) ?_
    refine c_nil ?_
    refine wp_ret ?_
    cases hs
    exact ⟨_, fr_ovl 12 ⟨rfl, trivial⟩, hC⟩
  · skip
    refine c_condF (congrArg Value.bool hc2) ?_
    refine wp_skip ?_
    refine c_seq ?_
    refine c_region ?_
    refine pl_val (.int .i64 (w64 (left - (a_.length : Int)))) (y_move rfl) ?_
    refine pl_val (.int .i64 (w64 (left - (a_.length : Int)))) (y_assign rfl) ?_
    refine c_nil ?_
    refine wp_ret ?_
    cases hs
    exact ⟨_, fr_ovl 12 ⟨rfl, trivial⟩, hC⟩

theorem Fa30x1 : ∀ (a : Addr) (w : World), (Instr.fieldAt 30 (.pointer (some a)) 1).run Try.prog w = .ok (.pointer (some (a.add 1))) w := fun _ _ => by kernel_rfl

theorem Ag22 : AggT Try.prog 22 false := fun _ => by kernel_rfl

theorem Sz22 : SzT Try.prog 22 1 := ⟨_, rfl, rfl⟩

theorem Bd39 : Bodied Try.prog 39 := bodied Try.func39 (by kernel_rfl) rfl

def k_laws_szOp (M : Nat → Prop) (w0 : World) (r : Int) (a : Act) (w : World) : Prop :=
  ∃ (σ : Nat → Value) , a = fr 12 (ovl σ [(4, (.int .i64 r))]) ∧ Chg [] w0 w
def s_laws_szOp (a_ : Int × (List Int)) (left : Int) : Option (Int) :=
  (s_laws_szIntS a_.2 left).bind fun r4 =>
  (bif (decide (r4 < 0)) then some (-1) else some r4)
set_option maxHeartbeats 4000000 in
theorem c_laws_szOp {M : Nat → Prop} {w : World} {pa0 : Option Addr} {pn0 pc0 : Nat} (a_ : Int × (List Int)) (left : Int) (h0 : (RT.rs (RT.int .i64)).val M w (.slice pa0 pn0 pc0) a_.2 ([])) (hM : ∀ g, w.heap.size ≤ g → M g) {r : Int} (hs : s_laws_szOp a_ left = some r) :
    Gives Try.prog 17 [(.agg #[(.int .i64 a_.1), (.slice pa0 pn0 pc0)]), (.int .i64 left)] w (fun v w' => v = (.int .i64 r) ∧ Chg [] w w') := by
  refine calls_fr Try.func17 rfl Try.ntmps17 (Nat.le_of_ble_eq_true rfl) ?_
  have hO := Own.start (N := Nw w []) hM Nw.fut
  have hC := Chg.refl [] w
  unfold s_laws_szOp at hs
  refine wp_mono (Q := KPost (k_laws_szOp M w r)) ?_ (fun e a w1 h => ?_)
  rotate_left
  · cases e
    case ret =>
      obtain ⟨σ, rfl, hrest⟩ := h
      exact ret1x Try.results17 (res_tmp rfl) ⟨rfl, hrest⟩
    all_goals exact (h : False).elim
  refine c_seq ?_
  refine c_region ?_
  obtain ⟨w2, g2, ew2, eg2, hC2, hb2⟩ := new_block w [(.int .i64 a_.1), (.slice pa0 pn0 pc0)] 30
  refine pl_val (w' := w2) (.pointer (some ⟨g2, 0, none⟩)) (y_box rfl (by rw [ew2, eg2]; kernel_rfl)) ?_
  have h0 := h0.ext hC2
  have hC := hC.ext hC2
  have hO := hO.new (X' := [g2]) hC2 (fun q hq => by rw [List.mem_singleton.1 hq, eg2]; exact Nat.le_refl _) (List.nodup_cons.2 ⟨(fun h => nomatch h), List.nodup_nil⟩) (fun q hq => by rw [List.mem_singleton.1 hq]; exact hb2.lt)
  refine pl_val (.int .i64 0) (y_assign rfl) ?_
  refine c_nil ?_
  refine c_seq ?_
  refine c_region ?_
  refine pl_val (.pointer (some ⟨g2, 1, none⟩)) (y_faddr rfl Fa30x1) ?_
  refine pl_val (.slice pa0 pn0 pc0) (y_load rfl ((box_load Ag22 Sz22 hb2 [(.int .i64 a_.1)] [(.slice pa0 pn0 pc0)] [] rfl rfl (fun _ => rfl)) _ (Chg.refl _ _))) ?_
  refine pl_val (.int .i64 left) (y_move rfl) ?_
  obtain ⟨r4, hr4, hs⟩ := bind_some hs
  refine pl_call Bd39 rfl (c_laws_szIntS (M := M) a_.2 left h0 hO.fut hr4) ?_
  rintro _ w3 ⟨rfl, hC3⟩
  have h0 := h0.ext hC3
  have hb2 := hb2.chg hC3 (fun h => nomatch h)
  have hC := hC.ext hC3
  have hO := hO.ext hC3
  refine pl_val (.int .i64 r4) (y_assign rfl) ?_
  refine c_nil ?_
  refine c_seq ?_
  refine c_seq ?_
  refine c_region ?_
  refine pl_val (.int .i64 r4) (y_move rfl) ?_
  refine pl_val (.bool (decide (r4 < 0))) (y_lss rfl rfl) ?_
  refine c_nil ?_
  rcases bif_some hs with ⟨hc5, hs⟩ | ⟨hc5, hs⟩
  · skip
    refine c_condT (congrArg Value.bool hc5) ?_
    refine c_seq ?_
    refine c_region ?_
    refine pl_val (.int .i64 (-1)) (y_assign rfl) ?_
    refine c_nil ?_
    refine wp_ret ?_
    cases hs
    exact ⟨_, fr_ovl 12 ⟨rfl, trivial⟩, hC⟩
  · skip
    refine c_condF (congrArg Value.bool hc5) ?_
    refine wp_skip ?_
    refine c_seq ?_
    refine c_region ?_
    refine pl_val (.int .i64 r4) (y_move rfl) ?_
    refine pl_val (.int .i64 r4) (y_assign rfl) ?_
    refine c_nil ?_
    refine wp_ret ?_
    cases hs
    exact ⟨_, fr_ovl 12 ⟨rfl, trivial⟩, hC⟩

theorem Rw22 : RowT Try.prog 22 3 1 [(.int .i64 0)] := ⟨Try.underlying22, ⟨_, _, rfl, rfl, rfl, rfl, by decide⟩, rfl, by decide⟩

theorem Sz3 : SzT Try.prog 3 1 := ⟨_, rfl, rfl⟩

theorem Ag3 : AggT Try.prog 3 false := fun _ => by kernel_rfl

def k_laws_toIntS (M : Nat → Prop) (w0 : World) (r : (List Int)) (a : Act) (w : World) : Prop :=
  ∃ (σ : Nat → Value) (ra0 : Option Addr) (rn0 rc0 : Nat) (rf0 : List Nat), a = fr 22 (ovl σ [(2, (.slice ra0 rn0 rc0))]) ∧ Chg [] w0 w ∧ (RT.os 3 (RT.int .i64)).val M w (.slice ra0 rn0 rc0) r rf0 ∧ (∀ g ∈ rf0, w0.heap.size ≤ g)
def s_laws_toIntS (a_ : List Int) : Option ((List Int)) :=
  (mks (a_.length : Int) (0 : Int)).bind fun y3 =>
  (forC (S := (List Int)) (R := (List Int)) (fun k18 s16 =>
  (idx a_ k18).bind fun x24 =>
  (idx s16 k18).bind fun x26 =>
  some (.nx (List.set s16 (Int.toNat k18) x24))) 0 (a_.length : Int) y3).bind fun o20 => after o20 (fun r_ => some r_) (fun s16 =>
  some s16)
set_option maxHeartbeats 4000000 in
theorem c_laws_toIntS {M : Nat → Prop} {w : World} {pa0 : Option Addr} {pn0 pc0 : Nat} (a_ : List Int) (h0 : (RT.rs (RT.int .i64)).val M w (.slice pa0 pn0 pc0) a_ ([])) (hM : ∀ g, w.heap.size ≤ g → M g) {r : (List Int)} (hs : s_laws_toIntS a_ = some r) :
    Gives Try.prog 24 [(.slice pa0 pn0 pc0)] w (fun v w' => ∃ (ra0 : Option Addr) (rn0 rc0 : Nat) (rf0 : List Nat), v = (.slice ra0 rn0 rc0) ∧ Chg [] w w' ∧ (RT.os 3 (RT.int .i64)).val M w' (.slice ra0 rn0 rc0) r rf0 ∧ (∀ g ∈ rf0, w.heap.size ≤ g)) := by
  refine calls_fr Try.func24 rfl Try.ntmps24 (Nat.le_of_ble_eq_true rfl) ?_
  have hO := Own.start (N := Nw w []) hM Nw.fut
  have hC := Chg.refl [] w
  unfold s_laws_toIntS at hs
  refine wp_mono (Q := KPost (k_laws_toIntS M w r)) ?_ (fun e a w1 h => ?_)
  rotate_left
  · cases e
    case ret =>
      obtain ⟨σ, ra0, rn0, rc0, rf0, rfl, hrest⟩ := h
      exact ret1x Try.results24 (res_tmp rfl) ⟨ra0, rn0, rc0, rf0, rfl, hrest⟩
    all_goals exact (h : False).elim
  refine c_seq ?_
  refine c_region ?_
  refine pl_val (.slice none 0 0) (y_assign rfl) ?_
  refine c_nil ?_
  refine c_seq ?_
  refine c_region ?_
  refine pl_val (.slice pa0 pn0 pc0) (y_move rfl) ?_
  refine pl_val (.int .i64 (a_.length : Int)) (y_len' Sl22 (rs_len h0) rfl) ?_
  obtain ⟨y3, hy3, hs⟩ := bind_some hs
  obtain ⟨a2, n2, c2, w2, f2, hm2, hC2, hfr2, hv2⟩ := mk_os (M := M) (w := w) (r := (RT.int .i64)) Rw22 hy3 (fun _ _ => ⟨rfl, rfl⟩)
  refine pl_val (w' := w2) (.slice a2 n2 c2) (y_make rfl rfl hm2) ?_
  have h0 := h0.ext hC2
  have hC := hC.ext hC2
  have hO := hO.new hC2 hfr2 (os_nodup hv2) hv2.fpl
  refine pl_val (.slice a2 n2 c2) (y_assign rfl) ?_
  refine c_nil ?_
  refine c_seq ?_
  refine c_seq ?_
  refine c_region ?_
  refine pl_val (.int .i64 0) (y_assign rfl) ?_
  refine c_nil ?_
  obtain ⟨o20, hl21, hs⟩ := bind_some hs
  refine wp_block ?_
  refine wp_forC (id := 0) (a_.length : Int) (I := fun k18 s16 a w17 => ∃ (σ : Nat → Value) (f22 : List Nat), a = fr 22 (ovl σ [(0, (.slice pa0 pn0 pc0)), (3, (.slice a2 n2 c2)), (4, (.int .i64 k18))]) ∧ Chg [] w w17 ∧ Own (Nw w []) M w17 (f22 ++ []) ∧ (RT.rs (RT.int .i64)).val M w17 (.slice pa0 pn0 pc0) a_ ([]) ∧ (RT.os 3 (RT.int .i64)).val M w17 (.slice a2 n2 c2) s16 f22) (J := fun s16 a w17 => ∃ (σ : Nat → Value) (f23 : List Nat), a = fr 22 (ovl σ [(3, (.slice a2 n2 c2))]) ∧ Chg [] w w17 ∧ Own (Nw w []) M w17 (f23 ++ []) ∧ (RT.rs (RT.int .i64)).val M w17 (.slice pa0 pn0 pc0) a_ ([]) ∧ (RT.os 3 (RT.int .i64)).val M w17 (.slice a2 n2 c2) s16 f23) (K := (k_laws_toIntS M w)) ?_ ?_ 0 y3 o20 _ _ ?_ hl21 ?_
  · rintro k18 s16 a w17 ⟨σ, f22, rfl, hC, hO, h0, hv22⟩ hlt
    refine c_seq ?_
    refine c_seq ?_
    refine c_region ?_
    refine pl_val (.int .i64 k18) (y_move rfl) ?_
    refine pl_val (.slice pa0 pn0 pc0) (y_move rfl) ?_
    refine pl_val (.int .i64 (a_.length : Int)) (y_len' Sl22 (rs_len h0) rfl) ?_
    refine pl_val (.bool (decide (k18 < (a_.length : Int)))) (y_lss rfl rfl) ?_
    refine c_nil ?_
    refine c_condF (congrArg Value.bool (decide_eq_false hlt)) ?_
    refine wp_exit ?_
    exact ⟨rfl, _, f22, fr_ovl 22 ⟨rfl, trivial⟩, hC, hO, h0, hv22⟩
  · rintro k18 s16 o20 a w17 ⟨σ, f22, rfl, hC, hO, h0, hv22⟩ hlt hw hs
    refine c_seq ?_
    refine c_seq ?_
    refine c_region ?_
    refine pl_val (.int .i64 k18) (y_move rfl) ?_
    refine pl_val (.slice pa0 pn0 pc0) (y_move rfl) ?_
    refine pl_val (.int .i64 (a_.length : Int)) (y_len' Sl22 (rs_len h0) rfl) ?_
    refine pl_val (.bool (decide (k18 < (a_.length : Int)))) (y_lss rfl rfl) ?_
    refine c_nil ?_
    refine c_condT (congrArg Value.bool (decide_eq_true hlt)) ?_
    refine wp_skip ?_
    refine c_seq ?_
    refine wp_block ?_
    refine c_region ?_
    refine pl_val (.slice a2 n2 c2) (y_move rfl) ?_
    refine pl_val (.int .i64 k18) (y_move rfl) ?_
    refine pl_val (.slice pa0 pn0 pc0) (y_move rfl) ?_
    refine pl_val (.int .i64 k18) (y_move rfl) ?_
    obtain ⟨x24, hx24, hs⟩ := bind_some hs
    obtain ⟨b25, o25, hp25, ha25⟩ := rs_idx Sl22 Sz3 h0 hx24
    refine pl_val (.pointer (some ⟨b25, o25, none⟩)) (hp25 _ _ _ _ _ _ _ _ _ rfl rfl) ?_
    refine pl_val (.int .i64 x24) (y_load rfl ((at_load_int Ag3 Sz3 ha25) _ (Chg.refl _ _))) ?_
    obtain ⟨x26, hx26, hs⟩ := bind_some hs
    obtain ⟨g27, f27, hg27, hk27, hp27, ha27, hf27⟩ := os_idx Sl22 Sz3 hv22 hx26
    refine pl_val (.pointer (some ⟨g27, 0 + Int.toNat k18 * 1, none⟩)) (hp27 _ _ _ _ _ _ _ _ _ rfl rfl) ?_
    obtain ⟨w28, f28, hst28, hC28, hf28, hv28⟩ := os_store (P := Try.prog) (c' := [(.int .i64 x24)]) hg27 hv22 hk27 (fun g hg => hO.inM g (os_block hv22 g (by simpa using hg))) ⟨rfl, rfl⟩ List.nodup_nil (fun _ h => nomatch h) (fun _ h => .inl h)
    have hG28 : ∀ q ∈ [g27], q ∈ f22 := fun q hq => os_block hv22 q (by rw [hg27]; exact hq)
    refine pl_skip (w' := w28) (ys_store rfl rfl (hst28 _ _ rfl Sz3)) ?_
    have h0 := h0.mut hC28 (fun g hg => hO.inM g (hG28 g hg)) (fun _ _ h => nomatch h)
    have hC := hC.step hC28 (fun g hg => hO.inN g (hG28 g hg))
    have hO := hO.grow hC28 (fun q hq => .inl ((hf28 q hq).resolve_right (fun h => nomatch h))) (os_nodup hv28) hv28.fpl
    refine c_nil ?_
    refine c_region ?_
    refine pl_val (.int .i64 k18) (y_move rfl) ?_
    refine pl_val (.int .i64 (w64 (k18 + 1))) (y_add rfl rfl) ?_
    refine pl_val (.int .i64 (w64 (k18 + 1))) (y_assign rfl) ?_
    refine c_nil ?_
    cases hs
    exact ⟨_, f28, fr_ovl 22 ⟨rfl, rfl, congrArg (Value.int .i64) hw, trivial⟩, hC, hO, h0, hv28⟩
  · skip
    exact ⟨_, f2, fr_ovl 22 ⟨rfl, rfl, rfl, trivial⟩, hC, hO, h0, hv2⟩
  · cases o20 with
    | nx _ => exact True.intro
    | rt r_ =>
      have hs := after_rt hs
      intro a1 w1 hK
      cases hs
      exact hK
    | br s16 =>
      have hs := after_br hs
      rintro a1 w17 ⟨σ, f23, rfl, hC, hO, h0, hv23⟩
      refine c_seq ?_
      refine c_region ?_
      refine pl_val (.slice a2 n2 c2) (y_move rfl) ?_
      refine pl_val (.slice a2 n2 c2) (y_assign rfl) ?_
      refine c_nil ?_
      refine wp_ret ?_
      cases hs
      exact ⟨_, a2, n2, c2, f23, fr_ovl 22 ⟨rfl, trivial⟩, hC, hv23, (fun g hg => ((hO.2.1 g (mem_l (hg))).2.2).resolve_left (fun h => nomatch h))⟩

theorem Ag24 : AggT Try.prog 24 true := fun _ => by kernel_rfl

theorem Sz24 : SzT Try.prog 24 2 := ⟨_, rfl, rfl⟩

theorem Fa30x0 : ∀ (a : Addr) (w : World), (Instr.fieldAt 30 (.pointer (some a)) 0).run Try.prog w = .ok (.pointer (some (a.add 0))) w := fun _ _ => by kernel_rfl

theorem Fa24x0 : ∀ (a : Addr) (w : World), (Instr.fieldAt 24 (.pointer (some a)) 0).run Try.prog w = .ok (.pointer (some (a.add 0))) w := fun _ _ => by kernel_rfl

theorem Bd24 : Bodied Try.prog 24 := bodied Try.func24 (by kernel_rfl) rfl

theorem Fa24x1 : ∀ (a : Addr) (w : World), (Instr.fieldAt 24 (.pointer (some a)) 1).run Try.prog w = .ok (.pointer (some (a.add 1))) w := fun _ _ => by kernel_rfl

def k_laws_toOp (M : Nat → Prop) (w0 : World) (r : (Int × (List Int))) (a : Act) (w : World) : Prop :=
  ∃ (σ : Nat → Value) (rg2 : Nat) (ra0 : Option Addr) (rn0 rc0 : Nat) (rf0 : List Nat), a = fr 12 (ovl σ [(2, (.pointer (some ⟨rg2, 0, none⟩)))]) ∧ BoxV w rg2 24 [(.int .i64 r.1), (.slice ra0 rn0 rc0)] ∧ Chg [] w0 w ∧ (RT.os 3 (RT.int .i64)).val M w (.slice ra0 rn0 rc0) r.2 rf0 ∧ (∀ g ∈ rf0, w0.heap.size ≤ g)
def s_laws_toOp (a_ : Int × (List Int)) : Option ((Int × (List Int))) :=
  (s_laws_toIntS a_.2).bind fun r7 =>
  some (a_.1, r7)
set_option maxHeartbeats 4000000 in
theorem c_laws_toOp {M : Nat → Prop} {w : World} {pa0 : Option Addr} {pn0 pc0 : Nat} (a_ : Int × (List Int)) (h0 : (RT.rs (RT.int .i64)).val M w (.slice pa0 pn0 pc0) a_.2 ([])) (hM : ∀ g, w.heap.size ≤ g → M g) {r : (Int × (List Int))} (hs : s_laws_toOp a_ = some r) :
    Gives Try.prog 19 [(.agg #[(.int .i64 a_.1), (.slice pa0 pn0 pc0)])] w (fun v w' => ∃ (ra0 : Option Addr) (rn0 rc0 : Nat) (rf0 : List Nat), v = (.agg #[(.int .i64 r.1), (.slice ra0 rn0 rc0)]) ∧ Chg [] w w' ∧ (RT.os 3 (RT.int .i64)).val M w' (.slice ra0 rn0 rc0) r.2 rf0 ∧ (∀ g ∈ rf0, w.heap.size ≤ g)) := by
  refine calls_fr Try.func19 rfl Try.ntmps19 (Nat.le_of_ble_eq_true rfl) ?_
  have hO := Own.start (N := Nw w []) hM Nw.fut
  have hC := Chg.refl [] w
  unfold s_laws_toOp at hs
  refine wp_mono (Q := KPost (k_laws_toOp M w r)) ?_ (fun e a w1 h => ?_)
  rotate_left
  · cases e
    case ret =>
      obtain ⟨σ, rg2, ra0, rn0, rc0, rf0, rfl, hbrg2, hrest⟩ := h
      exact ret1x Try.results19 (res_cell rfl (box_load Ag24 Sz24 hbrg2 [] _ [] rfl rfl (fun h => nomatch h))) ⟨ra0, rn0, rc0, rf0, rfl, hrest⟩
    all_goals exact (h : False).elim
  refine c_seq ?_
  refine c_region ?_
  obtain ⟨w2, g2, ew2, eg2, hC2, hb2⟩ := new_block w [(.int .i64 a_.1), (.slice pa0 pn0 pc0)] 30
  refine pl_val (w' := w2) (.pointer (some ⟨g2, 0, none⟩)) (y_box rfl (by rw [ew2, eg2]; kernel_rfl)) ?_
  have h0 := h0.ext hC2
  have hC := hC.ext hC2
  have hO := hO.new (X' := [g2]) hC2 (fun q hq => by rw [List.mem_singleton.1 hq, eg2]; exact Nat.le_refl _) (List.nodup_cons.2 ⟨(fun h => nomatch h), List.nodup_nil⟩) (fun q hq => by rw [List.mem_singleton.1 hq]; exact hb2.lt)
  obtain ⟨w3, g3, ew3, eg3, hC3, hb3⟩ := new_block w2 [(.int .i64 0), (.slice none 0 0)] 24
  refine pl_val (w' := w3) (.pointer (some ⟨g3, 0, none⟩)) (y_alloc (by rw [ew3, eg3]; kernel_rfl)) ?_
  have h0 := h0.ext hC3
  have hb2 := hb2.chg hC3 (fun h => nomatch h)
  have hC := hC.ext hC3
  have hO := hO.new (X' := [g3]) hC3 (fun q hq => by rw [List.mem_singleton.1 hq, eg3]; exact Nat.le_refl _) (List.nodup_cons.2 ⟨(fun h => nomatch h), List.nodup_nil⟩) (fun q hq => by rw [List.mem_singleton.1 hq]; exact hb3.lt)
  refine c_nil ?_
  refine c_seq ?_
  refine c_region ?_
  obtain ⟨w4, g4, ew4, eg4, hC4, hb4⟩ := new_block w3 [(.int .i64 0), (.slice none 0 0)] 24
  refine pl_val (w' := w4) (.pointer (some ⟨g4, 0, none⟩)) (y_alloc (by rw [ew4, eg4]; kernel_rfl)) ?_
  have h0 := h0.ext hC4
  have hb2 := hb2.chg hC4 (fun h => nomatch h)
  have hb3 := hb3.chg hC4 (fun h => nomatch h)
  have hC := hC.ext hC4
  have hO := hO.new (X' := [g4]) hC4 (fun q hq => by rw [List.mem_singleton.1 hq, eg4]; exact Nat.le_refl _) (List.nodup_cons.2 ⟨(fun h => nomatch h), List.nodup_nil⟩) (fun q hq => by rw [List.mem_singleton.1 hq]; exact hb4.lt)
  refine c_nil ?_
  refine c_seq ?_
  refine c_region ?_
  refine pl_val (.pointer (some ⟨g2, 0, none⟩)) (y_faddr rfl Fa30x0) ?_
  refine pl_val (.int .i64 a_.1) (y_load rfl ((box_load Ag3 Sz3 hb2 [] [(.int .i64 a_.1)] [(.slice pa0 pn0 pc0)] rfl rfl (fun _ => rfl)) _ (Chg.refl _ _))) ?_
  refine pl_val (.pointer (some ⟨g4, 0, none⟩)) (y_faddr rfl Fa24x0) ?_
  obtain ⟨w5, hst5, hC5, hb5⟩ := box_store (P := Try.prog) hb4 [] [(.int .i64 0)] [(.slice none 0 0)] [(.int .i64 a_.1)] rfl rfl (by intro u hu; simp only [List.mem_cons, List.not_mem_nil, or_false] at hu; rcases hu with rfl <;> rfl)
  refine pl_skip (w' := w5) (ys_store rfl rfl (hst5 _ _ rfl Sz3)) ?_
  have h0 := h0.mut hC5 (fun g hg => hO.inM g ((fun _ h => h) g hg)) (fun _ _ h => nomatch h)
  have hb2 := hb2.chg hC5 (fun hg => hO.apart _ ((fun _ h => h) _ hg) (mem_r (mem_l (List.mem_singleton.2 rfl))))
  have hb3 := hb3.chg hC5 (fun hg => hO.apart _ ((fun _ h => h) _ hg) (mem_l (List.mem_singleton.2 rfl)))
  have hC := hC.step hC5 (fun g hg => hO.inN g ((fun _ h => h) g hg))
  have hO := hO.ext hC5
  have hb5 : BoxV w5 g4 24 [(.int .i64 a_.1), (.slice none 0 0)] := hb5
  refine c_nil ?_
  refine c_seq ?_
  refine c_region ?_
  refine pl_val (.pointer (some ⟨g2, 1, none⟩)) (y_faddr rfl Fa30x1) ?_
  refine pl_val (.slice pa0 pn0 pc0) (y_load rfl ((box_load Ag22 Sz22 hb2 [(.int .i64 a_.1)] [(.slice pa0 pn0 pc0)] [] rfl rfl (fun _ => rfl)) _ (Chg.refl _ _))) ?_
  obtain ⟨r7, hr7, hs⟩ := bind_some hs
  refine pl_call Bd24 rfl (c_laws_toIntS (M := M) a_.2 h0 hO.fut hr7) ?_
  rintro _ w6 ⟨a6x0, n6x0, c6x0, f6x0, rfl, hC6, hv6x0, hfr6x0⟩
  have h0 := h0.ext hC6
  have hb2 := hb2.chg hC6 (fun h => nomatch h)
  have hb3 := hb3.chg hC6 (fun h => nomatch h)
  have hb5 := hb5.chg hC6 (fun h => nomatch h)
  have hC := hC.ext hC6
  have hO := hO.new hC6 hfr6x0 (os_nodup hv6x0) hv6x0.fpl
  refine pl_val (.pointer (some ⟨g4, 1, none⟩)) (y_faddr rfl Fa24x1) ?_
  obtain ⟨w9, hst9, hC9, hb9⟩ := box_store (P := Try.prog) hb5 [(.int .i64 a_.1)] [(.slice none 0 0)] [] [(.slice a6x0 n6x0 c6x0)] rfl rfl (by intro u hu; simp only [List.mem_cons, List.not_mem_nil, or_false] at hu; rcases hu with rfl <;> rfl)
  refine pl_skip (w' := w9) (ys_store rfl rfl (hst9 _ _ rfl Sz22)) ?_
  have hO := hO.fr1
  have h0 := h0.mut hC9 (fun g hg => hO.inM g ((fun _ h => h) g hg)) (fun _ _ h => nomatch h)
  have hb2 := hb2.chg hC9 (fun hg => hO.apart _ ((fun _ h => h) _ hg) (mem_r (mem_r (mem_l (List.mem_singleton.2 rfl)))))
  have hb3 := hb3.chg hC9 (fun hg => hO.apart _ ((fun _ h => h) _ hg) (mem_r (mem_l (List.mem_singleton.2 rfl))))
  have hv6x0 := hv6x0.mut hC9 (fun g hg => hO.inM g ((fun _ h => h) g hg)) (fun g hg e => hO.apart g ((fun _ h => h) g hg) (mem_l (e)))
  have hC := hC.step hC9 (fun g hg => hO.inN g ((fun _ h => h) g hg))
  have hO := hO.ext hC9
  have hb9 : BoxV w9 g4 24 [(.int .i64 a_.1), (.slice a6x0 n6x0 c6x0)] := hb9
  refine c_nil ?_
  refine c_seq ?_
  refine c_region ?_
  refine pl_val (.agg #[(.int .i64 a_.1), (.slice a6x0 n6x0 c6x0)]) (y_load rfl ((box_load Ag24 Sz24 hb9 [] [(.int .i64 a_.1), (.slice a6x0 n6x0 c6x0)] [] rfl rfl (fun h => nomatch h)) _ (Chg.refl _ _))) ?_
  obtain ⟨w10, hst10, hC10, hb10⟩ := box_store (P := Try.prog) hb3 [] [(.int .i64 0), (.slice none 0 0)] [] [(.int .i64 a_.1), (.slice a6x0 n6x0 c6x0)] rfl rfl (by intro u hu; simp only [List.mem_cons, List.not_mem_nil, or_false] at hu; rcases hu with rfl | rfl <;> rfl)
  refine pl_skip (w' := w10) (ys_store rfl rfl (hst10 _ _ rfl Sz24)) ?_
  have hO := hO.fr2
  have hb2 := hb2.chg hC10 (fun hg => hO.apart _ ((fun _ h => h) _ hg) (mem_r (mem_r (mem_l (List.mem_singleton.2 rfl)))))
  have hb9 := hb9.chg hC10 (fun hg => hO.apart _ ((fun _ h => h) _ hg) (mem_l (List.mem_singleton.2 rfl)))
  have hv6x0 := hv6x0.mut hC10 (fun g hg => hO.inM g ((fun _ h => h) g hg)) (fun g hg e => hO.apart g ((fun _ h => h) g hg) (mem_r (mem_l (e))))
  have hC := hC.step hC10 (fun g hg => hO.inN g ((fun _ h => h) g hg))
  have hO := hO.ext hC10
  have hb10 : BoxV w10 g3 24 [(.int .i64 a_.1), (.slice a6x0 n6x0 c6x0)] := hb10
  refine c_nil ?_
  refine wp_ret ?_
  cases hs
  exact ⟨_, g3, a6x0, n6x0, c6x0, f6x0, fr_ovl 12 ⟨rfl, trivial⟩, hb10, hC, hv6x0, (fun g hg => ((hO.2.1 g (mem_r (mem_r (mem_l (hg))))).2.2).resolve_left (fun h => nomatch h))⟩

def k_spec_l1In (M : Nat → Prop) (w0 : World) (r : Bool) (a : Act) (w : World) : Prop :=
  ∃ (σ : Nat → Value) , a = fr 15 (ovl σ [(6, (.bool r))]) ∧ Chg [] w0 w
def s_spec_l1In (x_ : Int) (a_ : Int) (b : Int) : Option (Bool) :=
  (bif (decide (a_ ≤ x_)) then some (decide (x_ ≤ b)) else some false)
set_option maxHeartbeats 4000000 in
theorem c_spec_l1In {M : Nat → Prop} {w : World}  (x_ : Int) (a_ : Int) (b : Int)  (hM : ∀ g, w.heap.size ≤ g → M g) {r : Bool} (hs : s_spec_l1In x_ a_ b = some r) :
    Gives Try.prog 56 [(.int .i64 x_), (.int .i64 a_), (.int .i64 b)] w (fun v w' => v = (.bool r) ∧ Chg [] w w') := by
  refine calls_fr Try.func56 rfl Try.ntmps56 (Nat.le_of_ble_eq_true rfl) ?_
  have hO := Own.start (N := Nw w []) hM Nw.fut
  have hC := Chg.refl [] w
  unfold s_spec_l1In at hs
  refine wp_mono (Q := KPost (k_spec_l1In M w r)) ?_ (fun e a w1 h => ?_)
  rotate_left
  · cases e
    case ret =>
      obtain ⟨σ, rfl, hrest⟩ := h
      exact ret1x Try.results56 (res_tmp rfl) ⟨rfl, hrest⟩
    all_goals exact (h : False).elim
  refine c_seq ?_
  refine c_region ?_
  refine pl_val (.bool false) (y_assign rfl) ?_
  refine c_nil ?_
  refine c_seq ?_
  refine c_region ?_
  refine pl_val (.int .i64 x_) (y_move rfl) ?_
  refine pl_val (.int .i64 a_) (y_move rfl) ?_
  refine pl_val (.bool (decide (a_ ≤ x_))) (y_geq rfl rfl) ?_
  refine pl_val (.bool (decide (a_ ≤ x_))) (y_move rfl) ?_
  rcases bif_some hs with ⟨hc1, hs⟩ | ⟨hc1, hs⟩
  · skip
    refine pl_yes (.int .i64 x_) (tg := 10) (by kernel_rfl) (congrArg Value.bool hc1) (y_move rfl) ?_
    refine pl_yes (.int .i64 b) (tg := 10) (by kernel_rfl) (congrArg Value.bool hc1) (y_move rfl) ?_
    refine pl_yes (.bool (decide (x_ ≤ b))) (tg := 10) (by kernel_rfl) (congrArg Value.bool hc1) (y_leq rfl rfl) ?_
    refine pl_val (.bool (decide (x_ ≤ b))) (y_pick_t (congrArg Value.bool hc1) rfl) ?_
    refine pl_val (.bool (decide (x_ ≤ b))) (y_assign rfl) ?_
    refine c_nil ?_
    refine wp_ret ?_
    cases hs
    exact ⟨_, fr_ovl 15 ⟨rfl, trivial⟩, hC⟩
  · skip
    refine pl_not (tg := 10) (by kernel_rfl) (congrArg Value.bool hc1) ?_
    refine pl_not (tg := 10) (by kernel_rfl) (congrArg Value.bool hc1) ?_
    refine pl_not (tg := 10) (by kernel_rfl) (congrArg Value.bool hc1) ?_
    refine pl_val (.bool false) (y_pick_f (congrArg Value.bool hc1) rfl) ?_
    refine pl_val (.bool false) (y_assign rfl) ?_
    refine c_nil ?_
    refine wp_ret ?_
    cases hs
    exact ⟨_, fr_ovl 15 ⟨rfl, trivial⟩, hC⟩

theorem Bd56 : Bodied Try.prog 56 := bodied Try.func56 (by kernel_rfl) rfl

def k_spec_l6Size (M : Nat → Prop) (w0 : World) (r : Bool) (a : Act) (w : World) : Prop :=
  ∃ (σ : Nat → Value) , a = fr 5 (ovl σ [(2, (.bool r))]) ∧ Chg [] w0 w
def s_spec_l6Size (n : Int) : Option (Bool) :=
  (s_spec_l1In n 1 8).bind fun r2 =>
  some r2
set_option maxHeartbeats 4000000 in
theorem c_spec_l6Size {M : Nat → Prop} {w : World}  (n : Int)  (hM : ∀ g, w.heap.size ≤ g → M g) {r : Bool} (hs : s_spec_l6Size n = some r) :
    Gives Try.prog 31 [(.int .i64 n)] w (fun v w' => v = (.bool r) ∧ Chg [] w w') := by
  refine calls_fr Try.func31 rfl Try.ntmps31 (Nat.le_of_ble_eq_true rfl) ?_
  have hO := Own.start (N := Nw w []) hM Nw.fut
  have hC := Chg.refl [] w
  unfold s_spec_l6Size at hs
  refine wp_mono (Q := KPost (k_spec_l6Size M w r)) ?_ (fun e a w1 h => ?_)
  rotate_left
  · cases e
    case ret =>
      obtain ⟨σ, rfl, hrest⟩ := h
      exact ret1x Try.results31 (res_tmp rfl) ⟨rfl, hrest⟩
    all_goals exact (h : False).elim
  refine c_seq ?_
  refine c_region ?_
  refine pl_val (.bool false) (y_assign rfl) ?_
  refine c_nil ?_
  refine c_seq ?_
  refine c_region ?_
  refine pl_val (.int .i64 n) (y_move rfl) ?_
  obtain ⟨r2, hr2, hs⟩ := bind_some hs
  refine pl_call Bd56 rfl (c_spec_l1In (M := M) n 1 8  hO.fut hr2) ?_
  rintro _ w1 ⟨rfl, hC1⟩
  have hC := hC.ext hC1
  have hO := hO.ext hC1
  refine pl_val (.bool r2) (y_assign rfl) ?_
  refine c_nil ?_
  refine wp_ret ?_
  cases hs
  exact ⟨_, fr_ovl 5 ⟨rfl, trivial⟩, hC⟩

def k_spec_l2Pow (M : Nat → Prop) (w0 : World) (r : Int) (a : Act) (w : World) : Prop :=
  ∃ (σ : Nat → Value) , a = fr 14 (ovl σ [(4, (.int .i64 r))]) ∧ Chg [] w0 w
def s_spec_l2Pow (n : Int) (k : Int) : Option (Int) :=
  (iter (S := Int × Int) (R := Int) (fun s2 =>
  (bif (decide (0 < s2.1)) then some (.nx (w64 (s2.1 - 1), w64 (s2.2 * n))) else some (.br (s2.1, s2.2)))) FU (k, 1)).bind fun o6 => after o6 (fun r_ => some r_) (fun s2 =>
  some s2.2)
set_option maxHeartbeats 4000000 in
theorem c_spec_l2Pow {M : Nat → Prop} {w : World}  (n : Int) (k : Int)  (hM : ∀ g, w.heap.size ≤ g → M g) {r : Int} (hs : s_spec_l2Pow n k = some r) :
    Gives Try.prog 61 [(.int .i64 n), (.int .i64 k)] w (fun v w' => v = (.int .i64 r) ∧ Chg [] w w') := by
  refine calls_fr Try.func61 rfl Try.ntmps61 (Nat.le_of_ble_eq_true rfl) ?_
  have hO := Own.start (N := Nw w []) hM Nw.fut
  have hC := Chg.refl [] w
  unfold s_spec_l2Pow at hs
  refine wp_mono (Q := KPost (k_spec_l2Pow M w r)) ?_ (fun e a w1 h => ?_)
  rotate_left
  · cases e
    case ret =>
      obtain ⟨σ, rfl, hrest⟩ := h
      exact ret1x Try.results61 (res_tmp rfl) ⟨rfl, hrest⟩
    all_goals exact (h : False).elim
  refine c_seq ?_
  refine c_region ?_
  refine pl_val (.int .i64 0) (y_assign rfl) ?_
  refine c_nil ?_
  refine c_seq ?_
  refine c_region ?_
  refine pl_val (.int .i64 1) (y_assign rfl) ?_
  refine c_nil ?_
  refine c_seq ?_
  obtain ⟨o6, hl7, hs⟩ := bind_some hs
  refine wp_block ?_
  refine wp_iter (id := 0) (I := fun s2 a w3 => ∃ (σ : Nat → Value), a = fr 14 (ovl σ [(0, (.int .i64 n)), (1, (.int .i64 s2.1)), (5, (.int .i64 s2.2))]) ∧ Chg [] w w3 ∧ Own (Nw w []) M w3 ([])) (J := fun s2 a w3 => ∃ (σ : Nat → Value), a = fr 14 (ovl σ [(5, (.int .i64 s2.2))]) ∧ Chg [] w w3 ∧ Own (Nw w []) M w3 ([])) (K := (k_spec_l2Pow M w)) ?_ FU (k, 1) o6 _ _ ?_ hl7 ?_
  · rintro s2 o6 a w3 ⟨σ, rfl, hC, hO⟩ hs
    refine c_seq ?_
    refine c_seq ?_
    refine c_region ?_
    refine pl_val (.int .i64 s2.1) (y_move rfl) ?_
    refine pl_val (.bool (decide (0 < s2.1))) (y_gtr rfl rfl) ?_
    refine c_nil ?_
    rcases bif_some hs with ⟨hc8, hs⟩ | ⟨hc8, hs⟩
    · skip
      refine c_condT (congrArg Value.bool hc8) ?_
      refine wp_skip ?_
      refine c_seq ?_
      refine wp_block ?_
      refine c_region ?_
      refine pl_val (.int .i64 s2.2) (y_move rfl) ?_
      refine pl_val (.int .i64 n) (y_move rfl) ?_
      refine pl_val (.int .i64 (w64 (s2.2 * n))) (y_mul rfl rfl) ?_
      refine pl_val (.int .i64 (w64 (s2.2 * n))) (y_assign rfl) ?_
      refine c_nil ?_
      refine c_region ?_
      refine pl_val (.int .i64 s2.1) (y_move rfl) ?_
      refine pl_val (.int .i64 (w64 (s2.1 - 1))) (y_sub rfl rfl) ?_
      refine pl_val (.int .i64 (w64 (s2.1 - 1))) (y_assign rfl) ?_
      refine c_nil ?_
      cases hs
      exact ⟨_, fr_ovl 14 ⟨rfl, rfl, rfl, trivial⟩, hC, hO⟩
    · skip
      refine c_condF (congrArg Value.bool hc8) ?_
      refine wp_exit ?_
      cases hs
      exact ⟨rfl, _, fr_ovl 14 ⟨rfl, trivial⟩, hC, hO⟩
  · skip
    exact ⟨_, fr_ovl 14 ⟨rfl, rfl, rfl, trivial⟩, hC, hO⟩
  · cases o6 with
    | nx _ => exact True.intro
    | rt r_ =>
      have hs := after_rt hs
      intro a1 w1 hK
      cases hs
      exact hK
    | br s2 =>
      have hs := after_br hs
      rintro a1 w3 ⟨σ, rfl, hC, hO⟩
      refine c_seq ?_
      refine c_region ?_
      refine pl_val (.int .i64 s2.2) (y_move rfl) ?_
      refine pl_val (.int .i64 s2.2) (y_assign rfl) ?_
      refine c_nil ?_
      refine wp_ret ?_
      cases hs
      exact ⟨_, fr_ovl 14 ⟨rfl, trivial⟩, hC⟩

theorem Mx : Try.prog.follows .mixedOrders = true := by kernel_rfl

theorem Bd61 : Bodied Try.prog 61 := bodied Try.func61 (by kernel_rfl) rfl

def k_spec_l2Op (M : Nat → Prop) (w0 : World) (r : Bool) (a : Act) (w : World) : Prop :=
  ∃ (σ : Nat → Value) , a = fr 36 (ovl σ [(4, (.bool r))]) ∧ Chg [] w0 w
def s_spec_l2Op (n : Int) (op : Int × (List Int)) : Option (Bool) :=
  ((s_spec_l1In op.1 0 3).bind fun r8 =>
  (bif (!r8) then some true else (s_spec_l2Pow n op.1).bind fun r11 =>
  some ((op.2.length : Int) != r11))).bind fun s3 =>
  (bif s3 then some false else (forC (S := Unit) (R := Bool) (fun k24 s22 =>
  (idx op.2 k24).bind fun x28 =>
  (s_spec_l1In x28 0 (w64 (n - 1))).bind fun r31 =>
  (bif (!r31) then some (.rt false) else some (.nx ()))) 0 (op.2.length : Int) ()).bind fun o26 => after o26 (fun r_ => some r_) (fun s22 =>
  some true))
set_option maxHeartbeats 4000000 in
theorem c_spec_l2Op {M : Nat → Prop} {w : World} {pa0 : Option Addr} {pn0 pc0 : Nat} (n : Int) (op : Int × (List Int)) (h0 : (RT.rs (RT.int .i64)).val M w (.slice pa0 pn0 pc0) op.2 ([])) (hM : ∀ g, w.heap.size ≤ g → M g) {r : Bool} (hs : s_spec_l2Op n op = some r) :
    Gives Try.prog 45 [(.int .i64 n), (.agg #[(.int .i64 op.1), (.slice pa0 pn0 pc0)])] w (fun v w' => v = (.bool r) ∧ Chg [] w w') := by
  refine calls_fr Try.func45 rfl Try.ntmps45 (Nat.le_of_ble_eq_true rfl) ?_
  have hO := Own.start (N := Nw w []) hM Nw.fut
  have hC := Chg.refl [] w
  unfold s_spec_l2Op at hs
  refine wp_mono (Q := KPost (k_spec_l2Op M w r)) ?_ (fun e a w1 h => ?_)
  rotate_left
  · cases e
    case ret =>
      obtain ⟨σ, rfl, hrest⟩ := h
      exact ret1x Try.results45 (res_tmp rfl) ⟨rfl, hrest⟩
    all_goals exact (h : False).elim
  refine c_seq ?_
  refine c_region ?_
  obtain ⟨w2, g2, ew2, eg2, hC2, hb2⟩ := new_block w [(.int .i64 op.1), (.slice pa0 pn0 pc0)] 24
  refine pl_val (w' := w2) (.pointer (some ⟨g2, 0, none⟩)) (y_box rfl (by rw [ew2, eg2]; kernel_rfl)) ?_
  have h0 := h0.ext hC2
  have hC := hC.ext hC2
  have hO := hO.new (X' := [g2]) hC2 (fun q hq => by rw [List.mem_singleton.1 hq, eg2]; exact Nat.le_refl _) (List.nodup_cons.2 ⟨(fun h => nomatch h), List.nodup_nil⟩) (fun q hq => by rw [List.mem_singleton.1 hq]; exact hb2.lt)
  refine pl_val (.bool false) (y_assign rfl) ?_
  refine c_nil ?_
  refine c_seq ?_
  refine c_seq ?_
  obtain ⟨s3, hm5, hs⟩ := bind_some hs
  refine c_mid (I := fun a w4 => ∃ (σ : Nat → Value), a = fr 36 (ovl σ [(0, (.int .i64 n)), (3, (.pointer (some ⟨g2, 0, none⟩))), (4, (.bool false)), (19, (.bool s3))]) ∧ Chg [] w2 w4) ?_ ?_
  · replace hs := hm5
    have hMid := Chg.refl [] w2
    refine x_start [] Mx rfl ?_
    have hCw6 := Chg.drew w2
    generalize World.drew w2 = w6 at hCw6 ⊢
    have h0 := h0.ext hCw6
    have hb2 := hb2.chg hCw6 (fun h => nomatch h)
    have hMid := hMid.ext hCw6
    have hC := hC.ext hCw6
    have hO := hO.ext hCw6
    have hS := Chg.refl [] w6
    refine x_p 0 (.pointer (some ⟨g2, 0, none⟩)) rfl (by kernel_rfl)  (fun _ => y_faddr rfl Fa24x0) (fun _ => hS) ?_
    refine x_l 1 (.int .i64 op.1) rfl (by kernel_rfl)  (fun w' hw' => y_load rfl ((box_load Ag3 Sz3 hb2 [] [(.int .i64 op.1)] [(.slice pa0 pn0 pc0)] rfl rfl (fun _ => rfl)) w' hw')) hS ?_
    refine x_one (i := 2) (by kernel_rfl) ?_
    obtain ⟨r8, hr8, hs⟩ := bind_some hs
    refine xk_call (b := false) rfl  Bd56 rfl (c_spec_l1In (M := M) op.1 0 3  hO.fut hr8) rfl (by rintro _ _ _ ⟨rfl, hC7⟩; exact hS.ext hC7) ?_
    rintro _ w7 ⟨rfl, hC7⟩
    have h0 := h0.ext hC7
    have hb2 := hb2.chg hC7 (fun h => nomatch h)
    have hMid := hMid.ext hC7
    have hC := hC.ext hC7
    have hO := hO.ext hC7
    have hS := hS.ext hC7
    refine x_p 3 (.bool (!r8)) rfl (by kernel_rfl)  (fun _ => y_not rfl) (fun _ => hS) ?_
    refine x_p 4 (.bool (!r8)) rfl (by kernel_rfl)  (fun _ => y_move rfl) (fun _ => hS) ?_
    rcases bif_some hs with ⟨hc9, hs⟩ | ⟨hc9, hs⟩
    · skip
      refine x_pn 5 rfl (by kernel_rfl) (tg := 10) (by kernel_rfl) (congrArg Value.bool hc9) (fun _ => hS) ?_
      refine x_pn 6 rfl (by kernel_rfl) (tg := 10) (by kernel_rfl) (congrArg Value.bool hc9) (fun _ => hS) ?_
      refine x_pn 7 rfl (by kernel_rfl) (tg := 10) (by kernel_rfl) (congrArg Value.bool hc9) (fun _ => hS) ?_
      refine x_pn 8 rfl (by kernel_rfl) (tg := 10) (by kernel_rfl) (congrArg Value.bool hc9) (fun _ => hS) ?_
      refine x_pn 9 rfl (by kernel_rfl) (tg := 10) (by kernel_rfl) (congrArg Value.bool hc9) (fun _ => hS) ?_
      refine x_pn 10 rfl (by kernel_rfl) (tg := 10) (by kernel_rfl) (congrArg Value.bool hc9) (fun _ => hS) ?_
      refine x_pn 11 rfl (by kernel_rfl) (tg := 10) (by kernel_rfl) (congrArg Value.bool hc9) (fun _ => hS) ?_
      refine x_pn 12 rfl (by kernel_rfl) (tg := 10) (by kernel_rfl) (congrArg Value.bool hc9) (fun _ => hS) ?_
      refine x_p 13 (.bool true) rfl (by kernel_rfl)  (fun _ => y_pick_t (congrArg Value.bool hc9) rfl) (fun _ => hS) ?_
      refine x_end (by kernel_rfl) ?_
      clear hS
      cases hs
      exact ⟨_, fr_ovl 36 ⟨rfl, rfl, rfl, rfl, trivial⟩, hMid⟩
    · skip
      refine x_py 5 (.pointer (some ⟨g2, 1, none⟩)) rfl (by kernel_rfl) (tg := 10) (by kernel_rfl) (congrArg Value.bool hc9) (fun _ => y_faddr rfl Fa24x1) (fun _ => hS) ?_
      refine x_py 8 (.int .i64 n) rfl (by kernel_rfl) (tg := 10) (by kernel_rfl) (congrArg Value.bool hc9) (fun _ => y_move rfl) (fun _ => hS) ?_
      refine x_py 9 (.pointer (some ⟨g2, 0, none⟩)) rfl (by kernel_rfl) (tg := 10) (by kernel_rfl) (congrArg Value.bool hc9) (fun _ => y_faddr rfl Fa24x0) (fun _ => hS) ?_
      refine x_two (i := 6) (j := 10) (by kernel_rfl) ?_ ?_
      · skip
        refine xk_valy (b := false) (.slice pa0 pn0 pc0) rfl (tg := 10) (by kernel_rfl) (congrArg Value.bool hc9) (y_load rfl ((box_load Ag22 Sz22 hb2 [(.int .i64 op.1)] [(.slice pa0 pn0 pc0)] [] rfl rfl (fun _ => rfl)) _ (Chg.refl _ _))) rfl (fun _ => hS) ?_
        refine x_py 7 (.int .i64 (op.2.length : Int)) rfl (by kernel_rfl) (tg := 10) (by kernel_rfl) (congrArg Value.bool hc9) (fun _ => y_len' Sl22 (rs_len h0) rfl) (fun _ => hS) ?_
        refine x_one (i := 10) (by kernel_rfl) ?_
        refine xk_valy (b := false) (.int .i64 op.1) rfl (tg := 10) (by kernel_rfl) (congrArg Value.bool hc9) (y_load rfl ((box_load Ag3 Sz3 hb2 [] [(.int .i64 op.1)] [(.slice pa0 pn0 pc0)] rfl rfl (fun _ => rfl)) _ (Chg.refl _ _))) rfl (fun _ => hS) ?_
        refine x_one (i := 11) (by kernel_rfl) ?_
        obtain ⟨r11, hr11, hs⟩ := bind_some hs
        refine xk_cally (b := false) rfl (tg := 10) (by kernel_rfl) (congrArg Value.bool hc9) Bd61 rfl (c_spec_l2Pow (M := M) n op.1  hO.fut hr11) rfl (by rintro _ _ _ ⟨rfl, hC10⟩; exact hS.ext hC10) ?_
        rintro _ w10 ⟨rfl, hC10⟩
        have h0 := h0.ext hC10
        have hb2 := hb2.chg hC10 (fun h => nomatch h)
        have hMid := hMid.ext hC10
        have hC := hC.ext hC10
        have hO := hO.ext hC10
        have hS := hS.ext hC10
        refine x_py 12 (.bool ((op.2.length : Int) != r11)) rfl (by kernel_rfl) (tg := 10) (by kernel_rfl) (congrArg Value.bool hc9) (fun _ => y_neq rfl rfl) (fun _ => hS) ?_
        refine x_p 13 (.bool ((op.2.length : Int) != r11)) rfl (by kernel_rfl)  (fun _ => y_pick_f (congrArg Value.bool hc9) rfl) (fun _ => hS) ?_
        refine x_end (by kernel_rfl) ?_
        clear hS
        cases hs
        exact ⟨_, fr_ovl 36 ⟨rfl, rfl, rfl, rfl, trivial⟩, hMid⟩
      · skip
        refine xk_valy (b := false) (.int .i64 op.1) rfl (tg := 10) (by kernel_rfl) (congrArg Value.bool hc9) (y_load rfl ((box_load Ag3 Sz3 hb2 [] [(.int .i64 op.1)] [(.slice pa0 pn0 pc0)] rfl rfl (fun _ => rfl)) _ (Chg.refl _ _))) rfl (fun _ => hS) ?_
        refine x_two (i := 6) (j := 11) (by kernel_rfl) ?_ ?_
        · skip
          refine xk_valy (b := false) (.slice pa0 pn0 pc0) rfl (tg := 10) (by kernel_rfl) (congrArg Value.bool hc9) (y_load rfl ((box_load Ag22 Sz22 hb2 [(.int .i64 op.1)] [(.slice pa0 pn0 pc0)] [] rfl rfl (fun _ => rfl)) _ (Chg.refl _ _))) rfl (fun _ => hS) ?_
          refine x_py 7 (.int .i64 (op.2.length : Int)) rfl (by kernel_rfl) (tg := 10) (by kernel_rfl) (congrArg Value.bool hc9) (fun _ => y_len' Sl22 (rs_len h0) rfl) (fun _ => hS) ?_
          refine x_one (i := 11) (by kernel_rfl) ?_
          obtain ⟨r13, hr13, hs⟩ := bind_some hs
          refine xk_cally (b := false) rfl (tg := 10) (by kernel_rfl) (congrArg Value.bool hc9) Bd61 rfl (c_spec_l2Pow (M := M) n op.1  hO.fut hr13) rfl (by rintro _ _ _ ⟨rfl, hC12⟩; exact hS.ext hC12) ?_
          rintro _ w12 ⟨rfl, hC12⟩
          have h0 := h0.ext hC12
          have hb2 := hb2.chg hC12 (fun h => nomatch h)
          have hMid := hMid.ext hC12
          have hC := hC.ext hC12
          have hO := hO.ext hC12
          have hS := hS.ext hC12
          refine x_py 12 (.bool ((op.2.length : Int) != r13)) rfl (by kernel_rfl) (tg := 10) (by kernel_rfl) (congrArg Value.bool hc9) (fun _ => y_neq rfl rfl) (fun _ => hS) ?_
          refine x_p 13 (.bool ((op.2.length : Int) != r13)) rfl (by kernel_rfl)  (fun _ => y_pick_f (congrArg Value.bool hc9) rfl) (fun _ => hS) ?_
          refine x_end (by kernel_rfl) ?_
          clear hS
          cases hs
          exact ⟨_, fr_ovl 36 ⟨rfl, rfl, rfl, rfl, trivial⟩, hMid⟩
        · skip
          obtain ⟨r15, hr15, hs⟩ := bind_some hs
          refine xk_cally (b := false) rfl (tg := 10) (by kernel_rfl) (congrArg Value.bool hc9) Bd61 rfl (c_spec_l2Pow (M := M) n op.1  hO.fut hr15) rfl (by rintro _ _ _ ⟨rfl, hC14⟩; exact hS.ext hC14) ?_
          rintro _ w14 ⟨rfl, hC14⟩
          have h0 := h0.ext hC14
          have hb2 := hb2.chg hC14 (fun h => nomatch h)
          have hMid := hMid.ext hC14
          have hC := hC.ext hC14
          have hO := hO.ext hC14
          have hS := hS.ext hC14
          refine x_one (i := 6) (by kernel_rfl) ?_
          refine xk_valy (b := false) (.slice pa0 pn0 pc0) rfl (tg := 10) (by kernel_rfl) (congrArg Value.bool hc9) (y_load rfl ((box_load Ag22 Sz22 hb2 [(.int .i64 op.1)] [(.slice pa0 pn0 pc0)] [] rfl rfl (fun _ => rfl)) _ (Chg.refl _ _))) rfl (fun _ => hS) ?_
          refine x_py 7 (.int .i64 (op.2.length : Int)) rfl (by kernel_rfl) (tg := 10) (by kernel_rfl) (congrArg Value.bool hc9) (fun _ => y_len' Sl22 (rs_len h0) rfl) (fun _ => hS) ?_
          refine x_py 12 (.bool ((op.2.length : Int) != r15)) rfl (by kernel_rfl) (tg := 10) (by kernel_rfl) (congrArg Value.bool hc9) (fun _ => y_neq rfl rfl) (fun _ => hS) ?_
          refine x_p 13 (.bool ((op.2.length : Int) != r15)) rfl (by kernel_rfl)  (fun _ => y_pick_f (congrArg Value.bool hc9) rfl) (fun _ => hS) ?_
          refine x_end (by kernel_rfl) ?_
          clear hS
          cases hs
          exact ⟨_, fr_ovl 36 ⟨rfl, rfl, rfl, rfl, trivial⟩, hMid⟩
  · rintro a1 w4 ⟨σ, rfl, hCs3⟩
    have h0 := h0.ext hCs3
    have hb2 := hb2.chg hCs3 (fun h => nomatch h)
    have hC := hC.ext hCs3
    have hO := hO.ext hCs3
    rcases bif_some hs with ⟨hc16, hs⟩ | ⟨hc16, hs⟩
    · skip
      refine c_condT (congrArg Value.bool hc16) ?_
      refine c_seq ?_
      refine c_region ?_
      refine pl_val (.bool false) (y_assign rfl) ?_
      refine c_nil ?_
      refine wp_ret ?_
      cases hs
      exact ⟨_, fr_ovl 36 ⟨rfl, trivial⟩, hC⟩
    · skip
      refine c_condF (congrArg Value.bool hc16) ?_
      refine wp_skip ?_
      refine c_seq ?_
      refine c_seq ?_
      refine c_region ?_
      refine pl_val (.int .i64 0) (y_assign rfl) ?_
      refine c_nil ?_
      obtain ⟨o26, hl27, hs⟩ := bind_some hs
      refine wp_block ?_
      refine wp_forC (id := 0) (op.2.length : Int) (I := fun k24 s22 a w23 => ∃ (σ : Nat → Value), a = fr 36 (ovl σ [(0, (.int .i64 n)), (3, (.pointer (some ⟨g2, 0, none⟩))), (5, (.int .i64 k24))]) ∧ Chg [] w w23 ∧ Own (Nw w []) M w23 (([g2]) ++ []) ∧ (RT.rs (RT.int .i64)).val M w23 (.slice pa0 pn0 pc0) op.2 ([]) ∧ BoxV w23 g2 24 [(.int .i64 op.1), (.slice pa0 pn0 pc0)]) (J := fun s22 a w23 => ∃ (σ : Nat → Value), a = fr 36 (ovl σ []) ∧ Chg [] w w23 ∧ Own (Nw w []) M w23 (([g2]) ++ []) ∧ (RT.rs (RT.int .i64)).val M w23 (.slice pa0 pn0 pc0) op.2 ([]) ∧ BoxV w23 g2 24 [(.int .i64 op.1), (.slice pa0 pn0 pc0)]) (K := (k_spec_l2Op M w)) ?_ ?_ 0 () o26 _ _ ?_ hl27 ?_
      · rintro k24 s22 a w23 ⟨σ, rfl, hC, hO, h0, hb2⟩ hlt
        refine c_seq ?_
        refine c_seq ?_
        refine c_region ?_
        refine pl_val (.int .i64 k24) (y_move rfl) ?_
        refine pl_val (.pointer (some ⟨g2, 1, none⟩)) (y_faddr rfl Fa24x1) ?_
        refine pl_val (.slice pa0 pn0 pc0) (y_load rfl ((box_load Ag22 Sz22 hb2 [(.int .i64 op.1)] [(.slice pa0 pn0 pc0)] [] rfl rfl (fun _ => rfl)) _ (Chg.refl _ _))) ?_
        refine pl_val (.int .i64 (op.2.length : Int)) (y_len' Sl22 (rs_len h0) rfl) ?_
        refine pl_val (.bool (decide (k24 < (op.2.length : Int)))) (y_lss rfl rfl) ?_
        refine c_nil ?_
        refine c_condF (congrArg Value.bool (decide_eq_false hlt)) ?_
        refine wp_exit ?_
        exact ⟨rfl, _, fr_ovl 36 trivial, hC, hO, h0, hb2⟩
      · rintro k24 s22 o26 a w23 ⟨σ, rfl, hC, hO, h0, hb2⟩ hlt hw hs
        refine c_seq ?_
        refine c_seq ?_
        refine c_region ?_
        refine pl_val (.int .i64 k24) (y_move rfl) ?_
        refine pl_val (.pointer (some ⟨g2, 1, none⟩)) (y_faddr rfl Fa24x1) ?_
        refine pl_val (.slice pa0 pn0 pc0) (y_load rfl ((box_load Ag22 Sz22 hb2 [(.int .i64 op.1)] [(.slice pa0 pn0 pc0)] [] rfl rfl (fun _ => rfl)) _ (Chg.refl _ _))) ?_
        refine pl_val (.int .i64 (op.2.length : Int)) (y_len' Sl22 (rs_len h0) rfl) ?_
        refine pl_val (.bool (decide (k24 < (op.2.length : Int)))) (y_lss rfl rfl) ?_
        refine c_nil ?_
        refine c_condT (congrArg Value.bool (decide_eq_true hlt)) ?_
        refine wp_skip ?_
        refine c_seq ?_
        refine wp_block ?_
        refine c_seq ?_
        refine c_region ?_
        refine pl_val (.pointer (some ⟨g2, 1, none⟩)) (y_faddr rfl Fa24x1) ?_
        refine pl_val (.slice pa0 pn0 pc0) (y_load rfl ((box_load Ag22 Sz22 hb2 [(.int .i64 op.1)] [(.slice pa0 pn0 pc0)] [] rfl rfl (fun _ => rfl)) _ (Chg.refl _ _))) ?_
        refine pl_val (.int .i64 k24) (y_move rfl) ?_
        obtain ⟨x28, hx28, hs⟩ := bind_some hs
        obtain ⟨b29, o29, hp29, ha29⟩ := rs_idx Sl22 Sz3 h0 hx28
        refine pl_val (.pointer (some ⟨b29, o29, none⟩)) (hp29 _ _ _ _ _ _ _ _ _ rfl rfl) ?_
        refine pl_val (.int .i64 x28) (y_load rfl ((at_load_int Ag3 Sz3 ha29) _ (Chg.refl _ _))) ?_
        refine pl_val (.int .i64 n) (y_move rfl) ?_
        refine pl_val (.int .i64 (w64 (n - 1))) (y_sub rfl rfl) ?_
        obtain ⟨r31, hr31, hs⟩ := bind_some hs
        refine pl_call Bd56 rfl (c_spec_l1In (M := M) x28 0 (w64 (n - 1))  hO.fut hr31) ?_
        rintro _ w30 ⟨rfl, hC30⟩
        have h0 := h0.ext hC30
        have hb2 := hb2.chg hC30 (fun h => nomatch h)
        have hC := hC.ext hC30
        have hO := hO.ext hC30
        refine pl_val (.bool (!r31)) (y_not rfl) ?_
        refine c_nil ?_
        rcases bif_some hs with ⟨hc32, hs⟩ | ⟨hc32, hs⟩
        · skip
          refine c_condT (congrArg Value.bool hc32) ?_
          refine c_seq ?_
          refine c_region ?_
          refine pl_val (.bool false) (y_assign rfl) ?_
          refine c_nil ?_
          refine wp_ret ?_
          cases hs
          exact ⟨_, fr_ovl 36 ⟨rfl, trivial⟩, hC⟩
        · skip
          refine c_condF (congrArg Value.bool hc32) ?_
          refine wp_skip ?_
          refine c_region ?_
          refine pl_val (.int .i64 k24) (y_move rfl) ?_
          refine pl_val (.int .i64 (w64 (k24 + 1))) (y_add rfl rfl) ?_
          refine pl_val (.int .i64 (w64 (k24 + 1))) (y_assign rfl) ?_
          refine c_nil ?_
          cases hs
          exact ⟨_, fr_ovl 36 ⟨rfl, rfl, congrArg (Value.int .i64) hw, trivial⟩, hC, hO, h0, hb2⟩
      · skip
        exact ⟨_, fr_ovl 36 ⟨rfl, rfl, rfl, trivial⟩, hC, hO, h0, hb2⟩
      · cases o26 with
        | nx _ => exact True.intro
        | rt r_ =>
          have hs := after_rt hs
          intro a1 w1 hK
          cases hs
          exact hK
        | br s22 =>
          have hs := after_br hs
          rintro a1 w23 ⟨σ, rfl, hC, hO, h0, hb2⟩
          refine c_seq ?_
          refine c_region ?_
          refine pl_val (.bool true) (y_assign rfl) ?_
          refine c_nil ?_
          refine wp_ret ?_
          cases hs
          exact ⟨_, fr_ovl 36 ⟨rfl, trivial⟩, hC⟩

theorem Bd31 : Bodied Try.prog 31 := bodied Try.func31 (by kernel_rfl) rfl

theorem Bd45 : Bodied Try.prog 45 := bodied Try.func45 (by kernel_rfl) rfl

def k_spec_l18Takes (M : Nat → Prop) (w0 : World) (r : Bool) (a : Act) (w : World) : Prop :=
  ∃ (σ : Nat → Value) , a = fr 12 (ovl σ [(4, (.bool r))]) ∧ Chg [] w0 w
def s_spec_l18Takes (n : Int) (op : Int × (List Int)) : Option (Bool) :=
  (s_spec_l6Size n).bind fun r4 =>
  (bif r4 then (s_spec_l2Op n (op.1, op.2)).bind fun r7 =>
  some r7 else some false)
set_option maxHeartbeats 4000000 in
theorem c_spec_l18Takes {M : Nat → Prop} {w : World} {pa0 : Option Addr} {pn0 pc0 : Nat} (n : Int) (op : Int × (List Int)) (h0 : (RT.rs (RT.int .i64)).val M w (.slice pa0 pn0 pc0) op.2 ([])) (hM : ∀ g, w.heap.size ≤ g → M g) {r : Bool} (hs : s_spec_l18Takes n op = some r) :
    Gives Try.prog 40 [(.int .i64 n), (.agg #[(.int .i64 op.1), (.slice pa0 pn0 pc0)])] w (fun v w' => v = (.bool r) ∧ Chg [] w w') := by
  refine calls_fr Try.func40 rfl Try.ntmps40 (Nat.le_of_ble_eq_true rfl) ?_
  have hO := Own.start (N := Nw w []) hM Nw.fut
  have hC := Chg.refl [] w
  unfold s_spec_l18Takes at hs
  refine wp_mono (Q := KPost (k_spec_l18Takes M w r)) ?_ (fun e a w1 h => ?_)
  rotate_left
  · cases e
    case ret =>
      obtain ⟨σ, rfl, hrest⟩ := h
      exact ret1x Try.results40 (res_tmp rfl) ⟨rfl, hrest⟩
    all_goals exact (h : False).elim
  refine c_seq ?_
  refine c_region ?_
  obtain ⟨w2, g2, ew2, eg2, hC2, hb2⟩ := new_block w [(.int .i64 op.1), (.slice pa0 pn0 pc0)] 24
  refine pl_val (w' := w2) (.pointer (some ⟨g2, 0, none⟩)) (y_box rfl (by rw [ew2, eg2]; kernel_rfl)) ?_
  have h0 := h0.ext hC2
  have hC := hC.ext hC2
  have hO := hO.new (X' := [g2]) hC2 (fun q hq => by rw [List.mem_singleton.1 hq, eg2]; exact Nat.le_refl _) (List.nodup_cons.2 ⟨(fun h => nomatch h), List.nodup_nil⟩) (fun q hq => by rw [List.mem_singleton.1 hq]; exact hb2.lt)
  refine pl_val (.bool false) (y_assign rfl) ?_
  refine c_nil ?_
  refine c_seq ?_
  refine c_region ?_
  refine pl_val (.int .i64 n) (y_move rfl) ?_
  obtain ⟨r4, hr4, hs⟩ := bind_some hs
  refine pl_call Bd31 rfl (c_spec_l6Size (M := M) n  hO.fut hr4) ?_
  rintro _ w3 ⟨rfl, hC3⟩
  have h0 := h0.ext hC3
  have hb2 := hb2.chg hC3 (fun h => nomatch h)
  have hC := hC.ext hC3
  have hO := hO.ext hC3
  refine pl_val (.bool r4) (y_move rfl) ?_
  rcases bif_some hs with ⟨hc5, hs⟩ | ⟨hc5, hs⟩
  · skip
    refine pl_yes (.int .i64 n) (tg := 7) (by kernel_rfl) (congrArg Value.bool hc5) (y_move rfl) ?_
    refine pl_yes (.agg #[(.int .i64 op.1), (.slice pa0 pn0 pc0)]) (tg := 7) (by kernel_rfl) (congrArg Value.bool hc5) (y_load rfl ((box_load Ag24 Sz24 hb2 [] [(.int .i64 op.1), (.slice pa0 pn0 pc0)] [] rfl rfl (fun h => nomatch h)) _ (Chg.refl _ _))) ?_
    obtain ⟨r7, hr7, hs⟩ := bind_some hs
    refine pl_cally (tg := 7) (by kernel_rfl) (congrArg Value.bool hc5) Bd45 rfl (c_spec_l2Op (M := M) n (op.1, op.2) h0 hO.fut hr7) ?_
    rintro _ w6 ⟨rfl, hC6⟩
    have h0 := h0.ext hC6
    have hb2 := hb2.chg hC6 (fun h => nomatch h)
    have hC := hC.ext hC6
    have hO := hO.ext hC6
    refine pl_val (.bool r7) (y_pick_t (congrArg Value.bool hc5) rfl) ?_
    refine pl_val (.bool r7) (y_assign rfl) ?_
    refine c_nil ?_
    refine wp_ret ?_
    cases hs
    exact ⟨_, fr_ovl 12 ⟨rfl, trivial⟩, hC⟩
  · skip
    refine pl_not (tg := 7) (by kernel_rfl) (congrArg Value.bool hc5) ?_
    refine pl_not (tg := 7) (by kernel_rfl) (congrArg Value.bool hc5) ?_
    refine pl_not (tg := 7) (by kernel_rfl) (congrArg Value.bool hc5) ?_
    refine pl_val (.bool false) (y_pick_f (congrArg Value.bool hc5) rfl) ?_
    refine pl_val (.bool false) (y_assign rfl) ?_
    refine c_nil ?_
    refine wp_ret ?_
    cases hs
    exact ⟨_, fr_ovl 12 ⟨rfl, trivial⟩, hC⟩

def k_spec_l2Args (M : Nat → Prop) (w0 : World) (r : (List Int)) (a : Act) (w : World) : Prop :=
  ∃ (σ : Nat → Value) (ra0 : Option Addr) (rn0 rc0 : Nat) (rf0 : List Nat), a = fr 27 (ovl σ [(6, (.slice ra0 rn0 rc0))]) ∧ Chg [] w0 w ∧ (RT.os 3 (RT.int .i64)).val M w (.slice ra0 rn0 rc0) r rf0 ∧ (∀ g ∈ rf0, w0.heap.size ≤ g)
def s_spec_l2Args (n : Int) (arity : Int) (at_ : Int) : Option ((List Int)) :=
  (mks arity (0 : Int)).bind fun y2 =>
  (iter (S := Int × Int × (List Int)) (R := (List Int)) (fun s17 =>
  (bif (decide (0 ≤ s17.2.1)) then (nz n).bind fun u26 =>
  (idx s17.2.2 s17.2.1).bind fun x27 =>
  (nz n).bind fun u30 =>
  some (.nx (w64 (Int.tdiv s17.1 n), w64 (s17.2.1 - 1), List.set s17.2.2 (Int.toNat s17.2.1) (Int.tmod s17.1 n))) else some (.br (s17.1, s17.2.1, s17.2.2)))) FU (at_, w64 (arity - 1), y2)).bind fun o21 => after o21 (fun r_ => some r_) (fun s17 =>
  some s17.2.2)
set_option maxHeartbeats 4000000 in
theorem c_spec_l2Args {M : Nat → Prop} {w : World}  (n : Int) (arity : Int) (at_ : Int)  (hM : ∀ g, w.heap.size ≤ g → M g) {r : (List Int)} (hs : s_spec_l2Args n arity at_ = some r) :
    Gives Try.prog 57 [(.int .i64 n), (.int .i64 arity), (.int .i64 at_)] w (fun v w' => ∃ (ra0 : Option Addr) (rn0 rc0 : Nat) (rf0 : List Nat), v = (.slice ra0 rn0 rc0) ∧ Chg [] w w' ∧ (RT.os 3 (RT.int .i64)).val M w' (.slice ra0 rn0 rc0) r rf0 ∧ (∀ g ∈ rf0, w.heap.size ≤ g)) := by
  refine calls_fr Try.func57 rfl Try.ntmps57 (Nat.le_of_ble_eq_true rfl) ?_
  have hO := Own.start (N := Nw w []) hM Nw.fut
  have hC := Chg.refl [] w
  unfold s_spec_l2Args at hs
  refine wp_mono (Q := KPost (k_spec_l2Args M w r)) ?_ (fun e a w1 h => ?_)
  rotate_left
  · cases e
    case ret =>
      obtain ⟨σ, ra0, rn0, rc0, rf0, rfl, hrest⟩ := h
      exact ret1x Try.results57 (res_tmp rfl) ⟨ra0, rn0, rc0, rf0, rfl, hrest⟩
    all_goals exact (h : False).elim
  refine c_seq ?_
  refine c_region ?_
  refine pl_val (.slice none 0 0) (y_assign rfl) ?_
  refine c_nil ?_
  refine c_seq ?_
  refine c_region ?_
  refine pl_val (.int .i64 arity) (y_move rfl) ?_
  obtain ⟨y2, hy2, hs⟩ := bind_some hs
  obtain ⟨a1, n1, c1, w1, f1, hm1, hC1, hfr1, hv1⟩ := mk_os (M := M) (w := w) (r := (RT.int .i64)) Rw22 hy2 (fun _ _ => ⟨rfl, rfl⟩)
  refine pl_val (w' := w1) (.slice a1 n1 c1) (y_make rfl rfl hm1) ?_
  have hC := hC.ext hC1
  have hO := hO.new hC1 hfr1 (os_nodup hv1) hv1.fpl
  refine pl_val (.slice a1 n1 c1) (y_assign rfl) ?_
  refine c_nil ?_
  refine c_seq ?_
  refine c_seq ?_
  refine c_region ?_
  refine pl_val (.int .i64 arity) (y_move rfl) ?_
  refine pl_val (.int .i64 (w64 (arity - 1))) (y_sub rfl rfl) ?_
  refine pl_val (.int .i64 (w64 (arity - 1))) (y_assign rfl) ?_
  refine c_nil ?_
  obtain ⟨o21, hl22, hs⟩ := bind_some hs
  refine wp_block ?_
  refine wp_iter (id := 0) (I := fun s17 a w18 => ∃ (σ : Nat → Value) (f23 : List Nat), a = fr 27 (ovl σ [(0, (.int .i64 n)), (2, (.int .i64 s17.1)), (7, (.slice a1 n1 c1)), (8, (.int .i64 s17.2.1))]) ∧ Chg [] w w18 ∧ Own (Nw w []) M w18 (f23 ++ []) ∧ (RT.os 3 (RT.int .i64)).val M w18 (.slice a1 n1 c1) s17.2.2 f23) (J := fun s17 a w18 => ∃ (σ : Nat → Value) (f24 : List Nat), a = fr 27 (ovl σ [(7, (.slice a1 n1 c1))]) ∧ Chg [] w w18 ∧ Own (Nw w []) M w18 (f24 ++ []) ∧ (RT.os 3 (RT.int .i64)).val M w18 (.slice a1 n1 c1) s17.2.2 f24) (K := (k_spec_l2Args M w)) ?_ FU (at_, w64 (arity - 1), y2) o21 _ _ ?_ hl22 ?_
  · rintro s17 o21 a w18 ⟨σ, f23, rfl, hC, hO, hv23⟩ hs
    refine c_seq ?_
    refine c_seq ?_
    refine c_region ?_
    refine pl_val (.int .i64 s17.2.1) (y_move rfl) ?_
    refine pl_val (.bool (decide (0 ≤ s17.2.1))) (y_geq rfl rfl) ?_
    refine c_nil ?_
    rcases bif_some hs with ⟨hc25, hs⟩ | ⟨hc25, hs⟩
    · skip
      refine c_condT (congrArg Value.bool hc25) ?_
      refine wp_skip ?_
      refine c_seq ?_
      refine wp_block ?_
      refine c_seq ?_
      refine c_region ?_
      refine pl_val (.slice a1 n1 c1) (y_move rfl) ?_
      refine pl_val (.int .i64 s17.2.1) (y_move rfl) ?_
      refine pl_val (.int .i64 s17.1) (y_move rfl) ?_
      refine pl_val (.int .i64 n) (y_move rfl) ?_
      obtain ⟨u26, hu26, hs⟩ := bind_some hs
      refine pl_val (.int .i64 (Int.tmod s17.1 n)) (y_rem rfl rfl (nz_ne hu26)) ?_
      obtain ⟨x27, hx27, hs⟩ := bind_some hs
      obtain ⟨g28, f28, hg28, hk28, hp28, ha28, hf28⟩ := os_idx Sl22 Sz3 hv23 hx27
      refine pl_val (.pointer (some ⟨g28, 0 + Int.toNat s17.2.1 * 1, none⟩)) (hp28 _ _ _ _ _ _ _ _ _ rfl rfl) ?_
      obtain ⟨w29, f29, hst29, hC29, hf29, hv29⟩ := os_store (P := Try.prog) (c' := [(.int .i64 (Int.tmod s17.1 n))]) hg28 hv23 hk28 (fun g hg => hO.inM g (os_block hv23 g (by simpa using hg))) ⟨rfl, rfl⟩ List.nodup_nil (fun _ h => nomatch h) (fun _ h => .inl h)
      have hG29 : ∀ q ∈ [g28], q ∈ f23 := fun q hq => os_block hv23 q (by rw [hg28]; exact hq)
      refine pl_skip (w' := w29) (ys_store rfl rfl (hst29 _ _ rfl Sz3)) ?_
      have hC := hC.step hC29 (fun g hg => hO.inN g (hG29 g hg))
      have hO := hO.grow hC29 (fun q hq => .inl ((hf29 q hq).resolve_right (fun h => nomatch h))) (os_nodup hv29) hv29.fpl
      refine c_nil ?_
      refine c_region ?_
      refine pl_val (.int .i64 s17.1) (y_move rfl) ?_
      refine pl_val (.int .i64 n) (y_move rfl) ?_
      obtain ⟨u30, hu30, hs⟩ := bind_some hs
      refine pl_val (.int .i64 (w64 (Int.tdiv s17.1 n))) (y_quo rfl rfl (nz_ne hu30)) ?_
      refine pl_val (.int .i64 (w64 (Int.tdiv s17.1 n))) (y_assign rfl) ?_
      refine c_nil ?_
      refine c_region ?_
      refine pl_val (.int .i64 s17.2.1) (y_move rfl) ?_
      refine pl_val (.int .i64 (w64 (s17.2.1 - 1))) (y_sub rfl rfl) ?_
      refine pl_val (.int .i64 (w64 (s17.2.1 - 1))) (y_assign rfl) ?_
      refine c_nil ?_
      cases hs
      exact ⟨_, f29, fr_ovl 27 ⟨rfl, rfl, rfl, rfl, trivial⟩, hC, hO, hv29⟩
    · skip
      refine c_condF (congrArg Value.bool hc25) ?_
      refine wp_exit ?_
      cases hs
      exact ⟨rfl, _, f23, fr_ovl 27 ⟨rfl, trivial⟩, hC, hO, hv23⟩
  · skip
    exact ⟨_, f1, fr_ovl 27 ⟨rfl, rfl, rfl, rfl, trivial⟩, hC, hO, hv1⟩
  · cases o21 with
    | nx _ => exact True.intro
    | rt r_ =>
      have hs := after_rt hs
      intro a1 w1 hK
      cases hs
      exact hK
    | br s17 =>
      have hs := after_br hs
      rintro a1 w18 ⟨σ, f24, rfl, hC, hO, hv24⟩
      refine c_seq ?_
      refine c_region ?_
      refine pl_val (.slice a1 n1 c1) (y_move rfl) ?_
      refine pl_val (.slice a1 n1 c1) (y_assign rfl) ?_
      refine c_nil ?_
      refine wp_ret ?_
      cases hs
      exact ⟨_, a1, n1, c1, f24, fr_ovl 27 ⟨rfl, trivial⟩, hC, hv24, (fun g hg => ((hO.2.1 g (mem_l (hg))).2.2).resolve_left (fun h => nomatch h))⟩

theorem Bd57 : Bodied Try.prog 57 := bodied Try.func57 (by kernel_rfl) rfl

def k_spec_l18Op (M : Nat → Prop) (w0 : World) (r : (Int × (List Int))) (a : Act) (w : World) : Prop :=
  ∃ (σ : Nat → Value) (rg4 : Nat) (ra0 : Option Addr) (rn0 rc0 : Nat) (rf0 : List Nat), a = fr 48 (ovl σ [(4, (.pointer (some ⟨rg4, 0, none⟩)))]) ∧ BoxV w rg4 24 [(.int .i64 r.1), (.slice ra0 rn0 rc0)] ∧ Chg [] w0 w ∧ (RT.os 3 (RT.int .i64)).val M w (.slice ra0 rn0 rc0) r.2 rf0 ∧ (∀ g ∈ rf0, w0.heap.size ≤ g)
def s_spec_l18Op (n : Int) (dual : Bool) : Option ((Int × (List Int))) :=
  (forC (S := (List Int)) (R := (Int × (List Int))) (fun k64 s62 =>
  (s_spec_l2Args n 3 k64).bind fun r73 =>
  (idx r73 0).bind fun x76 =>
  (idx r73 1).bind fun x78 =>
  (bif ((x76 == x78) == dual) then (idx r73 0).bind fun x82 =>
  (app s62 ([x82])).bind fun y87 =>
  some (.nx y87) else (idx r73 2).bind fun x91 =>
  (app s62 ([x91])).bind fun y96 =>
  some (.nx y96))) 0 (w64 ((w64 (n * n)) * n)) []).bind fun o66 => after o66 (fun r_ => some r_) (fun s62 =>
  some (3, s62))
set_option maxHeartbeats 4000000 in
theorem c_spec_l18Op {M : Nat → Prop} {w : World}  (n : Int) (dual : Bool)  (hM : ∀ g, w.heap.size ≤ g → M g) {r : (Int × (List Int))} (hs : s_spec_l18Op n dual = some r) :
    Gives Try.prog 32 [(.int .i64 n), (.bool dual)] w (fun v w' => ∃ (ra0 : Option Addr) (rn0 rc0 : Nat) (rf0 : List Nat), v = (.agg #[(.int .i64 r.1), (.slice ra0 rn0 rc0)]) ∧ Chg [] w w' ∧ (RT.os 3 (RT.int .i64)).val M w' (.slice ra0 rn0 rc0) r.2 rf0 ∧ (∀ g ∈ rf0, w.heap.size ≤ g)) := by
  refine calls_fr Try.func32 rfl Try.ntmps32 (Nat.le_of_ble_eq_true rfl) ?_
  have hO := Own.start (N := Nw w []) hM Nw.fut
  have hC := Chg.refl [] w
  unfold s_spec_l18Op at hs
  refine wp_mono (Q := KPost (k_spec_l18Op M w r)) ?_ (fun e a w1 h => ?_)
  rotate_left
  · cases e
    case ret =>
      obtain ⟨σ, rg4, ra0, rn0, rc0, rf0, rfl, hbrg4, hrest⟩ := h
      exact ret1x Try.results32 (res_cell rfl (box_load Ag24 Sz24 hbrg4 [] _ [] rfl rfl (fun h => nomatch h))) ⟨ra0, rn0, rc0, rf0, rfl, hrest⟩
    all_goals exact (h : False).elim
  refine c_seq ?_
  refine c_region ?_
  obtain ⟨w1, g1, ew1, eg1, hC1, hb1⟩ := new_block w [(.int .i64 0), (.slice none 0 0)] 24
  refine pl_val (w' := w1) (.pointer (some ⟨g1, 0, none⟩)) (y_alloc (by rw [ew1, eg1]; kernel_rfl)) ?_
  have hC := hC.ext hC1
  have hO := hO.new (X' := [g1]) hC1 (fun q hq => by rw [List.mem_singleton.1 hq, eg1]; exact Nat.le_refl _) (List.nodup_cons.2 ⟨(fun h => nomatch h), List.nodup_nil⟩) (fun q hq => by rw [List.mem_singleton.1 hq]; exact hb1.lt)
  refine c_nil ?_
  refine c_seq ?_
  refine c_region ?_
  obtain ⟨w2, g2, ew2, eg2, hC2, hb2⟩ := new_block w1 [] 3
  refine pl_val (w' := w2) (.slice (some ⟨g2, 0, none⟩) 0 0) (y_bslice rfl (by rw [ew2, eg2]; kernel_rfl)) ?_
  have hb1 := hb1.chg hC2 (fun h => nomatch h)
  have hC := hC.ext hC2
  have hO := hO.new (X' := [g2]) hC2 (fun q hq => by rw [List.mem_singleton.1 hq, eg2]; exact Nat.le_refl _) (List.nodup_cons.2 ⟨(fun h => nomatch h), List.nodup_nil⟩) (fun q hq => by rw [List.mem_singleton.1 hq]; exact hb2.lt)
  have hv2 := os_of_box (r := (RT.int .i64)) (M := M) (css := []) (fps := []) (xs := ([] : List Int)) hb2 trivial (Nat.zero_le _) (List.nodup_cons.2 ⟨(fun h => nomatch h), List.nodup_nil⟩)
  have hv2 : (RT.os 3 (RT.int .i64)).val M w2 (.slice (some ⟨g2, 0, none⟩) 0 0) [] [g2] := hv2
  refine pl_val (.agg #[(.int .i64 3), (.slice (some ⟨g2, 0, none⟩) 0 0)]) (y_build rfl (by kernel_rfl)) ?_
  obtain ⟨w4, g4, ew4, eg4, hC4, hb4⟩ := new_block w2 [(.int .i64 0), (.slice none 0 0)] 24
  refine pl_val (w' := w4) (.pointer (some ⟨g4, 0, none⟩)) (y_alloc (by rw [ew4, eg4]; kernel_rfl)) ?_
  have hb1 := hb1.chg hC4 (fun h => nomatch h)
  have hv2 := hv2.ext hC4
  have hC := hC.ext hC4
  have hO := hO.new (X' := [g4]) hC4 (fun q hq => by rw [List.mem_singleton.1 hq, eg4]; exact Nat.le_refl _) (List.nodup_cons.2 ⟨(fun h => nomatch h), List.nodup_nil⟩) (fun q hq => by rw [List.mem_singleton.1 hq]; exact hb4.lt)
  obtain ⟨w5, hst5, hC5, hb5⟩ := box_store (P := Try.prog) hb4 [] [(.int .i64 0), (.slice none 0 0)] [] [(.int .i64 3), (.slice (some ⟨g2, 0, none⟩) 0 0)] rfl rfl (by intro u hu; simp only [List.mem_cons, List.not_mem_nil, or_false] at hu; rcases hu with rfl | rfl <;> rfl)
  refine pl_skip (w' := w5) (ys_store rfl rfl (hst5 _ _ rfl Sz24)) ?_
  have hb1 := hb1.chg hC5 (fun hg => hO.apart _ ((fun _ h => h) _ hg) (mem_r (mem_l (List.mem_singleton.2 rfl))))
  have hv2 := hv2.mut hC5 (fun g hg => hO.inM g ((fun _ h => h) g hg)) (fun g hg e => hO.apart g ((fun _ h => h) g hg) (mem_l (e)))
  have hC := hC.step hC5 (fun g hg => hO.inN g ((fun _ h => h) g hg))
  have hO := hO.ext hC5
  have hb5 : BoxV w5 g4 24 [(.int .i64 3), (.slice (some ⟨g2, 0, none⟩) 0 0)] := hb5
  refine c_nil ?_
  refine c_seq ?_
  refine c_seq ?_
  refine c_region ?_
  refine pl_val (.int .i64 0) (y_assign rfl) ?_
  refine c_nil ?_
  obtain ⟨o66, hl67, hs⟩ := bind_some hs
  refine wp_block ?_
  refine wp_forC (id := 0) (w64 ((w64 (n * n)) * n)) (I := fun k64 s62 a w63 => ∃ (σ : Nat → Value) (a68 : Option Addr) (n68 : Nat) (c68 : Nat) (f68 : List Nat), a = fr 48 (ovl σ [(0, (.int .i64 n)), (1, (.bool dual)), (4, (.pointer (some ⟨g1, 0, none⟩))), (5, (.pointer (some ⟨g4, 0, none⟩))), (6, (.int .i64 k64))]) ∧ Chg [] w w63 ∧ Own (Nw w []) M w63 (f68 ++ (([g4]) ++ (([g1]) ++ []))) ∧ BoxV w63 g1 24 [(.int .i64 0), (.slice none 0 0)] ∧ BoxV w63 g4 24 [(.int .i64 3), (.slice a68 n68 c68)] ∧ (RT.os 3 (RT.int .i64)).val M w63 (.slice a68 n68 c68) s62 f68) (J := fun s62 a w63 => ∃ (σ : Nat → Value) (a70 : Option Addr) (n70 : Nat) (c70 : Nat) (f70 : List Nat), a = fr 48 (ovl σ [(4, (.pointer (some ⟨g1, 0, none⟩))), (5, (.pointer (some ⟨g4, 0, none⟩)))]) ∧ Chg [] w w63 ∧ Own (Nw w []) M w63 (f70 ++ (([g4]) ++ (([g1]) ++ []))) ∧ BoxV w63 g1 24 [(.int .i64 0), (.slice none 0 0)] ∧ BoxV w63 g4 24 [(.int .i64 3), (.slice a70 n70 c70)] ∧ (RT.os 3 (RT.int .i64)).val M w63 (.slice a70 n70 c70) s62 f70) (K := (k_spec_l18Op M w)) ?_ ?_ 0 [] o66 _ _ ?_ hl67 ?_
  · rintro k64 s62 a w63 ⟨σ, a68, n68, c68, f68, rfl, hC, hO, hb1, hb5, hv68⟩ hlt
    refine c_seq ?_
    refine c_seq ?_
    refine c_region ?_
    refine pl_val (.int .i64 k64) (y_move rfl) ?_
    refine pl_val (.int .i64 n) (y_move rfl) ?_
    refine pl_val (.int .i64 n) (y_move rfl) ?_
    refine pl_val (.int .i64 (w64 (n * n))) (y_mul rfl rfl) ?_
    refine pl_val (.int .i64 n) (y_move rfl) ?_
    refine pl_val (.int .i64 (w64 ((w64 (n * n)) * n))) (y_mul rfl rfl) ?_
    refine pl_val (.bool (decide (k64 < (w64 ((w64 (n * n)) * n))))) (y_lss rfl rfl) ?_
    refine c_nil ?_
    refine c_condF (congrArg Value.bool (decide_eq_false hlt)) ?_
    refine wp_exit ?_
    have hO := hO.fr2
    have hO := hO.fr2
    have hO := hO.fr2
    exact ⟨rfl, _, a68, n68, c68, f68, fr_ovl 48 ⟨rfl, rfl, trivial⟩, hC, hO, hb1, hb5, hv68⟩
  · rintro k64 s62 o66 a w63 ⟨σ, a68, n68, c68, f68, rfl, hC, hO, hb1, hb5, hv68⟩ hlt hw hs
    refine c_seq ?_
    refine c_seq ?_
    refine c_region ?_
    refine pl_val (.int .i64 k64) (y_move rfl) ?_
    refine pl_val (.int .i64 n) (y_move rfl) ?_
    refine pl_val (.int .i64 n) (y_move rfl) ?_
    refine pl_val (.int .i64 (w64 (n * n))) (y_mul rfl rfl) ?_
    refine pl_val (.int .i64 n) (y_move rfl) ?_
    refine pl_val (.int .i64 (w64 ((w64 (n * n)) * n))) (y_mul rfl rfl) ?_
    refine pl_val (.bool (decide (k64 < (w64 ((w64 (n * n)) * n))))) (y_lss rfl rfl) ?_
    refine c_nil ?_
    refine c_condT (congrArg Value.bool (decide_eq_true hlt)) ?_
    refine wp_skip ?_
    refine c_seq ?_
    refine wp_block ?_
    refine c_seq ?_
    refine c_region ?_
    refine pl_val (.int .i64 n) (y_move rfl) ?_
    refine pl_val (.int .i64 k64) (y_move rfl) ?_
    obtain ⟨r73, hr73, hs⟩ := bind_some hs
    refine pl_call Bd57 rfl (c_spec_l2Args (M := M) n 3 k64  hO.fut hr73) ?_
    rintro _ w72 ⟨a72x0, n72x0, c72x0, f72x0, rfl, hC72, hv72x0, hfr72x0⟩
    have hb1 := hb1.chg hC72 (fun h => nomatch h)
    have hb5 := hb5.chg hC72 (fun h => nomatch h)
    have hv68 := hv68.ext hC72
    have hC := hC.ext hC72
    have hO := hO.new hC72 hfr72x0 (os_nodup hv72x0) hv72x0.fpl
    refine pl_val (.slice a72x0 n72x0 c72x0) (y_assign rfl) ?_
    refine c_nil ?_
    refine c_seq ?_
    refine x_start [] Mx rfl ?_
    have hCw75 := Chg.drew w72
    generalize World.drew w72 = w75 at hCw75 ⊢
    have hb1 := hb1.chg hCw75 (fun h => nomatch h)
    have hb5 := hb5.chg hCw75 (fun h => nomatch h)
    have hv68 := hv68.ext hCw75
    have hv72x0 := hv72x0.ext hCw75
    have hC := hC.ext hCw75
    have hO := hO.ext hCw75
    have hS := Chg.refl [] w75
    refine x_p 0 (.slice a72x0 n72x0 c72x0) rfl (by kernel_rfl)  (fun _ => y_move rfl) (fun _ => hS) ?_
    obtain ⟨x76, hx76, hs⟩ := bind_some hs
    obtain ⟨g77, f77, hg77, hk77, hp77, ha77, hf77⟩ := os_idx Sl22 Sz3 hv72x0 hx76
    refine x_p 1 (.pointer (some ⟨g77, 0 + Int.toNat 0 * 1, none⟩)) rfl (by kernel_rfl)  (fun _ => hp77 _ _ _ _ _ _ _ _ _ rfl rfl) (fun _ => hS) ?_
    refine x_l 2 (.int .i64 x76) rfl (by kernel_rfl)  (fun w' hw' => y_load rfl ((at_load_int Ag3 Sz3 ha77) w' hw')) hS ?_
    refine x_p 3 (.slice a72x0 n72x0 c72x0) rfl (by kernel_rfl)  (fun _ => y_move rfl) (fun _ => hS) ?_
    obtain ⟨x78, hx78, hs⟩ := bind_some hs
    obtain ⟨g79, f79, hg79, hk79, hp79, ha79, hf79⟩ := os_idx Sl22 Sz3 hv72x0 hx78
    refine x_p 4 (.pointer (some ⟨g79, 0 + Int.toNat 1 * 1, none⟩)) rfl (by kernel_rfl)  (fun _ => hp79 _ _ _ _ _ _ _ _ _ rfl rfl) (fun _ => hS) ?_
    refine x_l 5 (.int .i64 x78) rfl (by kernel_rfl)  (fun w' hw' => y_load rfl ((at_load_int Ag3 Sz3 ha79) w' hw')) hS ?_
    refine x_p 6 (.bool (x76 == x78)) rfl (by kernel_rfl)  (fun _ => y_eql rfl rfl) (fun _ => hS) ?_
    refine x_p 7 (.bool dual) rfl (by kernel_rfl)  (fun _ => y_move rfl) (fun _ => hS) ?_
    refine x_p 8 (.bool ((x76 == x78) == dual)) rfl (by kernel_rfl)  (fun _ => y_beql Try.underlying4 rfl rfl) (fun _ => hS) ?_
    refine x_end (by kernel_rfl) ?_
    clear hS
    rcases bif_some hs with ⟨hc80, hs⟩ | ⟨hc80, hs⟩
    · skip
      refine c_condT (congrArg Value.bool hc80) ?_
      refine x_start [6, 8] Mx rfl ?_
      have hCw81 := Chg.drew w75
      generalize World.drew w75 = w81 at hCw81 ⊢
      have hb1 := hb1.chg hCw81 (fun h => nomatch h)
      have hb5 := hb5.chg hCw81 (fun h => nomatch h)
      have hv68 := hv68.ext hCw81
      have hv72x0 := hv72x0.ext hCw81
      have hC := hC.ext hCw81
      have hO := hO.ext hCw81
      have hS := Chg.refl [] w81
      refine x_p 0 (.pointer (some ⟨g4, 1, none⟩)) rfl (by kernel_rfl)  (fun _ => y_faddr rfl Fa24x1) (fun _ => hS) ?_
      refine x_l 1 (.slice a68 n68 c68) rfl (by kernel_rfl)  (fun w' hw' => y_load rfl ((box_load Ag22 Sz22 hb5 [(.int .i64 3)] [(.slice a68 n68 c68)] [] rfl rfl (fun _ => rfl)) w' hw')) hS ?_
      refine x_p 2 (.slice a72x0 n72x0 c72x0) rfl (by kernel_rfl)  (fun _ => y_move rfl) (fun _ => hS) ?_
      obtain ⟨x82, hx82, hs⟩ := bind_some hs
      obtain ⟨g83, f83, hg83, hk83, hp83, ha83, hf83⟩ := os_idx Sl22 Sz3 hv72x0 hx82
      refine x_p 3 (.pointer (some ⟨g83, 0 + Int.toNat 0 * 1, none⟩)) rfl (by kernel_rfl)  (fun _ => hp83 _ _ _ _ _ _ _ _ _ rfl rfl) (fun _ => hS) ?_
      refine x_l 4 (.int .i64 x82) rfl (by kernel_rfl)  (fun w' hw' => y_load rfl ((at_load_int Ag3 Sz3 ha83) w' hw')) hS ?_
      refine x_one (i := 5) (by kernel_rfl) ?_
      obtain ⟨w84, g84, ew84, eg84, hC84, hb84⟩ := new_block w81 [(.int .i64 x82)] 3
      refine xk_val (w' := w84) (b := false) (.slice (some ⟨g84, 0, none⟩) 1 1) rfl  (y_bslice rfl (by rw [ew84, eg84]; kernel_rfl)) rfl (fun _ => hS.ext hC84) ?_
      have hb1 := hb1.chg hC84 (fun h => nomatch h)
      have hb5 := hb5.chg hC84 (fun h => nomatch h)
      have hv68 := hv68.ext hC84
      have hv72x0 := hv72x0.ext hC84
      have hC := hC.ext hC84
      have hO := hO.new (X' := [g84]) hC84 (fun q hq => by rw [List.mem_singleton.1 hq, eg84]; exact Nat.le_refl _) (List.nodup_cons.2 ⟨(fun h => nomatch h), List.nodup_nil⟩) (fun q hq => by rw [List.mem_singleton.1 hq]; exact hb84.lt)
      have hv84 := os_of_box (r := (RT.int .i64)) (M := M) (css := [[(.int .i64 x82)]]) (fps := [([] : List Nat)]) (xs := ([x82] : List Int)) hb84 ⟨⟨rfl, rfl⟩, trivial⟩ (Nat.le_of_ble_eq_true rfl) (List.nodup_cons.2 ⟨(fun h => nomatch h), List.nodup_nil⟩)
      have hv84 : (RT.os 3 (RT.int .i64)).val M w84 (.slice (some ⟨g84, 0, none⟩) 1 1) [x82] [g84] := hv84
      have hS := hS.ext hC84
      refine x_one (i := 6) (by kernel_rfl) ?_
      obtain ⟨y87, hy87, hs⟩ := bind_some hs
      have hO := hO.fr2
      obtain ⟨a86, n86, c86, w86, f86, hr86, hC86, hf86, hv86⟩ := app_os Rw22 hy87 hv68 hv84 hO.inM (fun g hg hq => hO.apart g hq (mem_l hg))
      have hG86 := os_block hv68
      refine xk_val (w' := w86) (b := true) (.slice a86 n86 c86) rfl  (y_append rfl rfl (hr86 _)) rfl (fun h => nomatch h) ?_
      have hO := hO.fr1
      have hO := hO.fr1
      have hb1 := hb1.chg hC86 (fun hg => hO.apart _ (hG86 _ hg) (mem_r (mem_r (mem_r (mem_l (List.mem_singleton.2 rfl))))))
      have hb5 := hb5.chg hC86 (fun hg => hO.apart _ (hG86 _ hg) (mem_r (mem_r (mem_l (List.mem_singleton.2 rfl)))))
      have hv72x0 := hv72x0.mut hC86 (fun g hg => hO.inM g (hG86 g hg)) (fun g hg e => hO.apart g (hG86 g hg) (mem_r (mem_l (e))))
      have hC := hC.step hC86 (fun g hg => hO.inN g (hG86 g hg))
      have hO := hO.eat hC86 hf86 (os_nodup hv86) hv86.fpl
      refine x_p 7 (.pointer (some ⟨g4, 1, none⟩)) rfl (by kernel_rfl)  (fun _ => y_faddr rfl Fa24x1) (fun h => nomatch h) ?_
      refine x_one (i := 8) (by kernel_rfl) ?_
      obtain ⟨w89, hst89, hC89, hb89⟩ := box_store (P := Try.prog) hb5 [(.int .i64 3)] [(.slice a68 n68 c68)] [] [(.slice a86 n86 c86)] rfl rfl (by intro u hu; simp only [List.mem_cons, List.not_mem_nil, or_false] at hu; rcases hu with rfl <;> rfl)
      refine xk_skip (w' := w89) (b := true) rfl (ys_store rfl rfl (hst89 _ _ rfl Sz22)) rfl (fun h => nomatch h) ?_
      have hO := hO.fr2
      have hb1 := hb1.chg hC89 (fun hg => hO.apart _ ((fun _ h => h) _ hg) (mem_r (mem_r (mem_l (List.mem_singleton.2 rfl)))))
      have hv72x0 := hv72x0.mut hC89 (fun g hg => hO.inM g ((fun _ h => h) g hg)) (fun g hg e => hO.apart g ((fun _ h => h) g hg) (mem_r (mem_l (e))))
      have hv86 := hv86.mut hC89 (fun g hg => hO.inM g ((fun _ h => h) g hg)) (fun g hg e => hO.apart g ((fun _ h => h) g hg) (mem_l (e)))
      have hC := hC.step hC89 (fun g hg => hO.inN g ((fun _ h => h) g hg))
      have hO := hO.ext hC89
      have hb89 : BoxV w89 g4 24 [(.int .i64 3), (.slice a86 n86 c86)] := hb89
      refine x_end (by kernel_rfl) ?_
      clear hS
      refine c_region ?_
      refine pl_val (.int .i64 k64) (y_move rfl) ?_
      refine pl_val (.int .i64 (w64 (k64 + 1))) (y_add rfl rfl) ?_
      refine pl_val (.int .i64 (w64 (k64 + 1))) (y_assign rfl) ?_
      refine c_nil ?_
      cases hs
      have hO := hO.fr2
      have hO := hO.drop
      have hO := hO.fr2
      have hO := hO.fr1
      have hO := hO.fr2
      exact ⟨_, a86, n86, c86, f86, fr_ovl 48 ⟨rfl, rfl, rfl, rfl, congrArg (Value.int .i64) hw, trivial⟩, hC, hO, hb1, hb89, hv86⟩
    · skip
      refine c_condF (congrArg Value.bool hc80) ?_
      refine x_start [6, 8] Mx rfl ?_
      have hCw90 := Chg.drew w75
      generalize World.drew w75 = w90 at hCw90 ⊢
      have hb1 := hb1.chg hCw90 (fun h => nomatch h)
      have hb5 := hb5.chg hCw90 (fun h => nomatch h)
      have hv68 := hv68.ext hCw90
      have hv72x0 := hv72x0.ext hCw90
      have hC := hC.ext hCw90
      have hO := hO.ext hCw90
      have hS := Chg.refl [] w90
      refine x_p 0 (.pointer (some ⟨g4, 1, none⟩)) rfl (by kernel_rfl)  (fun _ => y_faddr rfl Fa24x1) (fun _ => hS) ?_
      refine x_l 1 (.slice a68 n68 c68) rfl (by kernel_rfl)  (fun w' hw' => y_load rfl ((box_load Ag22 Sz22 hb5 [(.int .i64 3)] [(.slice a68 n68 c68)] [] rfl rfl (fun _ => rfl)) w' hw')) hS ?_
      refine x_p 2 (.slice a72x0 n72x0 c72x0) rfl (by kernel_rfl)  (fun _ => y_move rfl) (fun _ => hS) ?_
      obtain ⟨x91, hx91, hs⟩ := bind_some hs
      obtain ⟨g92, f92, hg92, hk92, hp92, ha92, hf92⟩ := os_idx Sl22 Sz3 hv72x0 hx91
      refine x_p 3 (.pointer (some ⟨g92, 0 + Int.toNat 2 * 1, none⟩)) rfl (by kernel_rfl)  (fun _ => hp92 _ _ _ _ _ _ _ _ _ rfl rfl) (fun _ => hS) ?_
      refine x_l 4 (.int .i64 x91) rfl (by kernel_rfl)  (fun w' hw' => y_load rfl ((at_load_int Ag3 Sz3 ha92) w' hw')) hS ?_
      refine x_one (i := 5) (by kernel_rfl) ?_
      obtain ⟨w93, g93, ew93, eg93, hC93, hb93⟩ := new_block w90 [(.int .i64 x91)] 3
      refine xk_val (w' := w93) (b := false) (.slice (some ⟨g93, 0, none⟩) 1 1) rfl  (y_bslice rfl (by rw [ew93, eg93]; kernel_rfl)) rfl (fun _ => hS.ext hC93) ?_
      have hb1 := hb1.chg hC93 (fun h => nomatch h)
      have hb5 := hb5.chg hC93 (fun h => nomatch h)
      have hv68 := hv68.ext hC93
      have hv72x0 := hv72x0.ext hC93
      have hC := hC.ext hC93
      have hO := hO.new (X' := [g93]) hC93 (fun q hq => by rw [List.mem_singleton.1 hq, eg93]; exact Nat.le_refl _) (List.nodup_cons.2 ⟨(fun h => nomatch h), List.nodup_nil⟩) (fun q hq => by rw [List.mem_singleton.1 hq]; exact hb93.lt)
      have hv93 := os_of_box (r := (RT.int .i64)) (M := M) (css := [[(.int .i64 x91)]]) (fps := [([] : List Nat)]) (xs := ([x91] : List Int)) hb93 ⟨⟨rfl, rfl⟩, trivial⟩ (Nat.le_of_ble_eq_true rfl) (List.nodup_cons.2 ⟨(fun h => nomatch h), List.nodup_nil⟩)
      have hv93 : (RT.os 3 (RT.int .i64)).val M w93 (.slice (some ⟨g93, 0, none⟩) 1 1) [x91] [g93] := hv93
      have hS := hS.ext hC93
      refine x_one (i := 6) (by kernel_rfl) ?_
      obtain ⟨y96, hy96, hs⟩ := bind_some hs
      have hO := hO.fr2
      obtain ⟨a95, n95, c95, w95, f95, hr95, hC95, hf95, hv95⟩ := app_os Rw22 hy96 hv68 hv93 hO.inM (fun g hg hq => hO.apart g hq (mem_l hg))
      have hG95 := os_block hv68
      refine xk_val (w' := w95) (b := true) (.slice a95 n95 c95) rfl  (y_append rfl rfl (hr95 _)) rfl (fun h => nomatch h) ?_
      have hO := hO.fr1
      have hO := hO.fr1
      have hb1 := hb1.chg hC95 (fun hg => hO.apart _ (hG95 _ hg) (mem_r (mem_r (mem_r (mem_l (List.mem_singleton.2 rfl))))))
      have hb5 := hb5.chg hC95 (fun hg => hO.apart _ (hG95 _ hg) (mem_r (mem_r (mem_l (List.mem_singleton.2 rfl)))))
      have hv72x0 := hv72x0.mut hC95 (fun g hg => hO.inM g (hG95 g hg)) (fun g hg e => hO.apart g (hG95 g hg) (mem_r (mem_l (e))))
      have hC := hC.step hC95 (fun g hg => hO.inN g (hG95 g hg))
      have hO := hO.eat hC95 hf95 (os_nodup hv95) hv95.fpl
      refine x_p 7 (.pointer (some ⟨g4, 1, none⟩)) rfl (by kernel_rfl)  (fun _ => y_faddr rfl Fa24x1) (fun h => nomatch h) ?_
      refine x_one (i := 8) (by kernel_rfl) ?_
      obtain ⟨w98, hst98, hC98, hb98⟩ := box_store (P := Try.prog) hb5 [(.int .i64 3)] [(.slice a68 n68 c68)] [] [(.slice a95 n95 c95)] rfl rfl (by intro u hu; simp only [List.mem_cons, List.not_mem_nil, or_false] at hu; rcases hu with rfl <;> rfl)
      refine xk_skip (w' := w98) (b := true) rfl (ys_store rfl rfl (hst98 _ _ rfl Sz22)) rfl (fun h => nomatch h) ?_
      have hO := hO.fr2
      have hb1 := hb1.chg hC98 (fun hg => hO.apart _ ((fun _ h => h) _ hg) (mem_r (mem_r (mem_l (List.mem_singleton.2 rfl)))))
      have hv72x0 := hv72x0.mut hC98 (fun g hg => hO.inM g ((fun _ h => h) g hg)) (fun g hg e => hO.apart g ((fun _ h => h) g hg) (mem_r (mem_l (e))))
      have hv95 := hv95.mut hC98 (fun g hg => hO.inM g ((fun _ h => h) g hg)) (fun g hg e => hO.apart g ((fun _ h => h) g hg) (mem_l (e)))
      have hC := hC.step hC98 (fun g hg => hO.inN g ((fun _ h => h) g hg))
      have hO := hO.ext hC98
      have hb98 : BoxV w98 g4 24 [(.int .i64 3), (.slice a95 n95 c95)] := hb98
      refine x_end (by kernel_rfl) ?_
      clear hS
      refine c_region ?_
      refine pl_val (.int .i64 k64) (y_move rfl) ?_
      refine pl_val (.int .i64 (w64 (k64 + 1))) (y_add rfl rfl) ?_
      refine pl_val (.int .i64 (w64 (k64 + 1))) (y_assign rfl) ?_
      refine c_nil ?_
      cases hs
      have hO := hO.fr2
      have hO := hO.drop
      have hO := hO.fr2
      have hO := hO.fr1
      have hO := hO.fr2
      exact ⟨_, a95, n95, c95, f95, fr_ovl 48 ⟨rfl, rfl, rfl, rfl, congrArg (Value.int .i64) hw, trivial⟩, hC, hO, hb1, hb98, hv95⟩
  · skip
    have hO := hO.fr2
    have hO := hO.fr1
    have hO := hO.fr2
    exact ⟨_, (some ⟨g2, 0, none⟩), 0, 0, ([g2]), fr_ovl 48 ⟨rfl, rfl, rfl, rfl, rfl, trivial⟩, hC, hO, hb1, hb5, hv2⟩
  · cases o66 with
    | nx _ => exact True.intro
    | rt r_ =>
      have hs := after_rt hs
      intro a1 w1 hK
      cases hs
      exact hK
    | br s62 =>
      have hs := after_br hs
      rintro a1 w63 ⟨σ, a70, n70, c70, f70, rfl, hC, hO, hb1, hb5, hv70⟩
      refine c_seq ?_
      refine c_region ?_
      refine pl_val (.agg #[(.int .i64 3), (.slice a70 n70 c70)]) (y_load rfl ((box_load Ag24 Sz24 hb5 [] [(.int .i64 3), (.slice a70 n70 c70)] [] rfl rfl (fun h => nomatch h)) _ (Chg.refl _ _))) ?_
      obtain ⟨w99, hst99, hC99, hb99⟩ := box_store (P := Try.prog) hb1 [] [(.int .i64 0), (.slice none 0 0)] [] [(.int .i64 3), (.slice a70 n70 c70)] rfl rfl (by intro u hu; simp only [List.mem_cons, List.not_mem_nil, or_false] at hu; rcases hu with rfl | rfl <;> rfl)
      refine pl_skip (w' := w99) (ys_store rfl rfl (hst99 _ _ rfl Sz24)) ?_
      have hO := hO.fr2
      have hb5 := hb5.chg hC99 (fun hg => hO.apart _ ((fun _ h => h) _ hg) (mem_r (mem_l (List.mem_singleton.2 rfl))))
      have hv70 := hv70.mut hC99 (fun g hg => hO.inM g ((fun _ h => h) g hg)) (fun g hg e => hO.apart g ((fun _ h => h) g hg) (mem_l (e)))
      have hC := hC.step hC99 (fun g hg => hO.inN g ((fun _ h => h) g hg))
      have hO := hO.ext hC99
      have hb99 : BoxV w99 g1 24 [(.int .i64 3), (.slice a70 n70 c70)] := hb99
      refine c_nil ?_
      refine wp_ret ?_
      cases hs
      exact ⟨_, g1, a70, n70, c70, f70, fr_ovl 48 ⟨rfl, trivial⟩, hb99, hC, hv70, (fun g hg => ((hO.2.1 g (mem_r (mem_l (hg)))).2.2).resolve_left (fun h => nomatch h))⟩

def k_spec_l1Same (M : Nat → Prop) (w0 : World) (r : Bool) (a : Act) (w : World) : Prop :=
  ∃ (σ : Nat → Value) , a = fr 26 (ovl σ [(4, (.bool r))]) ∧ Chg [] w0 w
def s_spec_l1Same (a_ : List Int) (b : List Int) : Option (Bool) :=
  (bif ((a_.length : Int) != (b.length : Int)) then some false else (forC (S := Unit) (R := Bool) (fun k12 s10 =>
  (idx a_ k12).bind fun x17 =>
  (idx b k12).bind fun x19 =>
  (bif (x17 != x19) then some (.rt false) else some (.nx ()))) 0 (a_.length : Int) ()).bind fun o14 => after o14 (fun r_ => some r_) (fun s10 =>
  some true))
set_option maxHeartbeats 4000000 in
theorem c_spec_l1Same {M : Nat → Prop} {w : World} {pa0 : Option Addr} {pn0 pc0 : Nat} {pa1 : Option Addr} {pn1 pc1 : Nat} (a_ : List Int) (b : List Int) (h0 : (RT.rs (RT.int .i64)).val M w (.slice pa0 pn0 pc0) a_ ([])) (h1 : (RT.rs (RT.int .i64)).val M w (.slice pa1 pn1 pc1) b ([])) (hM : ∀ g, w.heap.size ≤ g → M g) {r : Bool} (hs : s_spec_l1Same a_ b = some r) :
    Gives Try.prog 41 [(.slice pa0 pn0 pc0), (.slice pa1 pn1 pc1)] w (fun v w' => v = (.bool r) ∧ Chg [] w w') := by
  refine calls_fr Try.func41 rfl Try.ntmps41 (Nat.le_of_ble_eq_true rfl) ?_
  have hO := Own.start (N := Nw w []) hM Nw.fut
  have hC := Chg.refl [] w
  unfold s_spec_l1Same at hs
  refine wp_mono (Q := KPost (k_spec_l1Same M w r)) ?_ (fun e a w1 h => ?_)
  rotate_left
  · cases e
    case ret =>
      obtain ⟨σ, rfl, hrest⟩ := h
      exact ret1x Try.results41 (res_tmp rfl) ⟨rfl, hrest⟩
    all_goals exact (h : False).elim
  refine c_seq ?_
  refine c_region ?_
  refine pl_val (.bool false) (y_assign rfl) ?_
  refine c_nil ?_
  refine c_seq ?_
  refine c_seq ?_
  refine c_region ?_
  refine pl_val (.slice pa0 pn0 pc0) (y_move rfl) ?_
  refine pl_val (.int .i64 (a_.length : Int)) (y_len' Sl22 (rs_len h0) rfl) ?_
  refine pl_val (.slice pa1 pn1 pc1) (y_move rfl) ?_
  refine pl_val (.int .i64 (b.length : Int)) (y_len' Sl22 (rs_len h1) rfl) ?_
  refine pl_val (.bool ((a_.length : Int) != (b.length : Int))) (y_neq rfl rfl) ?_
  refine c_nil ?_
  rcases bif_some hs with ⟨hc3, hs⟩ | ⟨hc3, hs⟩
  · skip
    refine c_condT (congrArg Value.bool hc3) ?_
    refine c_seq ?_
    refine c_region ?_
    refine pl_val (.bool false) (y_assign rfl) ?_
    refine c_nil ?_
    refine wp_ret ?_
    cases hs
    exact ⟨_, fr_ovl 26 ⟨rfl, trivial⟩, hC⟩
  · skip
    refine c_condF (congrArg Value.bool hc3) ?_
    refine wp_skip ?_
    refine c_seq ?_
    refine c_seq ?_
    refine c_region ?_
    refine pl_val (.int .i64 0) (y_assign rfl) ?_
    refine c_nil ?_
    obtain ⟨o14, hl15, hs⟩ := bind_some hs
    refine wp_block ?_
    refine wp_forC (id := 0) (a_.length : Int) (I := fun k12 s10 a w11 => ∃ (σ : Nat → Value), a = fr 26 (ovl σ [(0, (.slice pa0 pn0 pc0)), (1, (.slice pa1 pn1 pc1)), (5, (.int .i64 k12))]) ∧ Chg [] w w11 ∧ Own (Nw w []) M w11 ([]) ∧ (RT.rs (RT.int .i64)).val M w11 (.slice pa0 pn0 pc0) a_ ([]) ∧ (RT.rs (RT.int .i64)).val M w11 (.slice pa1 pn1 pc1) b ([])) (J := fun s10 a w11 => ∃ (σ : Nat → Value), a = fr 26 (ovl σ []) ∧ Chg [] w w11 ∧ Own (Nw w []) M w11 ([]) ∧ (RT.rs (RT.int .i64)).val M w11 (.slice pa0 pn0 pc0) a_ ([]) ∧ (RT.rs (RT.int .i64)).val M w11 (.slice pa1 pn1 pc1) b ([])) (K := (k_spec_l1Same M w)) ?_ ?_ 0 () o14 _ _ ?_ hl15 ?_
    · rintro k12 s10 a w11 ⟨σ, rfl, hC, hO, h0, h1⟩ hlt
      refine c_seq ?_
      refine c_seq ?_
      refine c_region ?_
      refine pl_val (.int .i64 k12) (y_move rfl) ?_
      refine pl_val (.slice pa0 pn0 pc0) (y_move rfl) ?_
      refine pl_val (.int .i64 (a_.length : Int)) (y_len' Sl22 (rs_len h0) rfl) ?_
      refine pl_val (.bool (decide (k12 < (a_.length : Int)))) (y_lss rfl rfl) ?_
      refine c_nil ?_
      refine c_condF (congrArg Value.bool (decide_eq_false hlt)) ?_
      refine wp_exit ?_
      exact ⟨rfl, _, fr_ovl 26 trivial, hC, hO, h0, h1⟩
    · rintro k12 s10 o14 a w11 ⟨σ, rfl, hC, hO, h0, h1⟩ hlt hw hs
      refine c_seq ?_
      refine c_seq ?_
      refine c_region ?_
      refine pl_val (.int .i64 k12) (y_move rfl) ?_
      refine pl_val (.slice pa0 pn0 pc0) (y_move rfl) ?_
      refine pl_val (.int .i64 (a_.length : Int)) (y_len' Sl22 (rs_len h0) rfl) ?_
      refine pl_val (.bool (decide (k12 < (a_.length : Int)))) (y_lss rfl rfl) ?_
      refine c_nil ?_
      refine c_condT (congrArg Value.bool (decide_eq_true hlt)) ?_
      refine wp_skip ?_
      refine c_seq ?_
      refine wp_block ?_
      refine c_seq ?_
      refine x_start [] Mx rfl ?_
      have hCw16 := Chg.drew w11
      generalize World.drew w11 = w16 at hCw16 ⊢
      have h0 := h0.ext hCw16
      have h1 := h1.ext hCw16
      have hC := hC.ext hCw16
      have hO := hO.ext hCw16
      have hS := Chg.refl [] w16
      refine x_p 0 (.slice pa0 pn0 pc0) rfl (by kernel_rfl)  (fun _ => y_move rfl) (fun _ => hS) ?_
      refine x_p 1 (.int .i64 k12) rfl (by kernel_rfl)  (fun _ => y_move rfl) (fun _ => hS) ?_
      obtain ⟨x17, hx17, hs⟩ := bind_some hs
      obtain ⟨b18, o18, hp18, ha18⟩ := rs_idx Sl22 Sz3 h0 hx17
      refine x_p 2 (.pointer (some ⟨b18, o18, none⟩)) rfl (by kernel_rfl)  (fun _ => hp18 _ _ _ _ _ _ _ _ _ rfl rfl) (fun _ => hS) ?_
      refine x_l 3 (.int .i64 x17) rfl (by kernel_rfl)  (fun w' hw' => y_load rfl ((at_load_int Ag3 Sz3 ha18) w' hw')) hS ?_
      refine x_p 4 (.slice pa1 pn1 pc1) rfl (by kernel_rfl)  (fun _ => y_move rfl) (fun _ => hS) ?_
      refine x_p 5 (.int .i64 k12) rfl (by kernel_rfl)  (fun _ => y_move rfl) (fun _ => hS) ?_
      obtain ⟨x19, hx19, hs⟩ := bind_some hs
      obtain ⟨b20, o20, hp20, ha20⟩ := rs_idx Sl22 Sz3 h1 hx19
      refine x_p 6 (.pointer (some ⟨b20, o20, none⟩)) rfl (by kernel_rfl)  (fun _ => hp20 _ _ _ _ _ _ _ _ _ rfl rfl) (fun _ => hS) ?_
      refine x_l 7 (.int .i64 x19) rfl (by kernel_rfl)  (fun w' hw' => y_load rfl ((at_load_int Ag3 Sz3 ha20) w' hw')) hS ?_
      refine x_p 8 (.bool (x17 != x19)) rfl (by kernel_rfl)  (fun _ => y_neq rfl rfl) (fun _ => hS) ?_
      refine x_end (by kernel_rfl) ?_
      clear hS
      rcases bif_some hs with ⟨hc21, hs⟩ | ⟨hc21, hs⟩
      · skip
        refine c_condT (congrArg Value.bool hc21) ?_
        refine c_seq ?_
        refine c_region ?_
        refine pl_val (.bool false) (y_assign rfl) ?_
        refine c_nil ?_
        refine wp_ret ?_
        cases hs
        exact ⟨_, fr_ovl 26 ⟨rfl, trivial⟩, hC⟩
      · skip
        refine c_condF (congrArg Value.bool hc21) ?_
        refine wp_skip ?_
        refine c_region ?_
        refine pl_val (.int .i64 k12) (y_move rfl) ?_
        refine pl_val (.int .i64 (w64 (k12 + 1))) (y_add rfl rfl) ?_
        refine pl_val (.int .i64 (w64 (k12 + 1))) (y_assign rfl) ?_
        refine c_nil ?_
        cases hs
        exact ⟨_, fr_ovl 26 ⟨rfl, rfl, congrArg (Value.int .i64) hw, trivial⟩, hC, hO, h0, h1⟩
    · skip
      exact ⟨_, fr_ovl 26 ⟨rfl, rfl, rfl, trivial⟩, hC, hO, h0, h1⟩
    · cases o14 with
      | nx _ => exact True.intro
      | rt r_ =>
        have hs := after_rt hs
        intro a1 w1 hK
        cases hs
        exact hK
      | br s10 =>
        have hs := after_br hs
        rintro a1 w11 ⟨σ, rfl, hC, hO, h0, h1⟩
        refine c_seq ?_
        refine c_region ?_
        refine pl_val (.bool true) (y_assign rfl) ?_
        refine c_nil ?_
        refine wp_ret ?_
        cases hs
        exact ⟨_, fr_ovl 26 ⟨rfl, trivial⟩, hC⟩

theorem Bd40 : Bodied Try.prog 40 := bodied Try.func40 (by kernel_rfl) rfl

theorem Bd32 : Bodied Try.prog 32 := bodied Try.func32 (by kernel_rfl) rfl

theorem Bd41 : Bodied Try.prog 41 := bodied Try.func41 (by kernel_rfl) rfl

def k_spec_IsDiscriminatorOp (M : Nat → Prop) (w0 : World) (r : Bool × Bool) (a : Act) (w : World) : Prop :=
  ∃ (σ : Nat → Value) , a = fr 21 (ovl σ [(4, (.bool r.1)), (5, (.bool r.2))]) ∧ Chg [] w0 w
def s_spec_IsDiscriminatorOp (n : Int) (op : Int × (List Int)) : Option (Bool × Bool) :=
  (s_spec_l18Takes n (op.1, op.2)).bind fun r4 =>
  (bif (!r4) then some (false, false) else (bif (op.1 == 3) then (s_spec_l18Op n false).bind fun r9 =>
  (s_spec_l1Same op.2 r9.2).bind fun r12 =>
  some (r12, true) else some (false, true)))
set_option maxHeartbeats 4000000 in
theorem c_spec_IsDiscriminatorOp {M : Nat → Prop} {w : World} {pa0 : Option Addr} {pn0 pc0 : Nat} (n : Int) (op : Int × (List Int)) (h0 : (RT.rs (RT.int .i64)).val M w (.slice pa0 pn0 pc0) op.2 ([])) (hM : ∀ g, w.heap.size ≤ g → M g) {r : Bool × Bool} (hs : s_spec_IsDiscriminatorOp n op = some r) :
    Gives Try.prog 18 [(.int .i64 n), (.agg #[(.int .i64 op.1), (.slice pa0 pn0 pc0)])] w (fun v w' => v = (.tuple #[(.bool r.1), (.bool r.2)]) ∧ Chg [] w w') := by
  refine calls_fr Try.func18 rfl Try.ntmps18 (Nat.le_of_ble_eq_true rfl) ?_
  have hO := Own.start (N := Nw w []) hM Nw.fut
  have hC := Chg.refl [] w
  unfold s_spec_IsDiscriminatorOp at hs
  refine wp_mono (Q := KPost (k_spec_IsDiscriminatorOp M w r)) ?_ (fun e a w1 h => ?_)
  rotate_left
  · cases e
    case ret =>
      obtain ⟨σ, rfl, hrest⟩ := h
      exact ret2x Try.results18 (res_tmp rfl) (res_tmp rfl) ⟨rfl, hrest⟩
    all_goals exact (h : False).elim
  refine c_seq ?_
  refine c_region ?_
  obtain ⟨w2, g2, ew2, eg2, hC2, hb2⟩ := new_block w [(.int .i64 op.1), (.slice pa0 pn0 pc0)] 24
  refine pl_val (w' := w2) (.pointer (some ⟨g2, 0, none⟩)) (y_box rfl (by rw [ew2, eg2]; kernel_rfl)) ?_
  have h0 := h0.ext hC2
  have hC := hC.ext hC2
  have hO := hO.new (X' := [g2]) hC2 (fun q hq => by rw [List.mem_singleton.1 hq, eg2]; exact Nat.le_refl _) (List.nodup_cons.2 ⟨(fun h => nomatch h), List.nodup_nil⟩) (fun q hq => by rw [List.mem_singleton.1 hq]; exact hb2.lt)
  refine pl_val (.bool false) (y_assign rfl) ?_
  refine pl_val (.bool false) (y_assign rfl) ?_
  refine c_nil ?_
  refine c_seq ?_
  refine c_seq ?_
  refine c_region ?_
  refine pl_val (.int .i64 n) (y_move rfl) ?_
  refine pl_val (.agg #[(.int .i64 op.1), (.slice pa0 pn0 pc0)]) (y_load rfl ((box_load Ag24 Sz24 hb2 [] [(.int .i64 op.1), (.slice pa0 pn0 pc0)] [] rfl rfl (fun h => nomatch h)) _ (Chg.refl _ _))) ?_
  obtain ⟨r4, hr4, hs⟩ := bind_some hs
  refine pl_call Bd40 rfl (c_spec_l18Takes (M := M) n (op.1, op.2) h0 hO.fut hr4) ?_
  rintro _ w3 ⟨rfl, hC3⟩
  have h0 := h0.ext hC3
  have hb2 := hb2.chg hC3 (fun h => nomatch h)
  have hC := hC.ext hC3
  have hO := hO.ext hC3
  refine pl_val (.bool (!r4)) (y_not rfl) ?_
  refine c_nil ?_
  rcases bif_some hs with ⟨hc5, hs⟩ | ⟨hc5, hs⟩
  · skip
    refine c_condT (congrArg Value.bool hc5) ?_
    refine c_seq ?_
    refine c_region ?_
    refine pl_val (.bool false) (y_assign rfl) ?_
    refine pl_val (.bool false) (y_assign rfl) ?_
    refine c_nil ?_
    refine wp_ret ?_
    cases hs
    exact ⟨_, fr_ovl 21 ⟨rfl, rfl, trivial⟩, hC⟩
  · skip
    refine c_condF (congrArg Value.bool hc5) ?_
    refine wp_skip ?_
    refine c_seq ?_
    refine x_start [] Mx rfl ?_
    have hCw6 := Chg.drew w3
    generalize World.drew w3 = w6 at hCw6 ⊢
    have h0 := h0.ext hCw6
    have hb2 := hb2.chg hCw6 (fun h => nomatch h)
    have hC := hC.ext hCw6
    have hO := hO.ext hCw6
    have hS := Chg.refl [] w6
    refine x_p 0 (.pointer (some ⟨g2, 0, none⟩)) rfl (by kernel_rfl)  (fun _ => y_faddr rfl Fa24x0) (fun _ => hS) ?_
    refine x_l 1 (.int .i64 op.1) rfl (by kernel_rfl)  (fun w' hw' => y_load rfl ((box_load Ag3 Sz3 hb2 [] [(.int .i64 op.1)] [(.slice pa0 pn0 pc0)] rfl rfl (fun _ => rfl)) w' hw')) hS ?_
    refine x_p 2 (.bool (op.1 == 3)) rfl (by kernel_rfl)  (fun _ => y_eql rfl rfl) (fun _ => hS) ?_
    refine x_p 3 (.bool (op.1 == 3)) rfl (by kernel_rfl)  (fun _ => y_move rfl) (fun _ => hS) ?_
    rcases bif_some hs with ⟨hc7, hs⟩ | ⟨hc7, hs⟩
    · skip
      refine x_py 4 (.pointer (some ⟨g2, 1, none⟩)) rfl (by kernel_rfl) (tg := 13) (by kernel_rfl) (congrArg Value.bool hc7) (fun _ => y_faddr rfl Fa24x1) (fun _ => hS) ?_
      refine x_ly 5 (.slice pa0 pn0 pc0) rfl (by kernel_rfl) (tg := 13) (by kernel_rfl) (congrArg Value.bool hc7) (fun w' hw' => y_load rfl ((box_load Ag22 Sz22 hb2 [(.int .i64 op.1)] [(.slice pa0 pn0 pc0)] [] rfl rfl (fun _ => rfl)) w' hw')) hS ?_
      refine x_py 6 (.int .i64 n) rfl (by kernel_rfl) (tg := 13) (by kernel_rfl) (congrArg Value.bool hc7) (fun _ => y_move rfl) (fun _ => hS) ?_
      refine x_one (i := 7) (by kernel_rfl) ?_
      obtain ⟨r9, hr9, hs⟩ := bind_some hs
      refine xk_cally (b := false) rfl (tg := 13) (by kernel_rfl) (congrArg Value.bool hc7) Bd32 rfl (c_spec_l18Op (M := M) n false  hO.fut hr9) rfl (by rintro _ _ _ ⟨a8x0, n8x0, c8x0, f8x0, rfl, hC8, hv8x0, hfr8x0⟩; exact hS.ext hC8) ?_
      rintro _ w8 ⟨a8x0, n8x0, c8x0, f8x0, rfl, hC8, hv8x0, hfr8x0⟩
      have h0 := h0.ext hC8
      have hb2 := hb2.chg hC8 (fun h => nomatch h)
      have hC := hC.ext hC8
      have hO := hO.new hC8 hfr8x0 (os_nodup hv8x0) hv8x0.fpl
      have hS := hS.ext hC8
      refine x_py 8 (.slice a8x0 n8x0 c8x0) rfl (by kernel_rfl) (tg := 13) (by kernel_rfl) (congrArg Value.bool hc7) (fun _ => y_field rfl (by kernel_rfl)) (fun _ => hS) ?_
      refine x_one (i := 9) (by kernel_rfl) ?_
      obtain ⟨r12, hr12, hs⟩ := bind_some hs
      refine xk_cally (b := false) rfl (tg := 13) (by kernel_rfl) (congrArg Value.bool hc7) Bd41 rfl (c_spec_l1Same (M := (Less M f8x0)) op.2 r9.2 (h0.sub Less.sub) (((Frz.os Frz.int)).val hv8x0 Less.sub Less.not) hO.less.fut hr12) rfl (by rintro _ _ _ ⟨rfl, hC11⟩; exact hS.ext hC11) ?_
      rintro _ w11 ⟨rfl, hC11⟩
      have h0 := h0.ext hC11
      have hb2 := hb2.chg hC11 (fun h => nomatch h)
      have hv8x0 := hv8x0.ext hC11
      have hC := hC.ext hC11
      have hO := hO.ext hC11
      have hS := hS.ext hC11
      refine x_p 10 (.bool r12) rfl (by kernel_rfl)  (fun _ => y_pick_t (congrArg Value.bool hc7) rfl) (fun _ => hS) ?_
      refine x_p 11 (.bool r12) rfl (by kernel_rfl)  (fun _ => y_assign rfl) (fun _ => hS) ?_
      refine x_p 12 (.bool true) rfl (by kernel_rfl)  (fun _ => y_assign rfl) (fun _ => hS) ?_
      refine x_end (by kernel_rfl) ?_
      clear hS
      refine wp_ret ?_
      cases hs
      exact ⟨_, fr_ovl 21 ⟨rfl, rfl, trivial⟩, hC⟩
    · skip
      refine x_pn 4 rfl (by kernel_rfl) (tg := 13) (by kernel_rfl) (congrArg Value.bool hc7) (fun _ => hS) ?_
      refine x_pn 5 rfl (by kernel_rfl) (tg := 13) (by kernel_rfl) (congrArg Value.bool hc7) (fun _ => hS) ?_
      refine x_pn 6 rfl (by kernel_rfl) (tg := 13) (by kernel_rfl) (congrArg Value.bool hc7) (fun _ => hS) ?_
      refine x_pn 7 rfl (by kernel_rfl) (tg := 13) (by kernel_rfl) (congrArg Value.bool hc7) (fun _ => hS) ?_
      refine x_pn 8 rfl (by kernel_rfl) (tg := 13) (by kernel_rfl) (congrArg Value.bool hc7) (fun _ => hS) ?_
      refine x_pn 9 rfl (by kernel_rfl) (tg := 13) (by kernel_rfl) (congrArg Value.bool hc7) (fun _ => hS) ?_
      refine x_p 10 (.bool false) rfl (by kernel_rfl)  (fun _ => y_pick_f (congrArg Value.bool hc7) rfl) (fun _ => hS) ?_
      refine x_p 11 (.bool false) rfl (by kernel_rfl)  (fun _ => y_assign rfl) (fun _ => hS) ?_
      refine x_p 12 (.bool true) rfl (by kernel_rfl)  (fun _ => y_assign rfl) (fun _ => hS) ?_
      refine x_end (by kernel_rfl) ?_
      clear hS
      refine wp_ret ?_
      cases hs
      exact ⟨_, fr_ovl 21 ⟨rfl, rfl, trivial⟩, hC⟩

def k_impl_isSize (M : Nat → Prop) (w0 : World) (r : Bool) (a : Act) (w : World) : Prop :=
  ∃ (σ : Nat → Value) , a = fr 9 (ovl σ [(2, (.bool r))]) ∧ Chg [] w0 w
def s_impl_isSize (n : Int) : Option (Bool) :=
  (bif (decide (1 ≤ n)) then some (decide (n ≤ 8)) else some false)
set_option maxHeartbeats 4000000 in
theorem c_impl_isSize {M : Nat → Prop} {w : World}  (n : Int)  (hM : ∀ g, w.heap.size ≤ g → M g) {r : Bool} (hs : s_impl_isSize n = some r) :
    Gives Try.prog 33 [(.int .i64 n)] w (fun v w' => v = (.bool r) ∧ Chg [] w w') := by
  refine calls_fr Try.func33 rfl Try.ntmps33 (Nat.le_of_ble_eq_true rfl) ?_
  have hO := Own.start (N := Nw w []) hM Nw.fut
  have hC := Chg.refl [] w
  unfold s_impl_isSize at hs
  refine wp_mono (Q := KPost (k_impl_isSize M w r)) ?_ (fun e a w1 h => ?_)
  rotate_left
  · cases e
    case ret =>
      obtain ⟨σ, rfl, hrest⟩ := h
      exact ret1x Try.results33 (res_tmp rfl) ⟨rfl, hrest⟩
    all_goals exact (h : False).elim
  refine c_seq ?_
  refine c_region ?_
  refine pl_val (.bool false) (y_assign rfl) ?_
  refine c_nil ?_
  refine c_seq ?_
  refine c_region ?_
  refine pl_val (.int .i64 n) (y_move rfl) ?_
  refine pl_val (.bool (decide (1 ≤ n))) (y_geq rfl rfl) ?_
  refine pl_val (.bool (decide (1 ≤ n))) (y_move rfl) ?_
  rcases bif_some hs with ⟨hc1, hs⟩ | ⟨hc1, hs⟩
  · skip
    refine pl_yes (.int .i64 n) (tg := 5) (by kernel_rfl) (congrArg Value.bool hc1) (y_move rfl) ?_
    refine pl_yes (.bool (decide (n ≤ 8))) (tg := 5) (by kernel_rfl) (congrArg Value.bool hc1) (y_leq rfl rfl) ?_
    refine pl_val (.bool (decide (n ≤ 8))) (y_pick_t (congrArg Value.bool hc1) rfl) ?_
    refine pl_val (.bool (decide (n ≤ 8))) (y_assign rfl) ?_
    refine c_nil ?_
    refine wp_ret ?_
    cases hs
    exact ⟨_, fr_ovl 9 ⟨rfl, trivial⟩, hC⟩
  · skip
    refine pl_not (tg := 5) (by kernel_rfl) (congrArg Value.bool hc1) ?_
    refine pl_not (tg := 5) (by kernel_rfl) (congrArg Value.bool hc1) ?_
    refine pl_val (.bool false) (y_pick_f (congrArg Value.bool hc1) rfl) ?_
    refine pl_val (.bool false) (y_assign rfl) ?_
    refine c_nil ?_
    refine wp_ret ?_
    cases hs
    exact ⟨_, fr_ovl 9 ⟨rfl, trivial⟩, hC⟩

def k_impl_power (M : Nat → Prop) (w0 : World) (r : Int) (a : Act) (w : World) : Prop :=
  ∃ (σ : Nat → Value) , a = fr 14 (ovl σ [(4, (.int .i64 r))]) ∧ Chg [] w0 w
def s_impl_power (n : Int) (k : Int) : Option (Int) :=
  (iter (S := Int × Int) (R := Int) (fun s2 =>
  (bif (decide (0 < s2.1)) then some (.nx (w64 (s2.1 - 1), w64 (s2.2 * n))) else some (.br (s2.1, s2.2)))) FU (k, 1)).bind fun o6 => after o6 (fun r_ => some r_) (fun s2 =>
  some s2.2)
set_option maxHeartbeats 4000000 in
theorem c_impl_power {M : Nat → Prop} {w : World}  (n : Int) (k : Int)  (hM : ∀ g, w.heap.size ≤ g → M g) {r : Int} (hs : s_impl_power n k = some r) :
    Gives Try.prog 59 [(.int .i64 n), (.int .i64 k)] w (fun v w' => v = (.int .i64 r) ∧ Chg [] w w') := by
  refine calls_fr Try.func59 rfl Try.ntmps59 (Nat.le_of_ble_eq_true rfl) ?_
  have hO := Own.start (N := Nw w []) hM Nw.fut
  have hC := Chg.refl [] w
  unfold s_impl_power at hs
  refine wp_mono (Q := KPost (k_impl_power M w r)) ?_ (fun e a w1 h => ?_)
  rotate_left
  · cases e
    case ret =>
      obtain ⟨σ, rfl, hrest⟩ := h
      exact ret1x Try.results59 (res_tmp rfl) ⟨rfl, hrest⟩
    all_goals exact (h : False).elim
  refine c_seq ?_
  refine c_region ?_
  refine pl_val (.int .i64 0) (y_assign rfl) ?_
  refine c_nil ?_
  refine c_seq ?_
  refine c_region ?_
  refine pl_val (.int .i64 1) (y_assign rfl) ?_
  refine c_nil ?_
  refine c_seq ?_
  obtain ⟨o6, hl7, hs⟩ := bind_some hs
  refine wp_block ?_
  refine wp_iter (id := 0) (I := fun s2 a w3 => ∃ (σ : Nat → Value), a = fr 14 (ovl σ [(0, (.int .i64 n)), (1, (.int .i64 s2.1)), (5, (.int .i64 s2.2))]) ∧ Chg [] w w3 ∧ Own (Nw w []) M w3 ([])) (J := fun s2 a w3 => ∃ (σ : Nat → Value), a = fr 14 (ovl σ [(5, (.int .i64 s2.2))]) ∧ Chg [] w w3 ∧ Own (Nw w []) M w3 ([])) (K := (k_impl_power M w)) ?_ FU (k, 1) o6 _ _ ?_ hl7 ?_
  · rintro s2 o6 a w3 ⟨σ, rfl, hC, hO⟩ hs
    refine c_seq ?_
    refine c_seq ?_
    refine c_region ?_
    refine pl_val (.int .i64 s2.1) (y_move rfl) ?_
    refine pl_val (.bool (decide (0 < s2.1))) (y_gtr rfl rfl) ?_
    refine c_nil ?_
    rcases bif_some hs with ⟨hc8, hs⟩ | ⟨hc8, hs⟩
    · skip
      refine c_condT (congrArg Value.bool hc8) ?_
      refine wp_skip ?_
      refine c_seq ?_
      refine wp_block ?_
      refine c_region ?_
      refine pl_val (.int .i64 s2.2) (y_move rfl) ?_
      refine pl_val (.int .i64 n) (y_move rfl) ?_
      refine pl_val (.int .i64 (w64 (s2.2 * n))) (y_mul rfl rfl) ?_
      refine pl_val (.int .i64 (w64 (s2.2 * n))) (y_assign rfl) ?_
      refine c_nil ?_
      refine c_region ?_
      refine pl_val (.int .i64 s2.1) (y_move rfl) ?_
      refine pl_val (.int .i64 (w64 (s2.1 - 1))) (y_sub rfl rfl) ?_
      refine pl_val (.int .i64 (w64 (s2.1 - 1))) (y_assign rfl) ?_
      refine c_nil ?_
      cases hs
      exact ⟨_, fr_ovl 14 ⟨rfl, rfl, rfl, trivial⟩, hC, hO⟩
    · skip
      refine c_condF (congrArg Value.bool hc8) ?_
      refine wp_exit ?_
      cases hs
      exact ⟨rfl, _, fr_ovl 14 ⟨rfl, trivial⟩, hC, hO⟩
  · skip
    exact ⟨_, fr_ovl 14 ⟨rfl, rfl, rfl, trivial⟩, hC, hO⟩
  · cases o6 with
    | nx _ => exact True.intro
    | rt r_ =>
      have hs := after_rt hs
      intro a1 w1 hK
      cases hs
      exact hK
    | br s2 =>
      have hs := after_br hs
      rintro a1 w3 ⟨σ, rfl, hC, hO⟩
      refine c_seq ?_
      refine c_region ?_
      refine pl_val (.int .i64 s2.2) (y_move rfl) ?_
      refine pl_val (.int .i64 s2.2) (y_assign rfl) ?_
      refine c_nil ?_
      refine wp_ret ?_
      cases hs
      exact ⟨_, fr_ovl 14 ⟨rfl, trivial⟩, hC⟩

def k_impl_inSize (M : Nat → Prop) (w0 : World) (r : Bool) (a : Act) (w : World) : Prop :=
  ∃ (σ : Nat → Value) , a = fr 21 (ovl σ [(4, (.bool r))]) ∧ Chg [] w0 w
def s_impl_inSize (list : List Int) (n : Int) : Option (Bool) :=
  (forR (S := Unit) (R := Bool) (fun _ x8 s5 =>
  (bif (decide (x8 < 0)) then some (.rt false) else (bif (decide (n ≤ x8)) then some (.rt false) else some (.nx ())))) 0 list ()).bind fun o9 => after o9 (fun r_ => some r_) (fun s5 =>
  some true)
set_option maxHeartbeats 4000000 in
theorem c_impl_inSize {M : Nat → Prop} {w : World} {pa0 : Option Addr} {pn0 pc0 : Nat} (list : List Int) (n : Int) (h0 : (RT.rs (RT.int .i64)).val M w (.slice pa0 pn0 pc0) list ([])) (hM : ∀ g, w.heap.size ≤ g → M g) {r : Bool} (hs : s_impl_inSize list n = some r) :
    Gives Try.prog 60 [(.slice pa0 pn0 pc0), (.int .i64 n)] w (fun v w' => v = (.bool r) ∧ Chg [] w w') := by
  refine calls_fr Try.func60 rfl Try.ntmps60 (Nat.le_of_ble_eq_true rfl) ?_
  have hO := Own.start (N := Nw w []) hM Nw.fut
  have hC := Chg.refl [] w
  unfold s_impl_inSize at hs
  refine wp_mono (Q := KPost (k_impl_inSize M w r)) ?_ (fun e a w1 h => ?_)
  rotate_left
  · cases e
    case ret =>
      obtain ⟨σ, rfl, hrest⟩ := h
      exact ret1x Try.results60 (res_tmp rfl) ⟨rfl, hrest⟩
    all_goals exact (h : False).elim
  refine c_seq ?_
  refine c_region ?_
  refine pl_val (.bool false) (y_assign rfl) ?_
  refine c_nil ?_
  refine c_seq ?_
  refine c_seq ?_
  refine c_region ?_
  refine pl_val (.slice pa0 pn0 pc0) (y_move rfl) ?_
  refine pl_val (.int .i64 (list.length : Int)) (y_len' Sl22 (rs_len h0) rfl) ?_
  refine pl_val (.int .i64 0) (y_move rfl) ?_
  refine c_nil ?_
  obtain ⟨o9, hl10, hs⟩ := bind_some hs
  refine wp_block ?_
  refine wp_forR (id := 0) (I := fun i_ xs_ s5 a w6 => ∃ k7 : Nat, i_ = (k7 : Int) ∧ List.drop k7 list = xs_ ∧ (∃ (σ : Nat → Value), a = fr 21 (ovl σ [(1, (.int .i64 n)), (7, (.slice pa0 pn0 pc0)), (8, (.int .i64 (list.length : Int))), (9, (.int .i64 (k7 : Int)))]) ∧ Chg [] w w6 ∧ Own (Nw w []) M w6 ([]) ∧ (RT.rs (RT.int .i64)).val M w6 (.slice pa0 pn0 pc0) list ([]))) (J := fun s5 a w6 => ∃ (σ : Nat → Value), a = fr 21 (ovl σ []) ∧ Chg [] w w6 ∧ Own (Nw w []) M w6 ([]) ∧ (RT.rs (RT.int .i64)).val M w6 (.slice pa0 pn0 pc0) list ([])) (K := (k_impl_inSize M w)) ?_ ?_ list 0 () o9 _ _ ?_ hl10 ?_
  · rintro _ s5 a w6 ⟨k7, rfl, hd, σ, rfl, hC, hO, h0⟩
    have hlt := drop_nil_ge hd
    refine c_seq ?_
    refine c_region ?_
    refine pl_val (.bool (decide ((k7 : Int) < (list.length : Int)))) (y_lss rfl rfl) ?_
    refine c_nil ?_
    refine c_seq ?_
    refine c_condF (congrArg Value.bool (decide_eq_false hlt)) ?_
    refine wp_exit ?_
    exact ⟨rfl, _, fr_ovl 21 trivial, hC, hO, h0⟩
  · rintro _ x8 xs_ s5 o9 a w6 ⟨k7, rfl, hd, σ, rfl, hC, hO, h0⟩ hs
    have hlt := drop_cons_lt hd
    have hxk7 := drop_cons_idx hd
    refine c_seq ?_
    refine c_region ?_
    refine pl_val (.bool (decide ((k7 : Int) < (list.length : Int)))) (y_lss rfl rfl) ?_
    refine c_nil ?_
    refine c_seq ?_
    refine c_condT (congrArg Value.bool (decide_eq_true hlt)) ?_
    refine wp_skip ?_
    refine c_seq ?_
    refine wp_block ?_
    refine c_seq ?_
    refine c_region ?_
    obtain ⟨b11, o11, hp11, ha11⟩ := rs_idx Sl22 Sz3 h0 hxk7
    refine pl_val (.pointer (some ⟨b11, o11, none⟩)) (hp11 _ _ _ _ _ _ _ _ _ rfl rfl) ?_
    refine pl_val (.int .i64 x8) (y_load rfl ((at_load_int Ag3 Sz3 ha11) _ (Chg.refl _ _))) ?_
    refine pl_val (.int .i64 x8) (y_assign rfl) ?_
    refine c_nil ?_
    refine c_seq ?_
    refine c_region ?_
    refine pl_val (.int .i64 x8) (y_move rfl) ?_
    refine pl_val (.bool (decide (x8 < 0))) (y_lss rfl rfl) ?_
    refine pl_val (.bool (decide (x8 < 0))) (y_move rfl) ?_
    rcases bif_some hs with ⟨hc12, hs⟩ | ⟨hc12, hs⟩
    · skip
      refine pl_not (tg := 15) (by kernel_rfl) (congrArg Value.bool hc12) ?_
      refine pl_not (tg := 15) (by kernel_rfl) (congrArg Value.bool hc12) ?_
      refine pl_not (tg := 15) (by kernel_rfl) (congrArg Value.bool hc12) ?_
      refine pl_val (.bool true) (y_pick_t (congrArg Value.bool hc12) rfl) ?_
      refine c_nil ?_
      refine c_condT (by rfl) ?_
      refine c_seq ?_
      refine c_region ?_
      refine pl_val (.bool false) (y_assign rfl) ?_
      refine c_nil ?_
      refine wp_ret ?_
      cases hs
      exact ⟨_, fr_ovl 21 ⟨rfl, trivial⟩, hC⟩
    · skip
      refine pl_yes (.int .i64 x8) (tg := 15) (by kernel_rfl) (congrArg Value.bool hc12) (y_move rfl) ?_
      refine pl_yes (.int .i64 n) (tg := 15) (by kernel_rfl) (congrArg Value.bool hc12) (y_move rfl) ?_
      refine pl_yes (.bool (decide (n ≤ x8))) (tg := 15) (by kernel_rfl) (congrArg Value.bool hc12) (y_geq rfl rfl) ?_
      refine pl_val (.bool (decide (n ≤ x8))) (y_pick_f (congrArg Value.bool hc12) rfl) ?_
      refine c_nil ?_
      rcases bif_some hs with ⟨hc13, hs⟩ | ⟨hc13, hs⟩
      · skip
        refine c_condT (congrArg Value.bool hc13) ?_
        refine c_seq ?_
        refine c_region ?_
        refine pl_val (.bool false) (y_assign rfl) ?_
        refine c_nil ?_
        refine wp_ret ?_
        cases hs
        exact ⟨_, fr_ovl 21 ⟨rfl, trivial⟩, hC⟩
      · skip
        refine c_condF (congrArg Value.bool hc13) ?_
        refine wp_skip ?_
        refine c_region ?_
        refine pl_val (.int .i64 (w64 ((k7 : Int) + 1))) (y_add rfl rfl) ?_
        refine pl_val (.int .i64 (w64 ((k7 : Int) + 1))) (y_move rfl) ?_
        refine c_nil ?_
        cases hs
        exact ⟨_, rfl, drop_cons_next hd, _, fr_ovl 21 ⟨rfl, rfl, rfl, congrArg (Value.int .i64) (w64_succ hlt (Int.natCast_nonneg _) (rs_max h0)), trivial⟩, hC, hO, h0⟩
  · skip
    exact ⟨0, rfl, rfl, _, fr_ovl 21 ⟨rfl, rfl, rfl, rfl, trivial⟩, hC, hO, h0⟩
  · cases o9 with
    | nx _ => exact True.intro
    | rt r_ =>
      have hs := after_rt hs
      intro a1 w1 hK
      cases hs
      exact hK
    | br s5 =>
      have hs := after_br hs
      rintro a1 w6 ⟨σ, rfl, hC, hO, h0⟩
      refine c_seq ?_
      refine c_region ?_
      refine pl_val (.bool true) (y_assign rfl) ?_
      refine c_nil ?_
      refine wp_ret ?_
      cases hs
      exact ⟨_, fr_ovl 21 ⟨rfl, trivial⟩, hC⟩

theorem Bd59 : Bodied Try.prog 59 := bodied Try.func59 (by kernel_rfl) rfl

theorem Bd60 : Bodied Try.prog 60 := bodied Try.func60 (by kernel_rfl) rfl

def k_impl_isOp (M : Nat → Prop) (w0 : World) (r : Bool) (a : Act) (w : World) : Prop :=
  ∃ (σ : Nat → Value) , a = fr 29 (ovl σ [(4, (.bool r))]) ∧ Chg [] w0 w
def s_impl_isOp (f : Int × (List Int)) (n : Int) : Option (Bool) :=
  (bif (decide (0 ≤ f.1)) then (bif (decide (f.1 ≤ 3)) then (s_impl_power n f.1).bind fun r7 =>
  (bif ((f.2.length : Int) == r7) then (s_impl_inSize f.2 n).bind fun r10 =>
  some r10 else some false) else some false) else some false)
set_option maxHeartbeats 4000000 in
theorem c_impl_isOp {M : Nat → Prop} {w : World} {pa0 : Option Addr} {pn0 pc0 : Nat} (f : Int × (List Int)) (n : Int) (h0 : (RT.rs (RT.int .i64)).val M w (.slice pa0 pn0 pc0) f.2 ([])) (hM : ∀ g, w.heap.size ≤ g → M g) {r : Bool} (hs : s_impl_isOp f n = some r) :
    Gives Try.prog 42 [(.agg #[(.int .i64 f.1), (.slice pa0 pn0 pc0)]), (.int .i64 n)] w (fun v w' => v = (.bool r) ∧ Chg [] w w') := by
  refine calls_fr Try.func42 rfl Try.ntmps42 (Nat.le_of_ble_eq_true rfl) ?_
  have hO := Own.start (N := Nw w []) hM Nw.fut
  have hC := Chg.refl [] w
  unfold s_impl_isOp at hs
  refine wp_mono (Q := KPost (k_impl_isOp M w r)) ?_ (fun e a w1 h => ?_)
  rotate_left
  · cases e
    case ret =>
      obtain ⟨σ, rfl, hrest⟩ := h
      exact ret1x Try.results42 (res_tmp rfl) ⟨rfl, hrest⟩
    all_goals exact (h : False).elim
  refine c_seq ?_
  refine c_region ?_
  obtain ⟨w2, g2, ew2, eg2, hC2, hb2⟩ := new_block w [(.int .i64 f.1), (.slice pa0 pn0 pc0)] 24
  refine pl_val (w' := w2) (.pointer (some ⟨g2, 0, none⟩)) (y_box rfl (by rw [ew2, eg2]; kernel_rfl)) ?_
  have h0 := h0.ext hC2
  have hC := hC.ext hC2
  have hO := hO.new (X' := [g2]) hC2 (fun q hq => by rw [List.mem_singleton.1 hq, eg2]; exact Nat.le_refl _) (List.nodup_cons.2 ⟨(fun h => nomatch h), List.nodup_nil⟩) (fun q hq => by rw [List.mem_singleton.1 hq]; exact hb2.lt)
  refine pl_val (.bool false) (y_assign rfl) ?_
  refine c_nil ?_
  refine c_seq ?_
  refine x_start [] Mx rfl ?_
  have hCw3 := Chg.drew w2
  generalize World.drew w2 = w3 at hCw3 ⊢
  have h0 := h0.ext hCw3
  have hb2 := hb2.chg hCw3 (fun h => nomatch h)
  have hC := hC.ext hCw3
  have hO := hO.ext hCw3
  have hS := Chg.refl [] w3
  refine x_p 0 (.pointer (some ⟨g2, 0, none⟩)) rfl (by kernel_rfl)  (fun _ => y_faddr rfl Fa24x0) (fun _ => hS) ?_
  refine x_l 1 (.int .i64 f.1) rfl (by kernel_rfl)  (fun w' hw' => y_load rfl ((box_load Ag3 Sz3 hb2 [] [(.int .i64 f.1)] [(.slice pa0 pn0 pc0)] rfl rfl (fun _ => rfl)) w' hw')) hS ?_
  refine x_p 2 (.bool (decide (0 ≤ f.1))) rfl (by kernel_rfl)  (fun _ => y_geq rfl rfl) (fun _ => hS) ?_
  refine x_p 3 (.bool (decide (0 ≤ f.1))) rfl (by kernel_rfl)  (fun _ => y_move rfl) (fun _ => hS) ?_
  rcases bif_some hs with ⟨hc4, hs⟩ | ⟨hc4, hs⟩
  · skip
    refine x_py 4 (.pointer (some ⟨g2, 0, none⟩)) rfl (by kernel_rfl) (tg := 8) (by kernel_rfl) (congrArg Value.bool hc4) (fun _ => y_faddr rfl Fa24x0) (fun _ => hS) ?_
    refine x_ly 5 (.int .i64 f.1) rfl (by kernel_rfl) (tg := 8) (by kernel_rfl) (congrArg Value.bool hc4) (fun w' hw' => y_load rfl ((box_load Ag3 Sz3 hb2 [] [(.int .i64 f.1)] [(.slice pa0 pn0 pc0)] rfl rfl (fun _ => rfl)) w' hw')) hS ?_
    refine x_py 6 (.bool (decide (f.1 ≤ 3))) rfl (by kernel_rfl) (tg := 8) (by kernel_rfl) (congrArg Value.bool hc4) (fun _ => y_leq rfl rfl) (fun _ => hS) ?_
    refine x_p 7 (.bool (decide (f.1 ≤ 3))) rfl (by kernel_rfl)  (fun _ => y_pick_t (congrArg Value.bool hc4) rfl) (fun _ => hS) ?_
    refine x_p 8 (.bool (decide (f.1 ≤ 3))) rfl (by kernel_rfl)  (fun _ => y_move rfl) (fun _ => hS) ?_
    rcases bif_some hs with ⟨hc5, hs⟩ | ⟨hc5, hs⟩
    · skip
      refine x_py 9 (.pointer (some ⟨g2, 1, none⟩)) rfl (by kernel_rfl) (tg := 13) (by kernel_rfl) (congrArg Value.bool hc5) (fun _ => y_faddr rfl Fa24x1) (fun _ => hS) ?_
      refine x_ly 10 (.slice pa0 pn0 pc0) rfl (by kernel_rfl) (tg := 13) (by kernel_rfl) (congrArg Value.bool hc5) (fun w' hw' => y_load rfl ((box_load Ag22 Sz22 hb2 [(.int .i64 f.1)] [(.slice pa0 pn0 pc0)] [] rfl rfl (fun _ => rfl)) w' hw')) hS ?_
      refine x_py 11 (.int .i64 (f.2.length : Int)) rfl (by kernel_rfl) (tg := 13) (by kernel_rfl) (congrArg Value.bool hc5) (fun _ => y_len' Sl22 (rs_len h0) rfl) (fun _ => hS) ?_
      refine x_py 12 (.int .i64 n) rfl (by kernel_rfl) (tg := 13) (by kernel_rfl) (congrArg Value.bool hc5) (fun _ => y_move rfl) (fun _ => hS) ?_
      refine x_py 13 (.pointer (some ⟨g2, 0, none⟩)) rfl (by kernel_rfl) (tg := 13) (by kernel_rfl) (congrArg Value.bool hc5) (fun _ => y_faddr rfl Fa24x0) (fun _ => hS) ?_
      refine x_ly 14 (.int .i64 f.1) rfl (by kernel_rfl) (tg := 13) (by kernel_rfl) (congrArg Value.bool hc5) (fun w' hw' => y_load rfl ((box_load Ag3 Sz3 hb2 [] [(.int .i64 f.1)] [(.slice pa0 pn0 pc0)] rfl rfl (fun _ => rfl)) w' hw')) hS ?_
      refine x_one (i := 15) (by kernel_rfl) ?_
      obtain ⟨r7, hr7, hs⟩ := bind_some hs
      refine xk_cally (b := false) rfl (tg := 13) (by kernel_rfl) (congrArg Value.bool hc5) Bd59 rfl (c_impl_power (M := M) n f.1  hO.fut hr7) rfl (by rintro _ _ _ ⟨rfl, hC6⟩; exact hS.ext hC6) ?_
      rintro _ w6 ⟨rfl, hC6⟩
      have h0 := h0.ext hC6
      have hb2 := hb2.chg hC6 (fun h => nomatch h)
      have hC := hC.ext hC6
      have hO := hO.ext hC6
      have hS := hS.ext hC6
      refine x_py 16 (.bool ((f.2.length : Int) == r7)) rfl (by kernel_rfl) (tg := 13) (by kernel_rfl) (congrArg Value.bool hc5) (fun _ => y_eql rfl rfl) (fun _ => hS) ?_
      refine x_p 17 (.bool ((f.2.length : Int) == r7)) rfl (by kernel_rfl)  (fun _ => y_pick_t (congrArg Value.bool hc5) rfl) (fun _ => hS) ?_
      refine x_p 18 (.bool ((f.2.length : Int) == r7)) rfl (by kernel_rfl)  (fun _ => y_move rfl) (fun _ => hS) ?_
      rcases bif_some hs with ⟨hc8, hs⟩ | ⟨hc8, hs⟩
      · skip
        refine x_py 19 (.pointer (some ⟨g2, 1, none⟩)) rfl (by kernel_rfl) (tg := 23) (by kernel_rfl) (congrArg Value.bool hc8) (fun _ => y_faddr rfl Fa24x1) (fun _ => hS) ?_
        refine x_py 21 (.int .i64 n) rfl (by kernel_rfl) (tg := 23) (by kernel_rfl) (congrArg Value.bool hc8) (fun _ => y_move rfl) (fun _ => hS) ?_
        refine x_one (i := 20) (by kernel_rfl) ?_
        refine xk_valy (b := false) (.slice pa0 pn0 pc0) rfl (tg := 23) (by kernel_rfl) (congrArg Value.bool hc8) (y_load rfl ((box_load Ag22 Sz22 hb2 [(.int .i64 f.1)] [(.slice pa0 pn0 pc0)] [] rfl rfl (fun _ => rfl)) _ (Chg.refl _ _))) rfl (fun _ => hS) ?_
        refine x_one (i := 22) (by kernel_rfl) ?_
        obtain ⟨r10, hr10, hs⟩ := bind_some hs
        refine xk_cally (b := false) rfl (tg := 23) (by kernel_rfl) (congrArg Value.bool hc8) Bd60 rfl (c_impl_inSize (M := M) f.2 n h0 hO.fut hr10) rfl (by rintro _ _ _ ⟨rfl, hC9⟩; exact hS.ext hC9) ?_
        rintro _ w9 ⟨rfl, hC9⟩
        have h0 := h0.ext hC9
        have hb2 := hb2.chg hC9 (fun h => nomatch h)
        have hC := hC.ext hC9
        have hO := hO.ext hC9
        have hS := hS.ext hC9
        refine x_p 23 (.bool r10) rfl (by kernel_rfl)  (fun _ => y_pick_t (congrArg Value.bool hc8) rfl) (fun _ => hS) ?_
        refine x_p 24 (.bool r10) rfl (by kernel_rfl)  (fun _ => y_assign rfl) (fun _ => hS) ?_
        refine x_end (by kernel_rfl) ?_
        clear hS
        refine wp_ret ?_
        cases hs
        exact ⟨_, fr_ovl 29 ⟨rfl, trivial⟩, hC⟩
      · skip
        refine x_pn 19 rfl (by kernel_rfl) (tg := 23) (by kernel_rfl) (congrArg Value.bool hc8) (fun _ => hS) ?_
        refine x_pn 20 rfl (by kernel_rfl) (tg := 23) (by kernel_rfl) (congrArg Value.bool hc8) (fun _ => hS) ?_
        refine x_pn 21 rfl (by kernel_rfl) (tg := 23) (by kernel_rfl) (congrArg Value.bool hc8) (fun _ => hS) ?_
        refine x_pn 22 rfl (by kernel_rfl) (tg := 23) (by kernel_rfl) (congrArg Value.bool hc8) (fun _ => hS) ?_
        refine x_p 23 (.bool false) rfl (by kernel_rfl)  (fun _ => y_pick_f (congrArg Value.bool hc8) rfl) (fun _ => hS) ?_
        refine x_p 24 (.bool false) rfl (by kernel_rfl)  (fun _ => y_assign rfl) (fun _ => hS) ?_
        refine x_end (by kernel_rfl) ?_
        clear hS
        refine wp_ret ?_
        cases hs
        exact ⟨_, fr_ovl 29 ⟨rfl, trivial⟩, hC⟩
    · skip
      refine x_pn 9 rfl (by kernel_rfl) (tg := 13) (by kernel_rfl) (congrArg Value.bool hc5) (fun _ => hS) ?_
      refine x_pn 10 rfl (by kernel_rfl) (tg := 13) (by kernel_rfl) (congrArg Value.bool hc5) (fun _ => hS) ?_
      refine x_pn 11 rfl (by kernel_rfl) (tg := 13) (by kernel_rfl) (congrArg Value.bool hc5) (fun _ => hS) ?_
      refine x_pn 12 rfl (by kernel_rfl) (tg := 13) (by kernel_rfl) (congrArg Value.bool hc5) (fun _ => hS) ?_
      refine x_pn 13 rfl (by kernel_rfl) (tg := 13) (by kernel_rfl) (congrArg Value.bool hc5) (fun _ => hS) ?_
      refine x_pn 14 rfl (by kernel_rfl) (tg := 13) (by kernel_rfl) (congrArg Value.bool hc5) (fun _ => hS) ?_
      refine x_pn 15 rfl (by kernel_rfl) (tg := 13) (by kernel_rfl) (congrArg Value.bool hc5) (fun _ => hS) ?_
      refine x_pn 16 rfl (by kernel_rfl) (tg := 13) (by kernel_rfl) (congrArg Value.bool hc5) (fun _ => hS) ?_
      refine x_p 17 (.bool false) rfl (by kernel_rfl)  (fun _ => y_pick_f (congrArg Value.bool hc5) rfl) (fun _ => hS) ?_
      refine x_p 18 (.bool false) rfl (by kernel_rfl)  (fun _ => y_move rfl) (fun _ => hS) ?_
      refine x_pn 19 rfl (by kernel_rfl) (tg := 23) (by kernel_rfl) (by rfl) (fun _ => hS) ?_
      refine x_pn 20 rfl (by kernel_rfl) (tg := 23) (by kernel_rfl) (by rfl) (fun _ => hS) ?_
      refine x_pn 21 rfl (by kernel_rfl) (tg := 23) (by kernel_rfl) (by rfl) (fun _ => hS) ?_
      refine x_pn 22 rfl (by kernel_rfl) (tg := 23) (by kernel_rfl) (by rfl) (fun _ => hS) ?_
      refine x_p 23 (.bool false) rfl (by kernel_rfl)  (fun _ => y_pick_f (by rfl) rfl) (fun _ => hS) ?_
      refine x_p 24 (.bool false) rfl (by kernel_rfl)  (fun _ => y_assign rfl) (fun _ => hS) ?_
      refine x_end (by kernel_rfl) ?_
      clear hS
      refine wp_ret ?_
      cases hs
      exact ⟨_, fr_ovl 29 ⟨rfl, trivial⟩, hC⟩
  · skip
    refine x_pn 4 rfl (by kernel_rfl) (tg := 8) (by kernel_rfl) (congrArg Value.bool hc4) (fun _ => hS) ?_
    refine x_pn 5 rfl (by kernel_rfl) (tg := 8) (by kernel_rfl) (congrArg Value.bool hc4) (fun _ => hS) ?_
    refine x_pn 6 rfl (by kernel_rfl) (tg := 8) (by kernel_rfl) (congrArg Value.bool hc4) (fun _ => hS) ?_
    refine x_p 7 (.bool false) rfl (by kernel_rfl)  (fun _ => y_pick_f (congrArg Value.bool hc4) rfl) (fun _ => hS) ?_
    refine x_p 8 (.bool false) rfl (by kernel_rfl)  (fun _ => y_move rfl) (fun _ => hS) ?_
    refine x_pn 9 rfl (by kernel_rfl) (tg := 13) (by kernel_rfl) (by rfl) (fun _ => hS) ?_
    refine x_pn 10 rfl (by kernel_rfl) (tg := 13) (by kernel_rfl) (by rfl) (fun _ => hS) ?_
    refine x_pn 11 rfl (by kernel_rfl) (tg := 13) (by kernel_rfl) (by rfl) (fun _ => hS) ?_
    refine x_pn 12 rfl (by kernel_rfl) (tg := 13) (by kernel_rfl) (by rfl) (fun _ => hS) ?_
    refine x_pn 13 rfl (by kernel_rfl) (tg := 13) (by kernel_rfl) (by rfl) (fun _ => hS) ?_
    refine x_pn 14 rfl (by kernel_rfl) (tg := 13) (by kernel_rfl) (by rfl) (fun _ => hS) ?_
    refine x_pn 15 rfl (by kernel_rfl) (tg := 13) (by kernel_rfl) (by rfl) (fun _ => hS) ?_
    refine x_pn 16 rfl (by kernel_rfl) (tg := 13) (by kernel_rfl) (by rfl) (fun _ => hS) ?_
    refine x_p 17 (.bool false) rfl (by kernel_rfl)  (fun _ => y_pick_f (by rfl) rfl) (fun _ => hS) ?_
    refine x_p 18 (.bool false) rfl (by kernel_rfl)  (fun _ => y_move rfl) (fun _ => hS) ?_
    refine x_pn 19 rfl (by kernel_rfl) (tg := 23) (by kernel_rfl) (by rfl) (fun _ => hS) ?_
    refine x_pn 20 rfl (by kernel_rfl) (tg := 23) (by kernel_rfl) (by rfl) (fun _ => hS) ?_
    refine x_pn 21 rfl (by kernel_rfl) (tg := 23) (by kernel_rfl) (by rfl) (fun _ => hS) ?_
    refine x_pn 22 rfl (by kernel_rfl) (tg := 23) (by kernel_rfl) (by rfl) (fun _ => hS) ?_
    refine x_p 23 (.bool false) rfl (by kernel_rfl)  (fun _ => y_pick_f (by rfl) rfl) (fun _ => hS) ?_
    refine x_p 24 (.bool false) rfl (by kernel_rfl)  (fun _ => y_assign rfl) (fun _ => hS) ?_
    refine x_end (by kernel_rfl) ?_
    clear hS
    refine wp_ret ?_
    cases hs
    exact ⟨_, fr_ovl 29 ⟨rfl, trivial⟩, hC⟩

def k_impl_discriminator_1 (M : Nat → Prop) (w0 : World) (r : Int) (a : Act) (w : World) : Prop :=
  ∃ (σ : Nat → Value) , a = fr 12 (ovl σ [(6, (.int .i64 r))]) ∧ Chg [] w0 w
def s_impl_discriminator_1 (x_ : Int) (y : Int) (z : Int) : Option (Int) :=
  (bif (x_ == y) then some z else some x_)
set_option maxHeartbeats 4000000 in
theorem c_impl_discriminator_1 {M : Nat → Prop} {w : World}  (x_ : Int) (y : Int) (z : Int)  (hM : ∀ g, w.heap.size ≤ g → M g) {r : Int} (hs : s_impl_discriminator_1 x_ y z = some r) :
    Gives Try.prog 58 [(.int .i64 x_), (.int .i64 y), (.int .i64 z)] w (fun v w' => v = (.int .i64 r) ∧ Chg [] w w') := by
  refine calls_fr Try.func58 rfl Try.ntmps58 (Nat.le_of_ble_eq_true rfl) ?_
  have hO := Own.start (N := Nw w []) hM Nw.fut
  have hC := Chg.refl [] w
  unfold s_impl_discriminator_1 at hs
  refine wp_mono (Q := KPost (k_impl_discriminator_1 M w r)) ?_ (fun e a w1 h => ?_)
  rotate_left
  · cases e
    case ret =>
      obtain ⟨σ, rfl, hrest⟩ := h
      exact ret1x Try.results58 (res_tmp rfl) ⟨rfl, hrest⟩
    all_goals exact (h : False).elim
  refine c_seq ?_
  refine c_region ?_
  refine pl_val (.int .i64 0) (y_assign rfl) ?_
  refine c_nil ?_
  refine c_seq ?_
  refine c_seq ?_
  refine c_region ?_
  refine pl_val (.int .i64 x_) (y_move rfl) ?_
  refine pl_val (.int .i64 y) (y_move rfl) ?_
  refine pl_val (.bool (x_ == y)) (y_eql rfl rfl) ?_
  refine c_nil ?_
  rcases bif_some hs with ⟨hc1, hs⟩ | ⟨hc1, hs⟩
  · skip
    refine c_condT (congrArg Value.bool hc1) ?_
    refine c_seq ?_
    refine c_region ?_
    refine pl_val (.int .i64 z) (y_move rfl) ?_
    refine pl_val (.int .i64 z) (y_assign rfl) ?_
    refine c_nil ?_
    refine wp_ret ?_
    cases hs
    exact ⟨_, fr_ovl 12 ⟨rfl, trivial⟩, hC⟩
  · skip
    refine c_condF (congrArg Value.bool hc1) ?_
    refine wp_skip ?_
    refine c_seq ?_
    refine c_region ?_
    refine pl_val (.int .i64 x_) (y_move rfl) ?_
    refine pl_val (.int .i64 x_) (y_assign rfl) ?_
    refine c_nil ?_
    refine wp_ret ?_
    cases hs
    exact ⟨_, fr_ovl 12 ⟨rfl, trivial⟩, hC⟩

theorem Bd58 : Bodied Try.prog 58 := bodied Try.func58 (by kernel_rfl) rfl

def k_impl_ternary__impl_discriminator_1 (M : Nat → Prop) (w0 : World) (r : (Int × (List Int))) (a : Act) (w : World) : Prop :=
  ∃ (σ : Nat → Value) (rg4 : Nat) (ra0 : Option Addr) (rn0 rc0 : Nat) (rf0 : List Nat), a = fr 38 (ovl σ [(4, (.pointer (some ⟨rg4, 0, none⟩)))]) ∧ BoxV w rg4 24 [(.int .i64 r.1), (.slice ra0 rn0 rc0)] ∧ Chg [] w0 w ∧ (RT.os 3 (RT.int .i64)).val M w (.slice ra0 rn0 rc0) r.2 rf0 ∧ (∀ g ∈ rf0, w0.heap.size ≤ g)
def s_impl_ternary__impl_discriminator_1 (n : Int) : Option ((Int × (List Int))) :=
  (forC (S := (List Int)) (R := (Int × (List Int))) (fun k38 s36 =>
  (nz n).bind fun u47 =>
  (nz n).bind fun u48 =>
  (nz n).bind fun u49 =>
  (nz n).bind fun u50 =>
  (nz n).bind fun u51 =>
  (s_impl_discriminator_1 (w64 (Int.tdiv (w64 (Int.tdiv k38 n)) n)) (Int.tmod (w64 (Int.tdiv k38 n)) n) (Int.tmod k38 n)).bind fun r53 =>
  (app s36 ([r53])).bind fun y57 =>
  some (.nx y57)) 0 (w64 ((w64 (n * n)) * n)) []).bind fun o40 => after o40 (fun r_ => some r_) (fun s36 =>
  some (3, s36))
set_option maxHeartbeats 4000000 in
theorem c_impl_ternary__impl_discriminator_1 {M : Nat → Prop} {w : World}  (n : Int)  (hM : ∀ g, w.heap.size ≤ g → M g) {r : (Int × (List Int))} (hs : s_impl_ternary__impl_discriminator_1 n = some r) :
    Gives Try.prog 34 [(.int .i64 n), (.func (.func 58) #[] #[])] w (fun v w' => ∃ (ra0 : Option Addr) (rn0 rc0 : Nat) (rf0 : List Nat), v = (.agg #[(.int .i64 r.1), (.slice ra0 rn0 rc0)]) ∧ Chg [] w w' ∧ (RT.os 3 (RT.int .i64)).val M w' (.slice ra0 rn0 rc0) r.2 rf0 ∧ (∀ g ∈ rf0, w.heap.size ≤ g)) := by
  refine calls_fr Try.func34 rfl Try.ntmps34 (Nat.le_of_ble_eq_true rfl) ?_
  have hO := Own.start (N := Nw w []) hM Nw.fut
  have hC := Chg.refl [] w
  unfold s_impl_ternary__impl_discriminator_1 at hs
  refine wp_mono (Q := KPost (k_impl_ternary__impl_discriminator_1 M w r)) ?_ (fun e a w1 h => ?_)
  rotate_left
  · cases e
    case ret =>
      obtain ⟨σ, rg4, ra0, rn0, rc0, rf0, rfl, hbrg4, hrest⟩ := h
      exact ret1x Try.results34 (res_cell rfl (box_load Ag24 Sz24 hbrg4 [] _ [] rfl rfl (fun h => nomatch h))) ⟨ra0, rn0, rc0, rf0, rfl, hrest⟩
    all_goals exact (h : False).elim
  refine c_seq ?_
  refine c_region ?_
  obtain ⟨w1, g1, ew1, eg1, hC1, hb1⟩ := new_block w [(.int .i64 0), (.slice none 0 0)] 24
  refine pl_val (w' := w1) (.pointer (some ⟨g1, 0, none⟩)) (y_alloc (by rw [ew1, eg1]; kernel_rfl)) ?_
  have hC := hC.ext hC1
  have hO := hO.new (X' := [g1]) hC1 (fun q hq => by rw [List.mem_singleton.1 hq, eg1]; exact Nat.le_refl _) (List.nodup_cons.2 ⟨(fun h => nomatch h), List.nodup_nil⟩) (fun q hq => by rw [List.mem_singleton.1 hq]; exact hb1.lt)
  refine c_nil ?_
  refine c_seq ?_
  refine c_region ?_
  refine pl_val (.agg #[(.int .i64 3), (.slice none 0 0)]) (y_build rfl (by kernel_rfl)) ?_
  obtain ⟨w2, g2, ew2, eg2, hC2, hb2⟩ := new_block w1 [(.int .i64 0), (.slice none 0 0)] 24
  refine pl_val (w' := w2) (.pointer (some ⟨g2, 0, none⟩)) (y_alloc (by rw [ew2, eg2]; kernel_rfl)) ?_
  have hb1 := hb1.chg hC2 (fun h => nomatch h)
  have hC := hC.ext hC2
  have hO := hO.new (X' := [g2]) hC2 (fun q hq => by rw [List.mem_singleton.1 hq, eg2]; exact Nat.le_refl _) (List.nodup_cons.2 ⟨(fun h => nomatch h), List.nodup_nil⟩) (fun q hq => by rw [List.mem_singleton.1 hq]; exact hb2.lt)
  obtain ⟨w3, hst3, hC3, hb3⟩ := box_store (P := Try.prog) hb2 [] [(.int .i64 0), (.slice none 0 0)] [] [(.int .i64 3), (.slice none 0 0)] rfl rfl (by intro u hu; simp only [List.mem_cons, List.not_mem_nil, or_false] at hu; rcases hu with rfl | rfl <;> rfl)
  refine pl_skip (w' := w3) (ys_store rfl rfl (hst3 _ _ rfl Sz24)) ?_
  have hb1 := hb1.chg hC3 (fun hg => hO.apart _ ((fun _ h => h) _ hg) (mem_l (List.mem_singleton.2 rfl)))
  have hC := hC.step hC3 (fun g hg => hO.inN g ((fun _ h => h) g hg))
  have hO := hO.ext hC3
  have hb3 : BoxV w3 g2 24 [(.int .i64 3), (.slice none 0 0)] := hb3
  refine c_nil ?_
  refine c_seq ?_
  refine c_seq ?_
  refine c_region ?_
  refine pl_val (.int .i64 0) (y_assign rfl) ?_
  refine c_nil ?_
  obtain ⟨o40, hl41, hs⟩ := bind_some hs
  refine wp_block ?_
  refine wp_forC (id := 0) (w64 ((w64 (n * n)) * n)) (I := fun k38 s36 a w37 => ∃ (σ : Nat → Value) (a42 : Option Addr) (n42 : Nat) (c42 : Nat) (f42 : List Nat), a = fr 38 (ovl σ [(0, (.int .i64 n)), (1, (.func (.func 58) #[] #[])), (4, (.pointer (some ⟨g1, 0, none⟩))), (5, (.pointer (some ⟨g2, 0, none⟩))), (6, (.int .i64 k38))]) ∧ Chg [] w w37 ∧ Own (Nw w []) M w37 (f42 ++ (([g2]) ++ (([g1]) ++ []))) ∧ BoxV w37 g1 24 [(.int .i64 0), (.slice none 0 0)] ∧ BoxV w37 g2 24 [(.int .i64 3), (.slice a42 n42 c42)] ∧ (RT.os 3 (RT.int .i64)).val M w37 (.slice a42 n42 c42) s36 f42) (J := fun s36 a w37 => ∃ (σ : Nat → Value) (a44 : Option Addr) (n44 : Nat) (c44 : Nat) (f44 : List Nat), a = fr 38 (ovl σ [(4, (.pointer (some ⟨g1, 0, none⟩))), (5, (.pointer (some ⟨g2, 0, none⟩)))]) ∧ Chg [] w w37 ∧ Own (Nw w []) M w37 (f44 ++ (([g2]) ++ (([g1]) ++ []))) ∧ BoxV w37 g1 24 [(.int .i64 0), (.slice none 0 0)] ∧ BoxV w37 g2 24 [(.int .i64 3), (.slice a44 n44 c44)] ∧ (RT.os 3 (RT.int .i64)).val M w37 (.slice a44 n44 c44) s36 f44) (K := (k_impl_ternary__impl_discriminator_1 M w)) ?_ ?_ 0 [] o40 _ _ ?_ hl41 ?_
  · rintro k38 s36 a w37 ⟨σ, a42, n42, c42, f42, rfl, hC, hO, hb1, hb3, hv42⟩ hlt
    refine c_seq ?_
    refine c_seq ?_
    refine c_region ?_
    refine pl_val (.int .i64 k38) (y_move rfl) ?_
    refine pl_val (.int .i64 n) (y_move rfl) ?_
    refine pl_val (.int .i64 n) (y_move rfl) ?_
    refine pl_val (.int .i64 (w64 (n * n))) (y_mul rfl rfl) ?_
    refine pl_val (.int .i64 n) (y_move rfl) ?_
    refine pl_val (.int .i64 (w64 ((w64 (n * n)) * n))) (y_mul rfl rfl) ?_
    refine pl_val (.bool (decide (k38 < (w64 ((w64 (n * n)) * n))))) (y_lss rfl rfl) ?_
    refine c_nil ?_
    refine c_condF (congrArg Value.bool (decide_eq_false hlt)) ?_
    refine wp_exit ?_
    have hO := hO.fr2
    have hO := hO.fr2
    have hO := hO.fr2
    exact ⟨rfl, _, a42, n42, c42, f42, fr_ovl 38 ⟨rfl, rfl, trivial⟩, hC, hO, hb1, hb3, hv42⟩
  · rintro k38 s36 o40 a w37 ⟨σ, a42, n42, c42, f42, rfl, hC, hO, hb1, hb3, hv42⟩ hlt hw hs
    refine c_seq ?_
    refine c_seq ?_
    refine c_region ?_
    refine pl_val (.int .i64 k38) (y_move rfl) ?_
    refine pl_val (.int .i64 n) (y_move rfl) ?_
    refine pl_val (.int .i64 n) (y_move rfl) ?_
    refine pl_val (.int .i64 (w64 (n * n))) (y_mul rfl rfl) ?_
    refine pl_val (.int .i64 n) (y_move rfl) ?_
    refine pl_val (.int .i64 (w64 ((w64 (n * n)) * n))) (y_mul rfl rfl) ?_
    refine pl_val (.bool (decide (k38 < (w64 ((w64 (n * n)) * n))))) (y_lss rfl rfl) ?_
    refine c_nil ?_
    refine c_condT (congrArg Value.bool (decide_eq_true hlt)) ?_
    refine wp_skip ?_
    refine c_seq ?_
    refine wp_block ?_
    refine x_start [18, 20] Mx rfl ?_
    have hCw46 := Chg.drew w37
    generalize World.drew w37 = w46 at hCw46 ⊢
    have hb1 := hb1.chg hCw46 (fun h => nomatch h)
    have hb3 := hb3.chg hCw46 (fun h => nomatch h)
    have hv42 := hv42.ext hCw46
    have hC := hC.ext hCw46
    have hO := hO.ext hCw46
    have hS := Chg.refl [] w46
    refine x_p 0 (.pointer (some ⟨g2, 1, none⟩)) rfl (by kernel_rfl)  (fun _ => y_faddr rfl Fa24x1) (fun _ => hS) ?_
    refine x_l 1 (.slice a42 n42 c42) rfl (by kernel_rfl)  (fun w' hw' => y_load rfl ((box_load Ag22 Sz22 hb3 [(.int .i64 3)] [(.slice a42 n42 c42)] [] rfl rfl (fun _ => rfl)) w' hw')) hS ?_
    refine x_p 2 (.func (.func 58) #[] #[]) rfl (by kernel_rfl)  (fun _ => y_move rfl) (fun _ => hS) ?_
    refine x_p 3 (.int .i64 k38) rfl (by kernel_rfl)  (fun _ => y_move rfl) (fun _ => hS) ?_
    refine x_p 4 (.int .i64 n) rfl (by kernel_rfl)  (fun _ => y_move rfl) (fun _ => hS) ?_
    obtain ⟨u47, hu47, hs⟩ := bind_some hs
    refine x_p 5 (.int .i64 (w64 (Int.tdiv k38 n))) rfl (by kernel_rfl)  (fun _ => y_quo rfl rfl (nz_ne hu47)) (fun _ => hS) ?_
    refine x_p 6 (.int .i64 n) rfl (by kernel_rfl)  (fun _ => y_move rfl) (fun _ => hS) ?_
    obtain ⟨u48, hu48, hs⟩ := bind_some hs
    refine x_p 7 (.int .i64 (w64 (Int.tdiv (w64 (Int.tdiv k38 n)) n))) rfl (by kernel_rfl)  (fun _ => y_quo rfl rfl (nz_ne hu48)) (fun _ => hS) ?_
    refine x_p 8 (.int .i64 k38) rfl (by kernel_rfl)  (fun _ => y_move rfl) (fun _ => hS) ?_
    refine x_p 9 (.int .i64 n) rfl (by kernel_rfl)  (fun _ => y_move rfl) (fun _ => hS) ?_
    obtain ⟨u49, hu49, hs⟩ := bind_some hs
    refine x_p 10 (.int .i64 (w64 (Int.tdiv k38 n))) rfl (by kernel_rfl)  (fun _ => y_quo rfl rfl (nz_ne hu49)) (fun _ => hS) ?_
    refine x_p 11 (.int .i64 n) rfl (by kernel_rfl)  (fun _ => y_move rfl) (fun _ => hS) ?_
    obtain ⟨u50, hu50, hs⟩ := bind_some hs
    refine x_p 12 (.int .i64 (Int.tmod (w64 (Int.tdiv k38 n)) n)) rfl (by kernel_rfl)  (fun _ => y_rem rfl rfl (nz_ne hu50)) (fun _ => hS) ?_
    refine x_p 13 (.int .i64 k38) rfl (by kernel_rfl)  (fun _ => y_move rfl) (fun _ => hS) ?_
    refine x_p 14 (.int .i64 n) rfl (by kernel_rfl)  (fun _ => y_move rfl) (fun _ => hS) ?_
    obtain ⟨u51, hu51, hs⟩ := bind_some hs
    refine x_p 15 (.int .i64 (Int.tmod k38 n)) rfl (by kernel_rfl)  (fun _ => y_rem rfl rfl (nz_ne hu51)) (fun _ => hS) ?_
    refine x_one (i := 16) (by kernel_rfl) ?_
    obtain ⟨r53, hr53, hs⟩ := bind_some hs
    refine xk_callv (b := false) rfl  (h := rfl) Bd58 rfl (c_impl_discriminator_1 (M := M) (w64 (Int.tdiv (w64 (Int.tdiv k38 n)) n)) (Int.tmod (w64 (Int.tdiv k38 n)) n) (Int.tmod k38 n)  hO.fut hr53) rfl (by rintro _ _ _ ⟨rfl, hC52⟩; exact hS.ext hC52) ?_
    rintro _ w52 ⟨rfl, hC52⟩
    have hb1 := hb1.chg hC52 (fun h => nomatch h)
    have hb3 := hb3.chg hC52 (fun h => nomatch h)
    have hv42 := hv42.ext hC52
    have hC := hC.ext hC52
    have hO := hO.ext hC52
    have hS := hS.ext hC52
    refine x_one (i := 17) (by kernel_rfl) ?_
    obtain ⟨w54, g54, ew54, eg54, hC54, hb54⟩ := new_block w52 [(.int .i64 r53)] 3
    refine xk_val (w' := w54) (b := false) (.slice (some ⟨g54, 0, none⟩) 1 1) rfl  (y_bslice rfl (by rw [ew54, eg54]; kernel_rfl)) rfl (fun _ => hS.ext hC54) ?_
    have hb1 := hb1.chg hC54 (fun h => nomatch h)
    have hb3 := hb3.chg hC54 (fun h => nomatch h)
    have hv42 := hv42.ext hC54
    have hC := hC.ext hC54
    have hO := hO.new (X' := [g54]) hC54 (fun q hq => by rw [List.mem_singleton.1 hq, eg54]; exact Nat.le_refl _) (List.nodup_cons.2 ⟨(fun h => nomatch h), List.nodup_nil⟩) (fun q hq => by rw [List.mem_singleton.1 hq]; exact hb54.lt)
    have hv54 := os_of_box (r := (RT.int .i64)) (M := M) (css := [[(.int .i64 r53)]]) (fps := [([] : List Nat)]) (xs := ([r53] : List Int)) hb54 ⟨⟨rfl, rfl⟩, trivial⟩ (Nat.le_of_ble_eq_true rfl) (List.nodup_cons.2 ⟨(fun h => nomatch h), List.nodup_nil⟩)
    have hv54 : (RT.os 3 (RT.int .i64)).val M w54 (.slice (some ⟨g54, 0, none⟩) 1 1) [r53] [g54] := hv54
    have hS := hS.ext hC54
    refine x_one (i := 18) (by kernel_rfl) ?_
    obtain ⟨y57, hy57, hs⟩ := bind_some hs
    have hO := hO.fr1
    obtain ⟨a56, n56, c56, w56, f56, hr56, hC56, hf56, hv56⟩ := app_os Rw22 hy57 hv42 hv54 hO.inM (fun g hg hq => hO.apart g hq (mem_l hg))
    have hG56 := os_block hv42
    refine xk_val (w' := w56) (b := true) (.slice a56 n56 c56) rfl  (y_append rfl rfl (hr56 _)) rfl (fun h => nomatch h) ?_
    have hO := hO.fr1
    have hO := hO.fr1
    have hb1 := hb1.chg hC56 (fun hg => hO.apart _ (hG56 _ hg) (mem_r (mem_r (mem_l (List.mem_singleton.2 rfl)))))
    have hb3 := hb3.chg hC56 (fun hg => hO.apart _ (hG56 _ hg) (mem_r (mem_l (List.mem_singleton.2 rfl))))
    have hC := hC.step hC56 (fun g hg => hO.inN g (hG56 g hg))
    have hO := hO.eat hC56 hf56 (os_nodup hv56) hv56.fpl
    refine x_p 19 (.pointer (some ⟨g2, 1, none⟩)) rfl (by kernel_rfl)  (fun _ => y_faddr rfl Fa24x1) (fun h => nomatch h) ?_
    refine x_one (i := 20) (by kernel_rfl) ?_
    obtain ⟨w59, hst59, hC59, hb59⟩ := box_store (P := Try.prog) hb3 [(.int .i64 3)] [(.slice a42 n42 c42)] [] [(.slice a56 n56 c56)] rfl rfl (by intro u hu; simp only [List.mem_cons, List.not_mem_nil, or_false] at hu; rcases hu with rfl <;> rfl)
    refine xk_skip (w' := w59) (b := true) rfl (ys_store rfl rfl (hst59 _ _ rfl Sz22)) rfl (fun h => nomatch h) ?_
    have hO := hO.fr1
    have hb1 := hb1.chg hC59 (fun hg => hO.apart _ ((fun _ h => h) _ hg) (mem_r (mem_l (List.mem_singleton.2 rfl))))
    have hv56 := hv56.mut hC59 (fun g hg => hO.inM g ((fun _ h => h) g hg)) (fun g hg e => hO.apart g ((fun _ h => h) g hg) (mem_l (e)))
    have hC := hC.step hC59 (fun g hg => hO.inN g ((fun _ h => h) g hg))
    have hO := hO.ext hC59
    have hb59 : BoxV w59 g2 24 [(.int .i64 3), (.slice a56 n56 c56)] := hb59
    refine x_end (by kernel_rfl) ?_
    clear hS
    refine c_region ?_
    refine pl_val (.int .i64 k38) (y_move rfl) ?_
    refine pl_val (.int .i64 (w64 (k38 + 1))) (y_add rfl rfl) ?_
    refine pl_val (.int .i64 (w64 (k38 + 1))) (y_assign rfl) ?_
    refine c_nil ?_
    cases hs
    have hO := hO.fr2
    have hO := hO.fr1
    have hO := hO.fr2
    exact ⟨_, a56, n56, c56, f56, fr_ovl 38 ⟨rfl, rfl, rfl, rfl, congrArg (Value.int .i64) hw, trivial⟩, hC, hO, hb1, hb59, hv56⟩
  · skip
    have hO := hO.fr1
    have hO := hO.fr1
    have hO := hO.nil
    exact ⟨_, none, 0, 0, [], fr_ovl 38 ⟨rfl, rfl, rfl, rfl, rfl, trivial⟩, hC, hO, hb1, hb3, os_nil⟩
  · cases o40 with
    | nx _ => exact True.intro
    | rt r_ =>
      have hs := after_rt hs
      intro a1 w1 hK
      cases hs
      exact hK
    | br s36 =>
      have hs := after_br hs
      rintro a1 w37 ⟨σ, a44, n44, c44, f44, rfl, hC, hO, hb1, hb3, hv44⟩
      refine c_seq ?_
      refine c_region ?_
      refine pl_val (.agg #[(.int .i64 3), (.slice a44 n44 c44)]) (y_load rfl ((box_load Ag24 Sz24 hb3 [] [(.int .i64 3), (.slice a44 n44 c44)] [] rfl rfl (fun h => nomatch h)) _ (Chg.refl _ _))) ?_
      obtain ⟨w60, hst60, hC60, hb60⟩ := box_store (P := Try.prog) hb1 [] [(.int .i64 0), (.slice none 0 0)] [] [(.int .i64 3), (.slice a44 n44 c44)] rfl rfl (by intro u hu; simp only [List.mem_cons, List.not_mem_nil, or_false] at hu; rcases hu with rfl | rfl <;> rfl)
      refine pl_skip (w' := w60) (ys_store rfl rfl (hst60 _ _ rfl Sz24)) ?_
      have hO := hO.fr2
      have hb3 := hb3.chg hC60 (fun hg => hO.apart _ ((fun _ h => h) _ hg) (mem_r (mem_l (List.mem_singleton.2 rfl))))
      have hv44 := hv44.mut hC60 (fun g hg => hO.inM g ((fun _ h => h) g hg)) (fun g hg e => hO.apart g ((fun _ h => h) g hg) (mem_l (e)))
      have hC := hC.step hC60 (fun g hg => hO.inN g ((fun _ h => h) g hg))
      have hO := hO.ext hC60
      have hb60 : BoxV w60 g1 24 [(.int .i64 3), (.slice a44 n44 c44)] := hb60
      refine c_nil ?_
      refine wp_ret ?_
      cases hs
      exact ⟨_, g1, a44, n44, c44, f44, fr_ovl 38 ⟨rfl, trivial⟩, hb60, hC, hv44, (fun g hg => ((hO.2.1 g (mem_r (mem_l (hg)))).2.2).resolve_left (fun h => nomatch h))⟩

theorem Bd34 : Bodied Try.prog 34 := bodied Try.func34 (by kernel_rfl) rfl

def k_impl_discriminator (M : Nat → Prop) (w0 : World) (r : (Int × (List Int))) (a : Act) (w : World) : Prop :=
  ∃ (σ : Nat → Value) (rg2 : Nat) (ra0 : Option Addr) (rn0 rc0 : Nat) (rf0 : List Nat), a = fr 5 (ovl σ [(2, (.pointer (some ⟨rg2, 0, none⟩)))]) ∧ BoxV w rg2 24 [(.int .i64 r.1), (.slice ra0 rn0 rc0)] ∧ Chg [] w0 w ∧ (RT.os 3 (RT.int .i64)).val M w (.slice ra0 rn0 rc0) r.2 rf0 ∧ (∀ g ∈ rf0, w0.heap.size ≤ g)
def s_impl_discriminator (n : Int) : Option ((Int × (List Int))) :=
  (s_impl_ternary__impl_discriminator_1 n).bind fun r3 =>
  some (r3.1, r3.2)
set_option maxHeartbeats 4000000 in
theorem c_impl_discriminator {M : Nat → Prop} {w : World}  (n : Int)  (hM : ∀ g, w.heap.size ≤ g → M g) {r : (Int × (List Int))} (hs : s_impl_discriminator n = some r) :
    Gives Try.prog 38 [(.int .i64 n)] w (fun v w' => ∃ (ra0 : Option Addr) (rn0 rc0 : Nat) (rf0 : List Nat), v = (.agg #[(.int .i64 r.1), (.slice ra0 rn0 rc0)]) ∧ Chg [] w w' ∧ (RT.os 3 (RT.int .i64)).val M w' (.slice ra0 rn0 rc0) r.2 rf0 ∧ (∀ g ∈ rf0, w.heap.size ≤ g)) := by
  refine calls_fr Try.func38 rfl Try.ntmps38 (Nat.le_of_ble_eq_true rfl) ?_
  have hO := Own.start (N := Nw w []) hM Nw.fut
  have hC := Chg.refl [] w
  unfold s_impl_discriminator at hs
  refine wp_mono (Q := KPost (k_impl_discriminator M w r)) ?_ (fun e a w1 h => ?_)
  rotate_left
  · cases e
    case ret =>
      obtain ⟨σ, rg2, ra0, rn0, rc0, rf0, rfl, hbrg2, hrest⟩ := h
      exact ret1x Try.results38 (res_cell rfl (box_load Ag24 Sz24 hbrg2 [] _ [] rfl rfl (fun h => nomatch h))) ⟨ra0, rn0, rc0, rf0, rfl, hrest⟩
    all_goals exact (h : False).elim
  refine c_seq ?_
  refine c_region ?_
  obtain ⟨w1, g1, ew1, eg1, hC1, hb1⟩ := new_block w [(.int .i64 0), (.slice none 0 0)] 24
  refine pl_val (w' := w1) (.pointer (some ⟨g1, 0, none⟩)) (y_alloc (by rw [ew1, eg1]; kernel_rfl)) ?_
  have hC := hC.ext hC1
  have hO := hO.new (X' := [g1]) hC1 (fun q hq => by rw [List.mem_singleton.1 hq, eg1]; exact Nat.le_refl _) (List.nodup_cons.2 ⟨(fun h => nomatch h), List.nodup_nil⟩) (fun q hq => by rw [List.mem_singleton.1 hq]; exact hb1.lt)
  refine c_nil ?_
  refine c_seq ?_
  refine c_region ?_
  refine pl_val (.int .i64 n) (y_move rfl) ?_
  obtain ⟨r3, hr3, hs⟩ := bind_some hs
  refine pl_call Bd34 rfl (c_impl_ternary__impl_discriminator_1 (M := M) n  hO.fut hr3) ?_
  rintro _ w2 ⟨a2x0, n2x0, c2x0, f2x0, rfl, hC2, hv2x0, hfr2x0⟩
  have hb1 := hb1.chg hC2 (fun h => nomatch h)
  have hC := hC.ext hC2
  have hO := hO.new hC2 hfr2x0 (os_nodup hv2x0) hv2x0.fpl
  obtain ⟨w5, hst5, hC5, hb5⟩ := box_store (P := Try.prog) hb1 [] [(.int .i64 0), (.slice none 0 0)] [] [(.int .i64 r3.1), (.slice a2x0 n2x0 c2x0)] rfl rfl (by intro u hu; simp only [List.mem_cons, List.not_mem_nil, or_false] at hu; rcases hu with rfl | rfl <;> rfl)
  refine pl_skip (w' := w5) (ys_store rfl rfl (hst5 _ _ rfl Sz24)) ?_
  have hO := hO.fr1
  have hv2x0 := hv2x0.mut hC5 (fun g hg => hO.inM g ((fun _ h => h) g hg)) (fun g hg e => hO.apart g ((fun _ h => h) g hg) (mem_l (e)))
  have hC := hC.step hC5 (fun g hg => hO.inN g ((fun _ h => h) g hg))
  have hO := hO.ext hC5
  have hb5 : BoxV w5 g1 24 [(.int .i64 r3.1), (.slice a2x0 n2x0 c2x0)] := hb5
  refine c_nil ?_
  refine wp_ret ?_
  cases hs
  exact ⟨_, g1, a2x0, n2x0, c2x0, f2x0, fr_ovl 5 ⟨rfl, trivial⟩, hb5, hC, hv2x0, (fun g hg => ((hO.2.1 g (mem_r (mem_l (hg)))).2.2).resolve_left (fun h => nomatch h))⟩

def k_impl_sameList (M : Nat → Prop) (w0 : World) (r : Bool) (a : Act) (w : World) : Prop :=
  ∃ (σ : Nat → Value) , a = fr 26 (ovl σ [(4, (.bool r))]) ∧ Chg [] w0 w
def s_impl_sameList (a_ : List Int) (b : List Int) : Option (Bool) :=
  (bif ((a_.length : Int) != (b.length : Int)) then some false else (forC (S := Unit) (R := Bool) (fun k11 s9 =>
  (idx a_ k11).bind fun x15 =>
  (idx b k11).bind fun x17 =>
  (bif (x17 != x15) then some (.rt false) else some (.nx ()))) 0 (a_.length : Int) ()).bind fun o13 => after o13 (fun r_ => some r_) (fun s9 =>
  some true))
set_option maxHeartbeats 4000000 in
theorem c_impl_sameList {M : Nat → Prop} {w : World} {pa0 : Option Addr} {pn0 pc0 : Nat} {pa1 : Option Addr} {pn1 pc1 : Nat} (a_ : List Int) (b : List Int) (h0 : (RT.rs (RT.int .i64)).val M w (.slice pa0 pn0 pc0) a_ ([])) (h1 : (RT.rs (RT.int .i64)).val M w (.slice pa1 pn1 pc1) b ([])) (hM : ∀ g, w.heap.size ≤ g → M g) {r : Bool} (hs : s_impl_sameList a_ b = some r) :
    Gives Try.prog 43 [(.slice pa0 pn0 pc0), (.slice pa1 pn1 pc1)] w (fun v w' => v = (.bool r) ∧ Chg [] w w') := by
  refine calls_fr Try.func43 rfl Try.ntmps43 (Nat.le_of_ble_eq_true rfl) ?_
  have hO := Own.start (N := Nw w []) hM Nw.fut
  have hC := Chg.refl [] w
  unfold s_impl_sameList at hs
  refine wp_mono (Q := KPost (k_impl_sameList M w r)) ?_ (fun e a w1 h => ?_)
  rotate_left
  · cases e
    case ret =>
      obtain ⟨σ, rfl, hrest⟩ := h
      exact ret1x Try.results43 (res_tmp rfl) ⟨rfl, hrest⟩
    all_goals exact (h : False).elim
  refine c_seq ?_
  refine c_region ?_
  refine pl_val (.bool false) (y_assign rfl) ?_
  refine c_nil ?_
  refine c_seq ?_
  refine c_seq ?_
  refine c_region ?_
  refine pl_val (.slice pa0 pn0 pc0) (y_move rfl) ?_
  refine pl_val (.int .i64 (a_.length : Int)) (y_len' Sl22 (rs_len h0) rfl) ?_
  refine pl_val (.slice pa1 pn1 pc1) (y_move rfl) ?_
  refine pl_val (.int .i64 (b.length : Int)) (y_len' Sl22 (rs_len h1) rfl) ?_
  refine pl_val (.bool ((a_.length : Int) != (b.length : Int))) (y_neq rfl rfl) ?_
  refine c_nil ?_
  rcases bif_some hs with ⟨hc3, hs⟩ | ⟨hc3, hs⟩
  · skip
    refine c_condT (congrArg Value.bool hc3) ?_
    refine c_seq ?_
    refine c_region ?_
    refine pl_val (.bool false) (y_assign rfl) ?_
    refine c_nil ?_
    refine wp_ret ?_
    cases hs
    exact ⟨_, fr_ovl 26 ⟨rfl, trivial⟩, hC⟩
  · skip
    refine c_condF (congrArg Value.bool hc3) ?_
    refine wp_skip ?_
    refine c_seq ?_
    refine c_seq ?_
    refine c_region ?_
    refine pl_val (.slice pa0 pn0 pc0) (y_move rfl) ?_
    refine pl_val (.int .i64 (a_.length : Int)) (y_len' Sl22 (rs_len h0) rfl) ?_
    refine pl_val (.int .i64 0) (y_move rfl) ?_
    refine c_nil ?_
    obtain ⟨o13, hl14, hs⟩ := bind_some hs
    refine wp_block ?_
    refine wp_forC (id := 0) (a_.length : Int) (I := fun k11 s9 a w10 => ∃ (σ : Nat → Value), a = fr 26 (ovl σ [(1, (.slice pa1 pn1 pc1)), (12, (.slice pa0 pn0 pc0)), (13, (.int .i64 (a_.length : Int))), (14, (.int .i64 k11))]) ∧ Chg [] w w10 ∧ Own (Nw w []) M w10 ([]) ∧ (RT.rs (RT.int .i64)).val M w10 (.slice pa0 pn0 pc0) a_ ([]) ∧ (RT.rs (RT.int .i64)).val M w10 (.slice pa1 pn1 pc1) b ([])) (J := fun s9 a w10 => ∃ (σ : Nat → Value), a = fr 26 (ovl σ []) ∧ Chg [] w w10 ∧ Own (Nw w []) M w10 ([]) ∧ (RT.rs (RT.int .i64)).val M w10 (.slice pa0 pn0 pc0) a_ ([]) ∧ (RT.rs (RT.int .i64)).val M w10 (.slice pa1 pn1 pc1) b ([])) (K := (k_impl_sameList M w)) ?_ ?_ 0 () o13 _ _ ?_ hl14 ?_
    · rintro k11 s9 a w10 ⟨σ, rfl, hC, hO, h0, h1⟩ hlt
      refine c_seq ?_
      refine c_region ?_
      refine pl_val (.bool (decide (k11 < (a_.length : Int)))) (y_lss rfl rfl) ?_
      refine c_nil ?_
      refine c_seq ?_
      refine c_condF (congrArg Value.bool (decide_eq_false hlt)) ?_
      refine wp_exit ?_
      exact ⟨rfl, _, fr_ovl 26 trivial, hC, hO, h0, h1⟩
    · rintro k11 s9 o13 a w10 ⟨σ, rfl, hC, hO, h0, h1⟩ hlt hw hs
      refine c_seq ?_
      refine c_region ?_
      refine pl_val (.bool (decide (k11 < (a_.length : Int)))) (y_lss rfl rfl) ?_
      refine c_nil ?_
      refine c_seq ?_
      refine c_condT (congrArg Value.bool (decide_eq_true hlt)) ?_
      refine wp_skip ?_
      refine c_seq ?_
      refine wp_block ?_
      refine c_seq ?_
      refine c_region ?_
      refine pl_val (.int .i64 k11) (y_move rfl) ?_
      obtain ⟨x15, hx15, hs⟩ := bind_some hs
      obtain ⟨b16, o16, hp16, ha16⟩ := rs_idx Sl22 Sz3 h0 hx15
      refine pl_val (.pointer (some ⟨b16, o16, none⟩)) (hp16 _ _ _ _ _ _ _ _ _ rfl rfl) ?_
      refine pl_val (.int .i64 x15) (y_load rfl ((at_load_int Ag3 Sz3 ha16) _ (Chg.refl _ _))) ?_
      refine pl_val (.int .i64 k11) (y_assign rfl) ?_
      refine pl_val (.int .i64 x15) (y_assign rfl) ?_
      refine c_nil ?_
      refine c_seq ?_
      refine c_region ?_
      refine pl_val (.slice pa1 pn1 pc1) (y_move rfl) ?_
      refine pl_val (.int .i64 k11) (y_move rfl) ?_
      obtain ⟨x17, hx17, hs⟩ := bind_some hs
      obtain ⟨b18, o18, hp18, ha18⟩ := rs_idx Sl22 Sz3 h1 hx17
      refine pl_val (.pointer (some ⟨b18, o18, none⟩)) (hp18 _ _ _ _ _ _ _ _ _ rfl rfl) ?_
      refine pl_val (.int .i64 x17) (y_load rfl ((at_load_int Ag3 Sz3 ha18) _ (Chg.refl _ _))) ?_
      refine pl_val (.int .i64 x15) (y_move rfl) ?_
      refine pl_val (.bool (x17 != x15)) (y_neq rfl rfl) ?_
      refine c_nil ?_
      rcases bif_some hs with ⟨hc19, hs⟩ | ⟨hc19, hs⟩
      · skip
        refine c_condT (congrArg Value.bool hc19) ?_
        refine c_seq ?_
        refine c_region ?_
        refine pl_val (.bool false) (y_assign rfl) ?_
        refine c_nil ?_
        refine wp_ret ?_
        cases hs
        exact ⟨_, fr_ovl 26 ⟨rfl, trivial⟩, hC⟩
      · skip
        refine c_condF (congrArg Value.bool hc19) ?_
        refine wp_skip ?_
        refine c_region ?_
        refine pl_val (.int .i64 (w64 (k11 + 1))) (y_add rfl rfl) ?_
        refine pl_val (.int .i64 (w64 (k11 + 1))) (y_move rfl) ?_
        refine c_nil ?_
        cases hs
        exact ⟨_, fr_ovl 26 ⟨rfl, rfl, rfl, congrArg (Value.int .i64) hw, trivial⟩, hC, hO, h0, h1⟩
    · skip
      exact ⟨_, fr_ovl 26 ⟨rfl, rfl, rfl, rfl, trivial⟩, hC, hO, h0, h1⟩
    · cases o13 with
      | nx _ => exact True.intro
      | rt r_ =>
        have hs := after_rt hs
        intro a1 w1 hK
        cases hs
        exact hK
      | br s9 =>
        have hs := after_br hs
        rintro a1 w10 ⟨σ, rfl, hC, hO, h0, h1⟩
        refine c_seq ?_
        refine c_region ?_
        refine pl_val (.bool true) (y_assign rfl) ?_
        refine c_nil ?_
        refine wp_ret ?_
        cases hs
        exact ⟨_, fr_ovl 26 ⟨rfl, trivial⟩, hC⟩

theorem Bd33 : Bodied Try.prog 33 := bodied Try.func33 (by kernel_rfl) rfl

theorem Bd42 : Bodied Try.prog 42 := bodied Try.func42 (by kernel_rfl) rfl

theorem Bd38 : Bodied Try.prog 38 := bodied Try.func38 (by kernel_rfl) rfl

theorem Bd43 : Bodied Try.prog 43 := bodied Try.func43 (by kernel_rfl) rfl

def k_impl_IsDiscriminatorOp (M : Nat → Prop) (w0 : World) (r : Bool × Bool) (a : Act) (w : World) : Prop :=
  ∃ (σ : Nat → Value) , a = fr 26 (ovl σ [(4, (.bool r.1)), (5, (.bool r.2))]) ∧ Chg [] w0 w
def s_impl_IsDiscriminatorOp (n : Int) (op : Int × (List Int)) : Option (Bool × Bool) :=
  ((s_impl_isSize n).bind fun r7 =>
  (bif (!r7) then some true else (s_impl_isOp (op.1, op.2) n).bind fun r10 =>
  some (!r10))).bind fun s3 =>
  (bif s3 then some (false, false) else (bif (op.1 == 3) then (s_impl_discriminator n).bind fun r15 =>
  (s_impl_sameList op.2 r15.2).bind fun r18 =>
  some (r18, true) else some (false, true)))
set_option maxHeartbeats 4000000 in
theorem c_impl_IsDiscriminatorOp {M : Nat → Prop} {w : World} {pa0 : Option Addr} {pn0 pc0 : Nat} (n : Int) (op : Int × (List Int)) (h0 : (RT.rs (RT.int .i64)).val M w (.slice pa0 pn0 pc0) op.2 ([])) (hM : ∀ g, w.heap.size ≤ g → M g) {r : Bool × Bool} (hs : s_impl_IsDiscriminatorOp n op = some r) :
    Gives Try.prog 20 [(.int .i64 n), (.agg #[(.int .i64 op.1), (.slice pa0 pn0 pc0)])] w (fun v w' => v = (.tuple #[(.bool r.1), (.bool r.2)]) ∧ Chg [] w w') := by
  refine calls_fr Try.func20 rfl Try.ntmps20 (Nat.le_of_ble_eq_true rfl) ?_
  have hO := Own.start (N := Nw w []) hM Nw.fut
  have hC := Chg.refl [] w
  unfold s_impl_IsDiscriminatorOp at hs
  refine wp_mono (Q := KPost (k_impl_IsDiscriminatorOp M w r)) ?_ (fun e a w1 h => ?_)
  rotate_left
  · cases e
    case ret =>
      obtain ⟨σ, rfl, hrest⟩ := h
      exact ret2x Try.results20 (res_tmp rfl) (res_tmp rfl) ⟨rfl, hrest⟩
    all_goals exact (h : False).elim
  refine c_seq ?_
  refine c_region ?_
  obtain ⟨w2, g2, ew2, eg2, hC2, hb2⟩ := new_block w [(.int .i64 op.1), (.slice pa0 pn0 pc0)] 24
  refine pl_val (w' := w2) (.pointer (some ⟨g2, 0, none⟩)) (y_box rfl (by rw [ew2, eg2]; kernel_rfl)) ?_
  have h0 := h0.ext hC2
  have hC := hC.ext hC2
  have hO := hO.new (X' := [g2]) hC2 (fun q hq => by rw [List.mem_singleton.1 hq, eg2]; exact Nat.le_refl _) (List.nodup_cons.2 ⟨(fun h => nomatch h), List.nodup_nil⟩) (fun q hq => by rw [List.mem_singleton.1 hq]; exact hb2.lt)
  refine pl_val (.bool false) (y_assign rfl) ?_
  refine pl_val (.bool false) (y_assign rfl) ?_
  refine c_nil ?_
  refine c_seq ?_
  refine c_seq ?_
  obtain ⟨s3, hm5, hs⟩ := bind_some hs
  refine c_mid (I := fun a w4 => ∃ (σ : Nat → Value), a = fr 26 (ovl σ [(0, (.int .i64 n)), (3, (.pointer (some ⟨g2, 0, none⟩))), (4, (.bool false)), (5, (.bool false)), (14, (.bool s3))]) ∧ Chg [] w2 w4) ?_ ?_
  · replace hs := hm5
    have hMid := Chg.refl [] w2
    refine c_region ?_
    refine pl_val (.int .i64 n) (y_move rfl) ?_
    obtain ⟨r7, hr7, hs⟩ := bind_some hs
    refine pl_call Bd33 rfl (c_impl_isSize (M := M) n  hO.fut hr7) ?_
    rintro _ w6 ⟨rfl, hC6⟩
    have h0 := h0.ext hC6
    have hb2 := hb2.chg hC6 (fun h => nomatch h)
    have hMid := hMid.ext hC6
    have hC := hC.ext hC6
    have hO := hO.ext hC6
    refine pl_val (.bool (!r7)) (y_not rfl) ?_
    refine pl_val (.bool (!r7)) (y_move rfl) ?_
    rcases bif_some hs with ⟨hc8, hs⟩ | ⟨hc8, hs⟩
    · skip
      refine pl_not (tg := 9) (by kernel_rfl) (congrArg Value.bool hc8) ?_
      refine pl_not (tg := 9) (by kernel_rfl) (congrArg Value.bool hc8) ?_
      refine pl_not (tg := 9) (by kernel_rfl) (congrArg Value.bool hc8) ?_
      refine pl_not (tg := 9) (by kernel_rfl) (congrArg Value.bool hc8) ?_
      refine pl_val (.bool true) (y_pick_t (congrArg Value.bool hc8) rfl) ?_
      refine c_nil ?_
      cases hs
      exact ⟨_, fr_ovl 26 ⟨rfl, rfl, rfl, rfl, rfl, trivial⟩, hMid⟩
    · skip
      refine pl_yes (.agg #[(.int .i64 op.1), (.slice pa0 pn0 pc0)]) (tg := 9) (by kernel_rfl) (congrArg Value.bool hc8) (y_load rfl ((box_load Ag24 Sz24 hb2 [] [(.int .i64 op.1), (.slice pa0 pn0 pc0)] [] rfl rfl (fun h => nomatch h)) _ (Chg.refl _ _))) ?_
      refine pl_yes (.int .i64 n) (tg := 9) (by kernel_rfl) (congrArg Value.bool hc8) (y_move rfl) ?_
      obtain ⟨r10, hr10, hs⟩ := bind_some hs
      refine pl_cally (tg := 9) (by kernel_rfl) (congrArg Value.bool hc8) Bd42 rfl (c_impl_isOp (M := M) (op.1, op.2) n h0 hO.fut hr10) ?_
      rintro _ w9 ⟨rfl, hC9⟩
      have h0 := h0.ext hC9
      have hb2 := hb2.chg hC9 (fun h => nomatch h)
      have hMid := hMid.ext hC9
      have hC := hC.ext hC9
      have hO := hO.ext hC9
      refine pl_yes (.bool (!r10)) (tg := 9) (by kernel_rfl) (congrArg Value.bool hc8) (y_not rfl) ?_
      refine pl_val (.bool (!r10)) (y_pick_f (congrArg Value.bool hc8) rfl) ?_
      refine c_nil ?_
      cases hs
      exact ⟨_, fr_ovl 26 ⟨rfl, rfl, rfl, rfl, rfl, trivial⟩, hMid⟩
  · rintro a1 w4 ⟨σ, rfl, hCs3⟩
    have h0 := h0.ext hCs3
    have hb2 := hb2.chg hCs3 (fun h => nomatch h)
    have hC := hC.ext hCs3
    have hO := hO.ext hCs3
    rcases bif_some hs with ⟨hc11, hs⟩ | ⟨hc11, hs⟩
    · skip
      refine c_condT (congrArg Value.bool hc11) ?_
      refine c_seq ?_
      refine c_region ?_
      refine pl_val (.bool false) (y_assign rfl) ?_
      refine pl_val (.bool false) (y_assign rfl) ?_
      refine c_nil ?_
      refine wp_ret ?_
      cases hs
      exact ⟨_, fr_ovl 26 ⟨rfl, rfl, trivial⟩, hC⟩
    · skip
      refine c_condF (congrArg Value.bool hc11) ?_
      refine wp_skip ?_
      refine c_seq ?_
      refine x_start [] Mx rfl ?_
      have hCw12 := Chg.drew w4
      generalize World.drew w4 = w12 at hCw12 ⊢
      have h0 := h0.ext hCw12
      have hb2 := hb2.chg hCw12 (fun h => nomatch h)
      have hC := hC.ext hCw12
      have hO := hO.ext hCw12
      have hS := Chg.refl [] w12
      refine x_p 0 (.pointer (some ⟨g2, 0, none⟩)) rfl (by kernel_rfl)  (fun _ => y_faddr rfl Fa24x0) (fun _ => hS) ?_
      refine x_l 1 (.int .i64 op.1) rfl (by kernel_rfl)  (fun w' hw' => y_load rfl ((box_load Ag3 Sz3 hb2 [] [(.int .i64 op.1)] [(.slice pa0 pn0 pc0)] rfl rfl (fun _ => rfl)) w' hw')) hS ?_
      refine x_p 2 (.bool (op.1 == 3)) rfl (by kernel_rfl)  (fun _ => y_eql rfl rfl) (fun _ => hS) ?_
      refine x_p 3 (.bool (op.1 == 3)) rfl (by kernel_rfl)  (fun _ => y_move rfl) (fun _ => hS) ?_
      rcases bif_some hs with ⟨hc13, hs⟩ | ⟨hc13, hs⟩
      · skip
        refine x_py 4 (.pointer (some ⟨g2, 1, none⟩)) rfl (by kernel_rfl) (tg := 18) (by kernel_rfl) (congrArg Value.bool hc13) (fun _ => y_faddr rfl Fa24x1) (fun _ => hS) ?_
        refine x_ly 5 (.slice pa0 pn0 pc0) rfl (by kernel_rfl) (tg := 18) (by kernel_rfl) (congrArg Value.bool hc13) (fun w' hw' => y_load rfl ((box_load Ag22 Sz22 hb2 [(.int .i64 op.1)] [(.slice pa0 pn0 pc0)] [] rfl rfl (fun _ => rfl)) w' hw')) hS ?_
        refine x_py 6 (.int .i64 n) rfl (by kernel_rfl) (tg := 18) (by kernel_rfl) (congrArg Value.bool hc13) (fun _ => y_move rfl) (fun _ => hS) ?_
        refine x_one (i := 7) (by kernel_rfl) ?_
        obtain ⟨r15, hr15, hs⟩ := bind_some hs
        refine xk_cally (b := false) rfl (tg := 18) (by kernel_rfl) (congrArg Value.bool hc13) Bd38 rfl (c_impl_discriminator (M := M) n  hO.fut hr15) rfl (by rintro _ _ _ ⟨a14x0, n14x0, c14x0, f14x0, rfl, hC14, hv14x0, hfr14x0⟩; exact hS.ext hC14) ?_
        rintro _ w14 ⟨a14x0, n14x0, c14x0, f14x0, rfl, hC14, hv14x0, hfr14x0⟩
        have h0 := h0.ext hC14
        have hb2 := hb2.chg hC14 (fun h => nomatch h)
        have hC := hC.ext hC14
        have hO := hO.new hC14 hfr14x0 (os_nodup hv14x0) hv14x0.fpl
        have hS := hS.ext hC14
        refine x_py 8 (.slice a14x0 n14x0 c14x0) rfl (by kernel_rfl) (tg := 18) (by kernel_rfl) (congrArg Value.bool hc13) (fun _ => y_field rfl (by kernel_rfl)) (fun _ => hS) ?_
        refine x_one (i := 9) (by kernel_rfl) ?_
        obtain ⟨r18, hr18, hs⟩ := bind_some hs
        refine xk_cally (b := false) rfl (tg := 18) (by kernel_rfl) (congrArg Value.bool hc13) Bd43 rfl (c_impl_sameList (M := (Less M f14x0)) op.2 r15.2 (h0.sub Less.sub) (((Frz.os Frz.int)).val hv14x0 Less.sub Less.not) hO.less.fut hr18) rfl (by rintro _ _ _ ⟨rfl, hC17⟩; exact hS.ext hC17) ?_
        rintro _ w17 ⟨rfl, hC17⟩
        have h0 := h0.ext hC17
        have hb2 := hb2.chg hC17 (fun h => nomatch h)
        have hv14x0 := hv14x0.ext hC17
        have hC := hC.ext hC17
        have hO := hO.ext hC17
        have hS := hS.ext hC17
        refine x_p 10 (.bool r18) rfl (by kernel_rfl)  (fun _ => y_pick_t (congrArg Value.bool hc13) rfl) (fun _ => hS) ?_
        refine x_p 11 (.bool r18) rfl (by kernel_rfl)  (fun _ => y_assign rfl) (fun _ => hS) ?_
        refine x_p 12 (.bool true) rfl (by kernel_rfl)  (fun _ => y_assign rfl) (fun _ => hS) ?_
        refine x_end (by kernel_rfl) ?_
        clear hS
        refine wp_ret ?_
        cases hs
        exact ⟨_, fr_ovl 26 ⟨rfl, rfl, trivial⟩, hC⟩
      · skip
        refine x_pn 4 rfl (by kernel_rfl) (tg := 18) (by kernel_rfl) (congrArg Value.bool hc13) (fun _ => hS) ?_
        refine x_pn 5 rfl (by kernel_rfl) (tg := 18) (by kernel_rfl) (congrArg Value.bool hc13) (fun _ => hS) ?_
        refine x_pn 6 rfl (by kernel_rfl) (tg := 18) (by kernel_rfl) (congrArg Value.bool hc13) (fun _ => hS) ?_
        refine x_pn 7 rfl (by kernel_rfl) (tg := 18) (by kernel_rfl) (congrArg Value.bool hc13) (fun _ => hS) ?_
        refine x_pn 8 rfl (by kernel_rfl) (tg := 18) (by kernel_rfl) (congrArg Value.bool hc13) (fun _ => hS) ?_
        refine x_pn 9 rfl (by kernel_rfl) (tg := 18) (by kernel_rfl) (congrArg Value.bool hc13) (fun _ => hS) ?_
        refine x_p 10 (.bool false) rfl (by kernel_rfl)  (fun _ => y_pick_f (congrArg Value.bool hc13) rfl) (fun _ => hS) ?_
        refine x_p 11 (.bool false) rfl (by kernel_rfl)  (fun _ => y_assign rfl) (fun _ => hS) ?_
        refine x_p 12 (.bool true) rfl (by kernel_rfl)  (fun _ => y_assign rfl) (fun _ => hS) ?_
        refine x_end (by kernel_rfl) ?_
        clear hS
        refine wp_ret ?_
        cases hs
        exact ⟨_, fr_ovl 26 ⟨rfl, rfl, trivial⟩, hC⟩

def k_laws_eqIntS (M : Nat → Prop) (w0 : World) (r : Bool) (a : Act) (w : World) : Prop :=
  ∃ (σ : Nat → Value) , a = fr 26 (ovl σ [(4, (.bool r))]) ∧ Chg [] w0 w
def s_laws_eqIntS (a_ : List Int) (b : List Int) : Option (Bool) :=
  (bif ((a_.length : Int) != (b.length : Int)) then some false else (forC (S := Unit) (R := Bool) (fun k12 s10 =>
  (idx a_ k12).bind fun x17 =>
  (idx b k12).bind fun x19 =>
  (bif (x17 != x19) then some (.rt false) else some (.nx ()))) 0 (a_.length : Int) ()).bind fun o14 => after o14 (fun r_ => some r_) (fun s10 =>
  some true))
set_option maxHeartbeats 4000000 in
theorem c_laws_eqIntS {M : Nat → Prop} {w : World} {pa0 : Option Addr} {pn0 pc0 : Nat} {pa1 : Option Addr} {pn1 pc1 : Nat} (a_ : List Int) (b : List Int) (h0 : (RT.rs (RT.int .i64)).val M w (.slice pa0 pn0 pc0) a_ ([])) (h1 : (RT.rs (RT.int .i64)).val M w (.slice pa1 pn1 pc1) b ([])) (hM : ∀ g, w.heap.size ≤ g → M g) {r : Bool} (hs : s_laws_eqIntS a_ b = some r) :
    Gives Try.prog 26 [(.slice pa0 pn0 pc0), (.slice pa1 pn1 pc1)] w (fun v w' => v = (.bool r) ∧ Chg [] w w') := by
  refine calls_fr Try.func26 rfl Try.ntmps26 (Nat.le_of_ble_eq_true rfl) ?_
  have hO := Own.start (N := Nw w []) hM Nw.fut
  have hC := Chg.refl [] w
  unfold s_laws_eqIntS at hs
  refine wp_mono (Q := KPost (k_laws_eqIntS M w r)) ?_ (fun e a w1 h => ?_)
  rotate_left
  · cases e
    case ret =>
      obtain ⟨σ, rfl, hrest⟩ := h
      exact ret1x Try.results26 (res_tmp rfl) ⟨rfl, hrest⟩
    all_goals exact (h : False).elim
  refine c_seq ?_
  refine c_region ?_
  refine pl_val (.bool false) (y_assign rfl) ?_
  refine c_nil ?_
  refine c_seq ?_
  refine c_seq ?_
  refine c_region ?_
  refine pl_val (.slice pa0 pn0 pc0) (y_move rfl) ?_
  refine pl_val (.int .i64 (a_.length : Int)) (y_len' Sl22 (rs_len h0) rfl) ?_
  refine pl_val (.slice pa1 pn1 pc1) (y_move rfl) ?_
  refine pl_val (.int .i64 (b.length : Int)) (y_len' Sl22 (rs_len h1) rfl) ?_
  refine pl_val (.bool ((a_.length : Int) != (b.length : Int))) (y_neq rfl rfl) ?_
  refine c_nil ?_
  rcases bif_some hs with ⟨hc3, hs⟩ | ⟨hc3, hs⟩
  · skip
    refine c_condT (congrArg Value.bool hc3) ?_
    refine c_seq ?_
    refine c_region ?_
    refine pl_val (.bool false) (y_assign rfl) ?_
    refine c_nil ?_
    refine wp_ret ?_
    cases hs
    exact ⟨_, fr_ovl 26 ⟨rfl, trivial⟩, hC⟩
  · skip
    refine c_condF (congrArg Value.bool hc3) ?_
    refine wp_skip ?_
    refine c_seq ?_
    refine c_seq ?_
    refine c_region ?_
    refine pl_val (.int .i64 0) (y_assign rfl) ?_
    refine c_nil ?_
    obtain ⟨o14, hl15, hs⟩ := bind_some hs
    refine wp_block ?_
    refine wp_forC (id := 0) (a_.length : Int) (I := fun k12 s10 a w11 => ∃ (σ : Nat → Value), a = fr 26 (ovl σ [(0, (.slice pa0 pn0 pc0)), (1, (.slice pa1 pn1 pc1)), (5, (.int .i64 k12))]) ∧ Chg [] w w11 ∧ Own (Nw w []) M w11 ([]) ∧ (RT.rs (RT.int .i64)).val M w11 (.slice pa0 pn0 pc0) a_ ([]) ∧ (RT.rs (RT.int .i64)).val M w11 (.slice pa1 pn1 pc1) b ([])) (J := fun s10 a w11 => ∃ (σ : Nat → Value), a = fr 26 (ovl σ []) ∧ Chg [] w w11 ∧ Own (Nw w []) M w11 ([]) ∧ (RT.rs (RT.int .i64)).val M w11 (.slice pa0 pn0 pc0) a_ ([]) ∧ (RT.rs (RT.int .i64)).val M w11 (.slice pa1 pn1 pc1) b ([])) (K := (k_laws_eqIntS M w)) ?_ ?_ 0 () o14 _ _ ?_ hl15 ?_
    · rintro k12 s10 a w11 ⟨σ, rfl, hC, hO, h0, h1⟩ hlt
      refine c_seq ?_
      refine c_seq ?_
      refine c_region ?_
      refine pl_val (.int .i64 k12) (y_move rfl) ?_
      refine pl_val (.slice pa0 pn0 pc0) (y_move rfl) ?_
      refine pl_val (.int .i64 (a_.length : Int)) (y_len' Sl22 (rs_len h0) rfl) ?_
      refine pl_val (.bool (decide (k12 < (a_.length : Int)))) (y_lss rfl rfl) ?_
      refine c_nil ?_
      refine c_condF (congrArg Value.bool (decide_eq_false hlt)) ?_
      refine wp_exit ?_
      exact ⟨rfl, _, fr_ovl 26 trivial, hC, hO, h0, h1⟩
    · rintro k12 s10 o14 a w11 ⟨σ, rfl, hC, hO, h0, h1⟩ hlt hw hs
      refine c_seq ?_
      refine c_seq ?_
      refine c_region ?_
      refine pl_val (.int .i64 k12) (y_move rfl) ?_
      refine pl_val (.slice pa0 pn0 pc0) (y_move rfl) ?_
      refine pl_val (.int .i64 (a_.length : Int)) (y_len' Sl22 (rs_len h0) rfl) ?_
      refine pl_val (.bool (decide (k12 < (a_.length : Int)))) (y_lss rfl rfl) ?_
      refine c_nil ?_
      refine c_condT (congrArg Value.bool (decide_eq_true hlt)) ?_
      refine wp_skip ?_
      refine c_seq ?_
      refine wp_block ?_
      refine c_seq ?_
      refine x_start [] Mx rfl ?_
      have hCw16 := Chg.drew w11
      generalize World.drew w11 = w16 at hCw16 ⊢
      have h0 := h0.ext hCw16
      have h1 := h1.ext hCw16
      have hC := hC.ext hCw16
      have hO := hO.ext hCw16
      have hS := Chg.refl [] w16
      refine x_p 0 (.slice pa0 pn0 pc0) rfl (by kernel_rfl)  (fun _ => y_move rfl) (fun _ => hS) ?_
      refine x_p 1 (.int .i64 k12) rfl (by kernel_rfl)  (fun _ => y_move rfl) (fun _ => hS) ?_
      obtain ⟨x17, hx17, hs⟩ := bind_some hs
      obtain ⟨b18, o18, hp18, ha18⟩ := rs_idx Sl22 Sz3 h0 hx17
      refine x_p 2 (.pointer (some ⟨b18, o18, none⟩)) rfl (by kernel_rfl)  (fun _ => hp18 _ _ _ _ _ _ _ _ _ rfl rfl) (fun _ => hS) ?_
      refine x_l 3 (.int .i64 x17) rfl (by kernel_rfl)  (fun w' hw' => y_load rfl ((at_load_int Ag3 Sz3 ha18) w' hw')) hS ?_
      refine x_p 4 (.slice pa1 pn1 pc1) rfl (by kernel_rfl)  (fun _ => y_move rfl) (fun _ => hS) ?_
      refine x_p 5 (.int .i64 k12) rfl (by kernel_rfl)  (fun _ => y_move rfl) (fun _ => hS) ?_
      obtain ⟨x19, hx19, hs⟩ := bind_some hs
      obtain ⟨b20, o20, hp20, ha20⟩ := rs_idx Sl22 Sz3 h1 hx19
      refine x_p 6 (.pointer (some ⟨b20, o20, none⟩)) rfl (by kernel_rfl)  (fun _ => hp20 _ _ _ _ _ _ _ _ _ rfl rfl) (fun _ => hS) ?_
      refine x_l 7 (.int .i64 x19) rfl (by kernel_rfl)  (fun w' hw' => y_load rfl ((at_load_int Ag3 Sz3 ha20) w' hw')) hS ?_
      refine x_p 8 (.bool (x17 != x19)) rfl (by kernel_rfl)  (fun _ => y_neq rfl rfl) (fun _ => hS) ?_
      refine x_end (by kernel_rfl) ?_
      clear hS
      rcases bif_some hs with ⟨hc21, hs⟩ | ⟨hc21, hs⟩
      · skip
        refine c_condT (congrArg Value.bool hc21) ?_
        refine c_seq ?_
        refine c_region ?_
        refine pl_val (.bool false) (y_assign rfl) ?_
        refine c_nil ?_
        refine wp_ret ?_
        cases hs
        exact ⟨_, fr_ovl 26 ⟨rfl, trivial⟩, hC⟩
      · skip
        refine c_condF (congrArg Value.bool hc21) ?_
        refine wp_skip ?_
        refine c_region ?_
        refine pl_val (.int .i64 k12) (y_move rfl) ?_
        refine pl_val (.int .i64 (w64 (k12 + 1))) (y_add rfl rfl) ?_
        refine pl_val (.int .i64 (w64 (k12 + 1))) (y_assign rfl) ?_
        refine c_nil ?_
        cases hs
        exact ⟨_, fr_ovl 26 ⟨rfl, rfl, congrArg (Value.int .i64) hw, trivial⟩, hC, hO, h0, h1⟩
    · skip
      exact ⟨_, fr_ovl 26 ⟨rfl, rfl, rfl, trivial⟩, hC, hO, h0, h1⟩
    · cases o14 with
      | nx _ => exact True.intro
      | rt r_ =>
        have hs := after_rt hs
        intro a1 w1 hK
        cases hs
        exact hK
      | br s10 =>
        have hs := after_br hs
        rintro a1 w11 ⟨σ, rfl, hC, hO, h0, h1⟩
        refine c_seq ?_
        refine c_region ?_
        refine pl_val (.bool true) (y_assign rfl) ?_
        refine c_nil ?_
        refine wp_ret ?_
        cases hs
        exact ⟨_, fr_ovl 26 ⟨rfl, trivial⟩, hC⟩

theorem Bd26 : Bodied Try.prog 26 := bodied Try.func26 (by kernel_rfl) rfl

def k_laws_eqOp (M : Nat → Prop) (w0 : World) (r : Bool) (a : Act) (w : World) : Prop :=
  ∃ (σ : Nat → Value) , a = fr 16 (ovl σ [(4, (.bool r))]) ∧ Chg [] w0 w
def s_laws_eqOp (a_ : Int × (List Int)) (b : Int × (List Int)) : Option (Bool) :=
  (bif (a_.1 != b.1) then some false else (s_laws_eqIntS a_.2 b.2).bind fun r7 =>
  (bif (!r7) then some false else some true))
set_option maxHeartbeats 4000000 in
theorem c_laws_eqOp {M : Nat → Prop} {w : World} {pa0 : Option Addr} {pn0 pc0 : Nat} {pa1 : Option Addr} {pn1 pc1 : Nat} (a_ : Int × (List Int)) (b : Int × (List Int)) (h0 : (RT.rs (RT.int .i64)).val M w (.slice pa0 pn0 pc0) a_.2 ([])) (h1 : (RT.rs (RT.int .i64)).val M w (.slice pa1 pn1 pc1) b.2 ([])) (hM : ∀ g, w.heap.size ≤ g → M g) {r : Bool} (hs : s_laws_eqOp a_ b = some r) :
    Gives Try.prog 12 [(.agg #[(.int .i64 a_.1), (.slice pa0 pn0 pc0)]), (.agg #[(.int .i64 b.1), (.slice pa1 pn1 pc1)])] w (fun v w' => v = (.bool r) ∧ Chg [] w w') := by
  refine calls_fr Try.func12 rfl Try.ntmps12 (Nat.le_of_ble_eq_true rfl) ?_
  have hO := Own.start (N := Nw w []) hM Nw.fut
  have hC := Chg.refl [] w
  unfold s_laws_eqOp at hs
  refine wp_mono (Q := KPost (k_laws_eqOp M w r)) ?_ (fun e a w1 h => ?_)
  rotate_left
  · cases e
    case ret =>
      obtain ⟨σ, rfl, hrest⟩ := h
      exact ret1x Try.results12 (res_tmp rfl) ⟨rfl, hrest⟩
    all_goals exact (h : False).elim
  refine c_seq ?_
  refine c_region ?_
  obtain ⟨w3, g3, ew3, eg3, hC3, hb3⟩ := new_block w [(.int .i64 a_.1), (.slice pa0 pn0 pc0)] 24
  refine pl_val (w' := w3) (.pointer (some ⟨g3, 0, none⟩)) (y_box rfl (by rw [ew3, eg3]; kernel_rfl)) ?_
  have h0 := h0.ext hC3
  have h1 := h1.ext hC3
  have hC := hC.ext hC3
  have hO := hO.new (X' := [g3]) hC3 (fun q hq => by rw [List.mem_singleton.1 hq, eg3]; exact Nat.le_refl _) (List.nodup_cons.2 ⟨(fun h => nomatch h), List.nodup_nil⟩) (fun q hq => by rw [List.mem_singleton.1 hq]; exact hb3.lt)
  obtain ⟨w4, g4, ew4, eg4, hC4, hb4⟩ := new_block w3 [(.int .i64 b.1), (.slice pa1 pn1 pc1)] 24
  refine pl_val (w' := w4) (.pointer (some ⟨g4, 0, none⟩)) (y_box rfl (by rw [ew4, eg4]; kernel_rfl)) ?_
  have h0 := h0.ext hC4
  have h1 := h1.ext hC4
  have hb3 := hb3.chg hC4 (fun h => nomatch h)
  have hC := hC.ext hC4
  have hO := hO.new (X' := [g4]) hC4 (fun q hq => by rw [List.mem_singleton.1 hq, eg4]; exact Nat.le_refl _) (List.nodup_cons.2 ⟨(fun h => nomatch h), List.nodup_nil⟩) (fun q hq => by rw [List.mem_singleton.1 hq]; exact hb4.lt)
  refine pl_val (.bool false) (y_assign rfl) ?_
  refine c_nil ?_
  refine c_seq ?_
  refine c_seq ?_
  refine c_region ?_
  refine pl_val (.pointer (some ⟨g3, 0, none⟩)) (y_faddr rfl Fa24x0) ?_
  refine pl_val (.int .i64 a_.1) (y_load rfl ((box_load Ag3 Sz3 hb3 [] [(.int .i64 a_.1)] [(.slice pa0 pn0 pc0)] rfl rfl (fun _ => rfl)) _ (Chg.refl _ _))) ?_
  refine pl_val (.pointer (some ⟨g4, 0, none⟩)) (y_faddr rfl Fa24x0) ?_
  refine pl_val (.int .i64 b.1) (y_load rfl ((box_load Ag3 Sz3 hb4 [] [(.int .i64 b.1)] [(.slice pa1 pn1 pc1)] rfl rfl (fun _ => rfl)) _ (Chg.refl _ _))) ?_
  refine pl_val (.bool (a_.1 != b.1)) (y_neq rfl rfl) ?_
  refine c_nil ?_
  rcases bif_some hs with ⟨hc5, hs⟩ | ⟨hc5, hs⟩
  · skip
    refine c_condT (congrArg Value.bool hc5) ?_
    refine c_seq ?_
    refine c_region ?_
    refine pl_val (.bool false) (y_assign rfl) ?_
    refine c_nil ?_
    refine wp_ret ?_
    cases hs
    exact ⟨_, fr_ovl 16 ⟨rfl, trivial⟩, hC⟩
  · skip
    refine c_condF (congrArg Value.bool hc5) ?_
    refine wp_skip ?_
    refine c_seq ?_
    refine c_seq ?_
    refine c_region ?_
    refine pl_val (.pointer (some ⟨g3, 1, none⟩)) (y_faddr rfl Fa24x1) ?_
    refine pl_val (.slice pa0 pn0 pc0) (y_load rfl ((box_load Ag22 Sz22 hb3 [(.int .i64 a_.1)] [(.slice pa0 pn0 pc0)] [] rfl rfl (fun _ => rfl)) _ (Chg.refl _ _))) ?_
    refine pl_val (.pointer (some ⟨g4, 1, none⟩)) (y_faddr rfl Fa24x1) ?_
    refine pl_val (.slice pa1 pn1 pc1) (y_load rfl ((box_load Ag22 Sz22 hb4 [(.int .i64 b.1)] [(.slice pa1 pn1 pc1)] [] rfl rfl (fun _ => rfl)) _ (Chg.refl _ _))) ?_
    obtain ⟨r7, hr7, hs⟩ := bind_some hs
    refine pl_call Bd26 rfl (c_laws_eqIntS (M := M) a_.2 b.2 h0 h1 hO.fut hr7) ?_
    rintro _ w6 ⟨rfl, hC6⟩
    have h0 := h0.ext hC6
    have h1 := h1.ext hC6
    have hb3 := hb3.chg hC6 (fun h => nomatch h)
    have hb4 := hb4.chg hC6 (fun h => nomatch h)
    have hC := hC.ext hC6
    have hO := hO.ext hC6
    refine pl_val (.bool (!r7)) (y_not rfl) ?_
    refine c_nil ?_
    rcases bif_some hs with ⟨hc8, hs⟩ | ⟨hc8, hs⟩
    · skip
      refine c_condT (congrArg Value.bool hc8) ?_
      refine c_seq ?_
      refine c_region ?_
      refine pl_val (.bool false) (y_assign rfl) ?_
      refine c_nil ?_
      refine wp_ret ?_
      cases hs
      exact ⟨_, fr_ovl 16 ⟨rfl, trivial⟩, hC⟩
    · skip
      refine c_condF (congrArg Value.bool hc8) ?_
      refine wp_skip ?_
      refine c_seq ?_
      refine c_region ?_
      refine pl_val (.bool true) (y_assign rfl) ?_
      refine c_nil ?_
      refine wp_ret ?_
      cases hs
      exact ⟨_, fr_ovl 16 ⟨rfl, trivial⟩, hC⟩

theorem Ag30 : AggT Try.prog 30 true := fun _ => by kernel_rfl

theorem Sz30 : SzT Try.prog 30 2 := ⟨_, rfl, rfl⟩

theorem Bd17 : Bodied Try.prog 17 := bodied Try.func17 (by kernel_rfl) rfl

theorem Bd19 : Bodied Try.prog 19 := bodied Try.func19 (by kernel_rfl) rfl

theorem Bd18 : Bodied Try.prog 18 := bodied Try.func18 (by kernel_rfl) rfl

theorem Bd20 : Bodied Try.prog 20 := bodied Try.func20 (by kernel_rfl) rfl

theorem Bd12 : Bodied Try.prog 12 := bodied Try.func12 (by kernel_rfl) rfl

def k_laws_FnExactIsDiscriminatorOp (M : Nat → Prop) (w0 : World) (r : Bool) (a : Act) (w : World) : Prop :=
  ∃ (σ : Nat → Value) , a = fr 44 (ovl σ [(4, (.bool r))]) ∧ Chg [] w0 w
def s_laws_FnExactIsDiscriminatorOp (aN : Int) (aOp : Int × (List Int)) : Option (Bool) :=
  (s_laws_szOp (aOp.1, aOp.2) 1048576).bind fun r4 =>
  (bif (decide (r4 < 0)) then some true else (s_laws_toOp (aOp.1, aOp.2)).bind fun r7 =>
  (s_spec_IsDiscriminatorOp aN (r7.1, r7.2)).bind fun r10 =>
  (s_laws_toOp (aOp.1, aOp.2)).bind fun r12 =>
  (s_impl_IsDiscriminatorOp aN (r12.1, r12.2)).bind fun r17 =>
  (bif ((!(r17.1 == r10.1)) || (!(r17.2 == r10.2))) then some false else (s_laws_toOp (aOp.1, aOp.2)).bind fun r25 =>
  (s_laws_eqOp (r12.1, r12.2) (r25.1, r25.2)).bind fun r28 =>
  (bif (!r28) then some false else some true)))
set_option maxHeartbeats 4000000 in
theorem c_laws_FnExactIsDiscriminatorOp {M : Nat → Prop} {w : World} {pa0 : Option Addr} {pn0 pc0 : Nat} (aN : Int) (aOp : Int × (List Int)) (h0 : (RT.rs (RT.int .i64)).val M w (.slice pa0 pn0 pc0) aOp.2 ([])) (hM : ∀ g, w.heap.size ≤ g → M g) {r : Bool} (hs : s_laws_FnExactIsDiscriminatorOp aN aOp = some r) :
    Gives Try.prog 5 [(.int .i64 aN), (.agg #[(.int .i64 aOp.1), (.slice pa0 pn0 pc0)])] w (fun v w' => v = (.bool r) ∧ Chg [] w w') := by
  refine calls_fr Try.func5 rfl Try.ntmps5 (Nat.le_of_ble_eq_true rfl) ?_
  have hO := Own.start (N := Nw w []) hM Nw.fut
  have hC := Chg.refl [] w
  unfold s_laws_FnExactIsDiscriminatorOp at hs
  refine wp_mono (Q := KPost (k_laws_FnExactIsDiscriminatorOp M w r)) ?_ (fun e a w1 h => ?_)
  rotate_left
  · cases e
    case ret =>
      obtain ⟨σ, rfl, hrest⟩ := h
      exact ret1x Try.results5 (res_tmp rfl) ⟨rfl, hrest⟩
    all_goals exact (h : False).elim
  refine c_seq ?_
  refine c_region ?_
  obtain ⟨w2, g2, ew2, eg2, hC2, hb2⟩ := new_block w [(.int .i64 aOp.1), (.slice pa0 pn0 pc0)] 30
  refine pl_val (w' := w2) (.pointer (some ⟨g2, 0, none⟩)) (y_box rfl (by rw [ew2, eg2]; kernel_rfl)) ?_
  have h0 := h0.ext hC2
  have hC := hC.ext hC2
  have hO := hO.new (X' := [g2]) hC2 (fun q hq => by rw [List.mem_singleton.1 hq, eg2]; exact Nat.le_refl _) (List.nodup_cons.2 ⟨(fun h => nomatch h), List.nodup_nil⟩) (fun q hq => by rw [List.mem_singleton.1 hq]; exact hb2.lt)
  refine pl_val (.bool false) (y_assign rfl) ?_
  refine c_nil ?_
  refine c_seq ?_
  refine c_region ?_
  refine pl_val (.int .i64 1048576) (y_assign rfl) ?_
  refine c_nil ?_
  refine c_seq ?_
  refine c_region ?_
  refine pl_val (.agg #[(.int .i64 aOp.1), (.slice pa0 pn0 pc0)]) (y_load rfl ((box_load Ag30 Sz30 hb2 [] [(.int .i64 aOp.1), (.slice pa0 pn0 pc0)] [] rfl rfl (fun h => nomatch h)) _ (Chg.refl _ _))) ?_
  refine pl_val (.int .i64 1048576) (y_move rfl) ?_
  obtain ⟨r4, hr4, hs⟩ := bind_some hs
  refine pl_call Bd17 rfl (c_laws_szOp (M := M) (aOp.1, aOp.2) 1048576 h0 hO.fut hr4) ?_
  rintro _ w3 ⟨rfl, hC3⟩
  have h0 := h0.ext hC3
  have hb2 := hb2.chg hC3 (fun h => nomatch h)
  have hC := hC.ext hC3
  have hO := hO.ext hC3
  refine pl_val (.int .i64 r4) (y_assign rfl) ?_
  refine c_nil ?_
  refine c_seq ?_
  refine c_seq ?_
  refine c_region ?_
  refine pl_val (.int .i64 r4) (y_move rfl) ?_
  refine pl_val (.bool (decide (r4 < 0))) (y_lss rfl rfl) ?_
  refine c_nil ?_
  rcases bif_some hs with ⟨hc5, hs⟩ | ⟨hc5, hs⟩
  · skip
    refine c_condT (congrArg Value.bool hc5) ?_
    refine c_seq ?_
    refine c_region ?_
    refine pl_val (.bool true) (y_assign rfl) ?_
    refine c_nil ?_
    refine wp_ret ?_
    cases hs
    exact ⟨_, fr_ovl 44 ⟨rfl, trivial⟩, hC⟩
  · skip
    refine c_condF (congrArg Value.bool hc5) ?_
    refine wp_skip ?_
    refine c_seq ?_
    refine c_region ?_
    refine pl_val (.int .i64 aN) (y_move rfl) ?_
    refine pl_val (.agg #[(.int .i64 aOp.1), (.slice pa0 pn0 pc0)]) (y_load rfl ((box_load Ag30 Sz30 hb2 [] [(.int .i64 aOp.1), (.slice pa0 pn0 pc0)] [] rfl rfl (fun h => nomatch h)) _ (Chg.refl _ _))) ?_
    obtain ⟨r7, hr7, hs⟩ := bind_some hs
    refine pl_call Bd19 rfl (c_laws_toOp (M := M) (aOp.1, aOp.2) h0 hO.fut hr7) ?_
    rintro _ w6 ⟨a6x0, n6x0, c6x0, f6x0, rfl, hC6, hv6x0, hfr6x0⟩
    have h0 := h0.ext hC6
    have hb2 := hb2.chg hC6 (fun h => nomatch h)
    have hC := hC.ext hC6
    have hO := hO.new hC6 hfr6x0 (os_nodup hv6x0) hv6x0.fpl
    obtain ⟨r10, hr10, hs⟩ := bind_some hs
    refine pl_call Bd18 rfl (c_spec_IsDiscriminatorOp (M := (Less M f6x0)) aN (r7.1, r7.2) (((Frz.os Frz.int)).val hv6x0 Less.sub Less.not) hO.less.fut hr10) ?_
    rintro _ w9 ⟨rfl, hC9⟩
    have h0 := h0.ext hC9
    have hb2 := hb2.chg hC9 (fun h => nomatch h)
    have hv6x0 := hv6x0.ext hC9
    have hC := hC.ext hC9
    have hO := hO.ext hC9
    refine pl_val (.tuple #[(.bool r10.1), (.bool r10.2)]) (y_move rfl) ?_
    refine pl_val (.bool r10.1) (y_extract rfl (by kernel_rfl)) ?_
    refine pl_val (.bool r10.2) (y_extract rfl (by kernel_rfl)) ?_
    refine pl_val (.bool r10.1) (y_assign rfl) ?_
    refine pl_val (.bool r10.2) (y_assign rfl) ?_
    refine c_nil ?_
    refine c_seq ?_
    refine c_region ?_
    refine pl_val (.agg #[(.int .i64 aOp.1), (.slice pa0 pn0 pc0)]) (y_load rfl ((box_load Ag30 Sz30 hb2 [] [(.int .i64 aOp.1), (.slice pa0 pn0 pc0)] [] rfl rfl (fun h => nomatch h)) _ (Chg.refl _ _))) ?_
    obtain ⟨r12, hr12, hs⟩ := bind_some hs
    refine pl_call Bd19 rfl (c_laws_toOp (M := M) (aOp.1, aOp.2) h0 hO.fut hr12) ?_
    rintro _ w11 ⟨a11x0, n11x0, c11x0, f11x0, rfl, hC11, hv11x0, hfr11x0⟩
    have h0 := h0.ext hC11
    have hb2 := hb2.chg hC11 (fun h => nomatch h)
    have hv6x0 := hv6x0.ext hC11
    have hC := hC.ext hC11
    have hO := hO.new hC11 hfr11x0 (os_nodup hv11x0) hv11x0.fpl
    obtain ⟨w14, g14, ew14, eg14, hC14, hb14⟩ := new_block w11 [(.int .i64 0), (.slice none 0 0)] 24
    refine pl_val (w' := w14) (.pointer (some ⟨g14, 0, none⟩)) (y_alloc (by rw [ew14, eg14]; kernel_rfl)) ?_
    have h0 := h0.ext hC14
    have hb2 := hb2.chg hC14 (fun h => nomatch h)
    have hv6x0 := hv6x0.ext hC14
    have hv11x0 := hv11x0.ext hC14
    have hC := hC.ext hC14
    have hO := hO.new (X' := [g14]) hC14 (fun q hq => by rw [List.mem_singleton.1 hq, eg14]; exact Nat.le_refl _) (List.nodup_cons.2 ⟨(fun h => nomatch h), List.nodup_nil⟩) (fun q hq => by rw [List.mem_singleton.1 hq]; exact hb14.lt)
    obtain ⟨w15, hst15, hC15, hb15⟩ := box_store (P := Try.prog) hb14 [] [(.int .i64 0), (.slice none 0 0)] [] [(.int .i64 r12.1), (.slice a11x0 n11x0 c11x0)] rfl rfl (by intro u hu; simp only [List.mem_cons, List.not_mem_nil, or_false] at hu; rcases hu with rfl | rfl <;> rfl)
    refine pl_skip (w' := w15) (ys_store rfl rfl (hst15 _ _ rfl Sz24)) ?_
    have h0 := h0.mut hC15 (fun g hg => hO.inM g ((fun _ h => h) g hg)) (fun _ _ h => nomatch h)
    have hb2 := hb2.chg hC15 (fun hg => hO.apart _ ((fun _ h => h) _ hg) (mem_r (mem_r (mem_l (List.mem_singleton.2 rfl)))))
    have hv6x0 := hv6x0.mut hC15 (fun g hg => hO.inM g ((fun _ h => h) g hg)) (fun g hg e => hO.apart g ((fun _ h => h) g hg) (mem_r (mem_l (e))))
    have hv11x0 := hv11x0.mut hC15 (fun g hg => hO.inM g ((fun _ h => h) g hg)) (fun g hg e => hO.apart g ((fun _ h => h) g hg) (mem_l (e)))
    have hC := hC.step hC15 (fun g hg => hO.inN g ((fun _ h => h) g hg))
    have hO := hO.ext hC15
    have hb15 : BoxV w15 g14 24 [(.int .i64 r12.1), (.slice a11x0 n11x0 c11x0)] := hb15
    refine c_nil ?_
    refine c_seq ?_
    refine c_region ?_
    refine pl_val (.int .i64 aN) (y_move rfl) ?_
    refine pl_val (.agg #[(.int .i64 r12.1), (.slice a11x0 n11x0 c11x0)]) (y_load rfl ((box_load Ag24 Sz24 hb15 [] [(.int .i64 r12.1), (.slice a11x0 n11x0 c11x0)] [] rfl rfl (fun h => nomatch h)) _ (Chg.refl _ _))) ?_
    have hO := hO.fr1
    obtain ⟨r17, hr17, hs⟩ := bind_some hs
    refine pl_call Bd20 rfl (c_impl_IsDiscriminatorOp (M := (Less M f11x0)) aN (r12.1, r12.2) (((Frz.os Frz.int)).val hv11x0 Less.sub Less.not) hO.less.fut hr17) ?_
    rintro _ w16 ⟨rfl, hC16⟩
    have h0 := h0.ext hC16
    have hb2 := hb2.chg hC16 (fun h => nomatch h)
    have hv6x0 := hv6x0.ext hC16
    have hv11x0 := hv11x0.ext hC16
    have hb15 := hb15.chg hC16 (fun h => nomatch h)
    have hC := hC.ext hC16
    have hO := hO.ext hC16
    refine pl_val (.tuple #[(.bool r17.1), (.bool r17.2)]) (y_move rfl) ?_
    refine pl_val (.bool r17.1) (y_extract rfl (by kernel_rfl)) ?_
    refine pl_val (.bool r17.2) (y_extract rfl (by kernel_rfl)) ?_
    refine pl_val (.bool r17.1) (y_assign rfl) ?_
    refine pl_val (.bool r17.2) (y_assign rfl) ?_
    refine c_nil ?_
    refine c_seq ?_
    refine c_seq ?_
    refine c_mid (I := fun a w19 => ∃ (σ : Nat → Value), a = fr 44 (ovl σ [(3, (.pointer (some ⟨g2, 0, none⟩))), (4, (.bool false)), (8, (.pointer (some ⟨g14, 0, none⟩))), (38, (.bool ((!(r17.1 == r10.1)) || (!(r17.2 == r10.2)))))]) ∧ Chg [] w16 w19) ?_ ?_
    · have hMid := Chg.refl [] w16
      refine c_region ?_
      refine pl_val (.bool r17.1) (y_move rfl) ?_
      refine pl_val (.bool r10.1) (y_move rfl) ?_
      refine pl_val (.bool (!(r17.1 == r10.1))) (y_bneq Try.underlying4 rfl rfl) ?_
      refine pl_val (.bool (!(r17.1 == r10.1))) (y_move rfl) ?_
      rcases Bool.eq_false_or_eq_true ((!(r17.1 == r10.1))) with hc21 | hc21
      · skip
        refine pl_not (tg := 34) (by kernel_rfl) (congrArg Value.bool hc21) ?_
        refine pl_not (tg := 34) (by kernel_rfl) (congrArg Value.bool hc21) ?_
        refine pl_not (tg := 34) (by kernel_rfl) (congrArg Value.bool hc21) ?_
        refine pl_val (.bool ((!(r17.1 == r10.1)) || (!(r17.2 == r10.2)))) (y_pick_t (congrArg Value.bool hc21) (congrArg Value.bool (by rw [hc21]; rfl))) ?_
        refine c_nil ?_
        exact ⟨_, fr_ovl 44 ⟨rfl, rfl, rfl, rfl, trivial⟩, hMid⟩
      · skip
        refine pl_yes (.bool r17.2) (tg := 34) (by kernel_rfl) (congrArg Value.bool hc21) (y_move rfl) ?_
        refine pl_yes (.bool r10.2) (tg := 34) (by kernel_rfl) (congrArg Value.bool hc21) (y_move rfl) ?_
        refine pl_yes (.bool (!(r17.2 == r10.2))) (tg := 34) (by kernel_rfl) (congrArg Value.bool hc21) (y_bneq Try.underlying4 rfl rfl) ?_
        refine pl_val (.bool ((!(r17.1 == r10.1)) || (!(r17.2 == r10.2)))) (y_pick_f (congrArg Value.bool hc21) (congrArg Value.bool (by rw [hc21]; rfl))) ?_
        refine c_nil ?_
        exact ⟨_, fr_ovl 44 ⟨rfl, rfl, rfl, rfl, trivial⟩, hMid⟩
    · rintro a1 w19 ⟨σ, rfl, hCs18⟩
      have h0 := h0.ext hCs18
      have hb2 := hb2.chg hCs18 (fun h => nomatch h)
      have hv6x0 := hv6x0.ext hCs18
      have hv11x0 := hv11x0.ext hCs18
      have hb15 := hb15.chg hCs18 (fun h => nomatch h)
      have hC := hC.ext hCs18
      have hO := hO.ext hCs18
      rcases bif_some hs with ⟨hc22, hs⟩ | ⟨hc22, hs⟩
      · skip
        refine c_condT (congrArg Value.bool hc22) ?_
        refine c_seq ?_
        refine c_region ?_
        refine pl_val (.bool false) (y_assign rfl) ?_
        refine c_nil ?_
        refine wp_ret ?_
        cases hs
        exact ⟨_, fr_ovl 44 ⟨rfl, trivial⟩, hC⟩
      · skip
        refine c_condF (congrArg Value.bool hc22) ?_
        refine wp_skip ?_
        refine c_seq ?_
        refine c_seq ?_
        refine x_start [] Mx rfl ?_
        have hCw23 := Chg.drew w19
        generalize World.drew w19 = w23 at hCw23 ⊢
        have h0 := h0.ext hCw23
        have hb2 := hb2.chg hCw23 (fun h => nomatch h)
        have hv6x0 := hv6x0.ext hCw23
        have hv11x0 := hv11x0.ext hCw23
        have hb15 := hb15.chg hCw23 (fun h => nomatch h)
        have hC := hC.ext hCw23
        have hO := hO.ext hCw23
        have hS := Chg.refl [] w23
        refine x_l 0 (.agg #[(.int .i64 r12.1), (.slice a11x0 n11x0 c11x0)]) rfl (by kernel_rfl)  (fun w' hw' => y_load rfl ((box_load Ag24 Sz24 hb15 [] [(.int .i64 r12.1), (.slice a11x0 n11x0 c11x0)] [] rfl rfl (fun h => nomatch h)) w' hw')) hS ?_
        refine x_l 1 (.agg #[(.int .i64 aOp.1), (.slice pa0 pn0 pc0)]) rfl (by kernel_rfl)  (fun w' hw' => y_load rfl ((box_load Ag30 Sz30 hb2 [] [(.int .i64 aOp.1), (.slice pa0 pn0 pc0)] [] rfl rfl (fun h => nomatch h)) w' hw')) hS ?_
        refine x_one (i := 2) (by kernel_rfl) ?_
        obtain ⟨r25, hr25, hs⟩ := bind_some hs
        refine xk_call (b := false) rfl  Bd19 rfl (c_laws_toOp (M := M) (aOp.1, aOp.2) h0 hO.fut hr25) rfl (by rintro _ _ _ ⟨a24x0, n24x0, c24x0, f24x0, rfl, hC24, hv24x0, hfr24x0⟩; exact hS.ext hC24) ?_
        rintro _ w24 ⟨a24x0, n24x0, c24x0, f24x0, rfl, hC24, hv24x0, hfr24x0⟩
        have h0 := h0.ext hC24
        have hb2 := hb2.chg hC24 (fun h => nomatch h)
        have hv6x0 := hv6x0.ext hC24
        have hv11x0 := hv11x0.ext hC24
        have hb15 := hb15.chg hC24 (fun h => nomatch h)
        have hC := hC.ext hC24
        have hO := hO.new hC24 hfr24x0 (os_nodup hv24x0) hv24x0.fpl
        have hS := hS.ext hC24
        refine x_one (i := 3) (by kernel_rfl) ?_
        have hO := hO.fr1
        obtain ⟨r28, hr28, hs⟩ := bind_some hs
        refine xk_call (b := false) rfl  Bd12 rfl (c_laws_eqOp (M := (Less (Less M f11x0) f24x0)) (r12.1, r12.2) (r25.1, r25.2) ((((Frz.os Frz.int)).val hv11x0 Less.sub Less.not).sub Less.sub) (((Frz.os Frz.int)).val (hv24x0.sub Less.sub) Less.sub Less.not) (hO.less).less.fut hr28) rfl (by rintro _ _ _ ⟨rfl, hC27⟩; exact hS.ext hC27) ?_
        rintro _ w27 ⟨rfl, hC27⟩
        have h0 := h0.ext hC27
        have hb2 := hb2.chg hC27 (fun h => nomatch h)
        have hv6x0 := hv6x0.ext hC27
        have hv11x0 := hv11x0.ext hC27
        have hb15 := hb15.chg hC27 (fun h => nomatch h)
        have hv24x0 := hv24x0.ext hC27
        have hC := hC.ext hC27
        have hO := hO.ext hC27
        have hS := hS.ext hC27
        refine x_p 4 (.bool (!r28)) rfl (by kernel_rfl)  (fun _ => y_not rfl) (fun _ => hS) ?_
        refine x_end (by kernel_rfl) ?_
        clear hS
        rcases bif_some hs with ⟨hc29, hs⟩ | ⟨hc29, hs⟩
        · skip
          refine c_condT (congrArg Value.bool hc29) ?_
          refine c_seq ?_
          refine c_region ?_
          refine pl_val (.bool false) (y_assign rfl) ?_
          refine c_nil ?_
          refine wp_ret ?_
          cases hs
          exact ⟨_, fr_ovl 44 ⟨rfl, trivial⟩, hC⟩
        · skip
          refine c_condF (congrArg Value.bool hc29) ?_
          refine wp_skip ?_
          refine c_seq ?_
          refine c_region ?_
          refine pl_val (.bool true) (y_assign rfl) ?_
          refine c_nil ?_
          refine wp_ret ?_
          cases hs
          exact ⟨_, fr_ovl 44 ⟨rfl, trivial⟩, hC⟩

end Go.Proofs
