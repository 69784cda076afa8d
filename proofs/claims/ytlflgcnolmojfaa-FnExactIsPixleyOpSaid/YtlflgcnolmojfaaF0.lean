/- What functions of the program compute, as plain functions, and that a call gives just that. Conditions: those named in each theorem. -/
import Derived.Test.YtlflgcnolmojfaaGSh
import Derived.Test.YtlflgcnolmojfaaRows
set_option linter.unusedVariables false
namespace Go.Proofs
open Go.G Go.RowKit
set_option maxRecDepth 100000

theorem Sl22 : SlT Try.prog 22 3 := Try.underlying22

def k_laws_szIntS (M : Nat → Prop) (w0 : World) (r : Int) (a : Act) (w : World) : Prop :=
  ∃ (σ : Nat → Value) , a = fr 12 (ovl σ [(4, (.int .i64 r))]) ∧ Chg [] w0 w
def s_laws_szIntS (a_ : List Int) (left : Int) : Option (Int) :=
  (bif (decide ((w64 (left - (a_.length : Int))) < 0)) then some (-1) else some (w64 (left - (a_.length : Int))))
set_option maxHeartbeats 4000000 in
theorem c_laws_szIntS {M : Nat → Prop} {w : World} {pa0 : Option Addr} {pn0 pc0 : Nat} (a_ : List Int) (left : Int) (h0 : (RT.rs (RT.int .i64)).val M w (.slice pa0 pn0 pc0) a_ ([])) (hM : ∀ g, w.heap.size ≤ g → M g) {r : Int} (hs : s_laws_szIntS a_ left = some r) :
    Gives Try.prog 39 [(.slice pa0 pn0 pc0), (.int .i64 left)] w (fun v w' => v = (.int .i64 r) ∧ Chg [] w w') := by
  refine calls_fr Try.func39 rfl Try.ntmps39 (Nat.le_of_ble_eq_true rfl) ?_
  have hO := Own.start (N := Nw w []) hM Nw.fut
  have hC := Chg.refl [] w
  unfold s_laws_szIntS at hs
  refine wp_mono (Q := KPost (k_laws_szIntS M w r)) ?_ (fun e a w1 h => ?_)
  rotate_left
  · cases e
    case ret =>
      obtain ⟨σ, rfl, hrest⟩ := h
      exact ret1x Try.results39 (res_tmp rfl) ⟨rfl, hrest⟩
    all_goals exact (h : False).elim
  refine c_seq ?_
  refine c_region ?_
  refine pl_val (.int .i64 0) (y_assign rfl) ?_
  refine c_nil ?_
  refine c_seq ?_
  refine c_region ?_
  refine pl_val (.int .i64 left) (y_move rfl) ?_
  refine pl_val (.slice pa0 pn0 pc0) (y_move rfl) ?_
  refine pl_val (.int .i64 (a_.length : Int)) (y_len' Sl22 (rs_len h0) rfl) ?_
  refine pl_val (.int .i64 (w64 (left - (a_.length : Int)))) (y_sub rfl rfl) ?_
  refine pl_val (.int .i64 (w64 (left - (a_.length : Int)))) (y_assign rfl) ?_
  refine c_nil ?_
  refine c_seq ?_
  refine c_seq ?_
  refine c_region ?_
  refine pl_val (.int .i64 (w64 (left - (a_.length : Int)))) (y_move rfl) ?_
  refine pl_val (.bool (decide ((w64 (left - (a_.length : Int))) < 0))) (y_lss rfl rfl) ?_
  refine c_nil ?_
  rcases bif_some hs with ⟨hc2, hs⟩ | ⟨hc2, hs⟩
  · skip
    refine c_condT (congrArg Value.bool hc2) ?_
    refine c_seq ?_
    refine c_region ?_
    refine pl_val (.int .i64 (-1)) (y_assign rfl) ?_
    refine c_nil ?_
    refine wp_ret ?_
    cases hs
    exact ⟨_, fr_ovl 12 ⟨rfl, trivial⟩, hC⟩
  · skip
    refine c_condF (congrArg Value.bool hc2) ?_
    refine wp_skip ?_
    refine c_seq ?_
    refine c_region ?_
    refine pl_val (.int .i64 (w64 (left - (a_.length : Int)))) (y_move rfl) ?_
    refine pl_val (.int .i64 (w64 (left - (a_.length : Int)))) (y_assign rfl) ?_
    refine c_nil ?_
    refine wp_ret ?_
    cases hs
    exact ⟨_, fr_ovl 12 ⟨rfl, trivial⟩, hC⟩

theorem Fa30x1 : ∀ (a : Addr) (w : World), (Instr.fieldAt 30 (.pointer (some a)) 1).run Try.prog w = .ok (.pointer (some (a.add 1))) w := fun _ _ => by kernel_rfl

theorem Ag22 : AggT Try.prog 22 false := fun _ => by kernel_rfl

theorem Sz22 : SzT Try.prog 22 1 := ⟨_, rfl, rfl⟩

theorem Bd39 : Bodied Try.prog 39 := bodied Try.func39 (by kernel_rfl) rfl

def k_laws_szOp (M : Nat → Prop) (w0 : World) (r : Int) (a : Act) (w : World) : Prop :=
  ∃ (σ : Nat → Value) , a = fr 12 (ovl σ [(4, (.int .i64 r))]) ∧ Chg [] w0 w
def s_laws_szOp (a_ : Int × (List Int)) (left : Int) : Option (Int) :=
  (s_laws_szIntS a_.2 left).bind fun r4 =>
  (bif (decide (r4 < 0)) then some (-1) else some r4)
set_option maxHeartbeats 4000000 in
theorem c_laws_szOp {M : Nat → Prop} {w : World} {pa0 : Option Addr} {pn0 pc0 : Nat} (a_ : Int × (List Int)) (left : Int) (h0 : (RT.rs (RT.int .i64)).val M w (.slice pa0 pn0 pc0) a_.2 ([])) (hM : ∀ g, w.heap.size ≤ g → M g) {r : Int} (hs : s_laws_szOp a_ left = some r) :
    Gives Try.prog 17 [(.agg #[(.int .i64 a_.1), (.slice pa0 pn0 pc0)]), (.int .i64 left)] w (fun v w' => v = (.int .i64 r) ∧ Chg [] w w') := by
  refine calls_fr Try.func17 rfl Try.ntmps17 (Nat.le_of_ble_eq_true rfl) ?_
  have hO := Own.start (N := Nw w []) hM Nw.fut
  have hC := Chg.refl [] w
  unfold s_laws_szOp at hs
  refine wp_mono (Q := KPost (k_laws_szOp M w r)) ?_ (fun e a w1 h => ?_)
  rotate_left
  · cases e
    case ret =>
      obtain ⟨σ, rfl, hrest⟩ := h
      exact ret1x Try.results17 (res_tmp rfl) ⟨rfl, hrest⟩
    all_goals exact (h : False).elim
  refine c_seq ?_
  refine c_region ?_
  obtain ⟨w2, g2, ew2, eg2, hC2, hb2⟩ := new_block w [(.int .i64 a_.1), (.slice pa0 pn0 pc0)] 30
  refine pl_val (w' := w2) (.pointer (some ⟨g2, 0, none⟩)) (y_box rfl (by rw [ew2, eg2]; kernel_rfl)) ?_
  have h0 := h0.ext hC2
  have hC := hC.ext hC2
  have hO := hO.new (X' := [g2]) hC2 (fun q hq => by rw [List.mem_singleton.1 hq, eg2]; exact Nat.le_refl _) (List.nodup_cons.2 ⟨(fun h => nomatch h), List.nodup_nil⟩) (fun q hq => by rw [List.mem_singleton.1 hq]; exact hb2.lt)
  refine pl_val (.int .i64 0) (y_assign rfl) ?_
  refine c_nil ?_
  refine c_seq ?_
  refine c_region ?_
  refine pl_val (.pointer (some ⟨g2, 1, none⟩)) (y_faddr rfl Fa30x1) ?_
  refine pl_val (.slice pa0 pn0 pc0) (y_load rfl ((box_load Ag22 Sz22 hb2 [(.int .i64 a_.1)] [(.slice pa0 pn0 pc0)] [] rfl rfl (fun _ => rfl)) _ (Chg.refl _ _))) ?_
  refine pl_val (.int .i64 left) (y_move rfl) ?_
  obtain ⟨r4, hr4, hs⟩ := bind_some hs
  refine pl_call Bd39 rfl (c_laws_szIntS (M := M) a_.2 left h0 hO.fut hr4) ?_
  rintro _ w3 ⟨rfl, hC3⟩
  have h0 := h0.ext hC3
  have hb2 := hb2.chg hC3 (fun h => nomatch h)
  have hC := hC.ext hC3
  have hO := hO.ext hC3
  refine pl_val (.int .i64 r4) (y_assign rfl) ?_
  refine c_nil ?_
  refine c_seq ?_
  refine c_seq ?_
  refine c_region ?_
  refine pl_val (.int .i64 r4) (y_move rfl) ?_
  refine pl_val (.bool (decide (r4 < 0))) (y_lss rfl rfl) ?_
  refine c_nil ?_
  rcases bif_some hs with ⟨hc5, hs⟩ | ⟨hc5, hs⟩
  · skip
    refine c_condT (congrArg Value.bool hc5) ?_
    refine c_seq ?_
    refine c_region ?_
    refine pl_val (.int .i64 (-1)) (y_assign rfl) ?_
    refine c_nil ?_
    refine wp_ret ?_
    cases hs
    exact ⟨_, fr_ovl 12 ⟨rfl, trivial⟩, hC⟩
  · skip
    refine c_condF (congrArg Value.bool hc5) ?_
    refine wp_skip ?_
    refine c_seq ?_
    refine c_region ?_
    refine pl_val (.int .i64 r4) (y_move rfl) ?_
    refine pl_val (.int .i64 r4) (y_assign rfl) ?_
    refine c_nil ?_
    refine wp_ret ?_
    cases hs
    exact ⟨_, fr_ovl 12 ⟨rfl, trivial⟩, hC⟩

theorem Rw22 : RowT Try.prog 22 3 1 [(.int .i64 0)] := ⟨Try.underlying22, ⟨_, _, rfl, rfl, rfl, rfl, by decide⟩, rfl, by decide⟩

theorem Sz3 : SzT Try.prog 3 1 := ⟨_, rfl, rfl⟩

theorem Ag3 : AggT Try.prog 3 false := fun _ => by kernel_rfl

def k_laws_toIntS (M : Nat → Prop) (w0 : World) (r : (List Int)) (a : Act) (w : World) : Prop :=
  ∃ (σ : Nat → Value) (ra0 : Option Addr) (rn0 rc0 : Nat) (rf0 : List Nat), a = fr 22 (ovl σ [(2, (.slice ra0 rn0 rc0))]) ∧ Chg [] w0 w ∧ (RT.os 3 (RT.int .i64)).val M w (.slice ra0 rn0 rc0) r rf0 ∧ Own (Nw w0 []) (fun _ => True) w (rf0 ++ ([]))
def s_laws_toIntS (a_ : List Int) : Option ((List Int)) :=
  (mks (a_.length : Int) (0 : Int)).bind fun y3 =>
  (forC (S := (List Int)) (R := (List Int)) (fun k18 s16 =>
  (idx a_ k18).bind fun x24 =>
  (idx s16 k18).bind fun x26 =>
  some (.nx (List.set s16 (Int.toNat k18) x24))) 0 (a_.length : Int) y3).bind fun o20 => after o20 (fun r_ => some r_) (fun s16 =>
  some s16)
set_option maxHeartbeats 4000000 in
theorem c_laws_toIntS {M : Nat → Prop} {w : World} {pa0 : Option Addr} {pn0 pc0 : Nat} (a_ : List Int) (h0 : (RT.rs (RT.int .i64)).val M w (.slice pa0 pn0 pc0) a_ ([])) (hM : ∀ g, w.heap.size ≤ g → M g) {r : (List Int)} (hs : s_laws_toIntS a_ = some r) :
    Gives Try.prog 24 [(.slice pa0 pn0 pc0)] w (fun v w' => ∃ (ra0 : Option Addr) (rn0 rc0 : Nat) (rf0 : List Nat), v = (.slice ra0 rn0 rc0) ∧ Chg [] w w' ∧ (RT.os 3 (RT.int .i64)).val M w' (.slice ra0 rn0 rc0) r rf0 ∧ Own (Nw w []) (fun _ => True) w' (rf0 ++ ([]))) := by
  refine calls_fr Try.func24 rfl Try.ntmps24 (Nat.le_of_ble_eq_true rfl) ?_
  have hO := Own.start (N := Nw w []) hM Nw.fut
  have hC := Chg.refl [] w
  unfold s_laws_toIntS at hs
  refine wp_mono (Q := KPost (k_laws_toIntS M w r)) ?_ (fun e a w1 h => ?_)
  rotate_left
  · cases e
    case ret =>
      obtain ⟨σ, ra0, rn0, rc0, rf0, rfl, hrest⟩ := h
      exact ret1x Try.results24 (res_tmp rfl) ⟨ra0, rn0, rc0, rf0, rfl, hrest⟩
    all_goals exact (h : False).elim
  refine c_seq ?_
  refine c_region ?_
  refine pl_val (.slice none 0 0) (y_assign rfl) ?_
  refine c_nil ?_
  refine c_seq ?_
  refine c_region ?_
  refine pl_val (.slice pa0 pn0 pc0) (y_move rfl) ?_
  refine pl_val (.int .i64 (a_.length : Int)) (y_len' Sl22 (rs_len h0) rfl) ?_
  obtain ⟨y3, hy3, hs⟩ := bind_some hs
  obtain ⟨a2, n2, c2, w2, f2, hm2, hC2, hfr2, hv2⟩ := mk_os (M := M) (w := w) (r := (RT.int .i64)) Rw22 hy3 (fun _ _ => ⟨rfl, rfl⟩)
  refine pl_val (w' := w2) (.slice a2 n2 c2) (y_make rfl rfl hm2) ?_
  have h0 := h0.ext hC2
  have hC := hC.ext hC2
  have hO := hO.new hC2 hfr2 (os_nodup hv2) hv2.fpl
  refine pl_val (.slice a2 n2 c2) (y_assign rfl) ?_
  refine c_nil ?_
  refine c_seq ?_
  refine c_seq ?_
  refine c_region ?_
  refine pl_val (.int .i64 0) (y_assign rfl) ?_
  refine c_nil ?_
  obtain ⟨o20, hl21, hs⟩ := bind_some hs
  refine wp_block ?_
  refine wp_forC (id := 0) (a_.length : Int) (I := fun k18 s16 a w17 => ∃ (σ : Nat → Value) (f22 : List Nat), a = fr 22 (ovl σ [(0, (.slice pa0 pn0 pc0)), (3, (.slice a2 n2 c2)), (4, (.int .i64 k18))]) ∧ Chg [] w w17 ∧ Own (Nw w []) M w17 (f22 ++ []) ∧ (RT.rs (RT.int .i64)).val M w17 (.slice pa0 pn0 pc0) a_ ([]) ∧ (RT.os 3 (RT.int .i64)).val M w17 (.slice a2 n2 c2) s16 f22) (J := fun s16 a w17 => ∃ (σ : Nat → Value) (f23 : List Nat), a = fr 22 (ovl σ [(3, (.slice a2 n2 c2))]) ∧ Chg [] w w17 ∧ Own (Nw w []) M w17 (f23 ++ []) ∧ (RT.rs (RT.int .i64)).val M w17 (.slice pa0 pn0 pc0) a_ ([]) ∧ (RT.os 3 (RT.int .i64)).val M w17 (.slice a2 n2 c2) s16 f23) (K := (k_laws_toIntS M w)) ?_ ?_ 0 y3 o20 _ _ ?_ hl21 ?_
  · rintro k18 s16 a w17 ⟨σ, f22, rfl, hC, hO, h0, hv22⟩ hlt
    refine c_seq ?_
    refine c_seq ?_
    refine c_region ?_
    refine pl_val (.int .i64 k18) (y_move rfl) ?_
    refine pl_val (.slice pa0 pn0 pc0) (y_move rfl) ?_
    refine pl_val (.int .i64 (a_.length : Int)) (y_len' Sl22 (rs_len h0) rfl) ?_
    refine pl_val (.bool (decide (k18 < (a_.length : Int)))) (y_lss rfl rfl) ?_
    refine c_nil ?_
    refine c_condF (congrArg Value.bool (decide_eq_false hlt)) ?_
    refine wp_exit ?_
    exact ⟨rfl, _, f22, fr_ovl 22 ⟨rfl, trivial⟩, hC, hO, h0, hv22⟩
  · rintro k18 s16 o20 a w17 ⟨σ, f22, rfl, hC, hO, h0, hv22⟩ hlt hw hs
    refine c_seq ?_
    refine c_seq ?_
    refine c_region ?_
    refine pl_val (.int .i64 k18) (y_move rfl) ?_
    refine pl_val (.slice pa0 pn0 pc0) (y_move rfl) ?_
    refine pl_val (.int .i64 (a_.length : Int)) (y_len' Sl22 (rs_len h0) rfl) ?_
    refine pl_val (.bool (decide (k18 < (a_.length : Int)))) (y_lss rfl rfl) ?_
    refine c_nil ?_
    refine c_condT (congrArg Value.bool (decide_eq_true hlt)) ?_
    refine wp_skip ?_
    refine c_seq ?_
    refine wp_block ?_
    refine c_region ?_
    refine pl_val (.slice a2 n2 c2) (y_move rfl) ?_
    refine pl_val (.int .i64 k18) (y_move rfl) ?_
    refine pl_val (.slice pa0 pn0 pc0) (y_move rfl) ?_
    refine pl_val (.int .i64 k18) (y_move rfl) ?_
    obtain ⟨x24, hx24, hs⟩ := bind_some hs
    obtain ⟨b25, o25, hp25, ha25⟩ := rs_idx Sl22 Sz3 h0 hx24
    refine pl_val (.pointer (some ⟨b25, o25, none⟩)) (hp25 _ _ _ _ _ _ _ _ _ rfl rfl) ?_
    refine pl_val (.int .i64 x24) (y_load rfl ((at_load_int Ag3 Sz3 ha25) _ (Chg.refl _ _))) ?_
    obtain ⟨x26, hx26, hs⟩ := bind_some hs
    obtain ⟨g27, f27, hg27, hk27, hp27, ha27, hf27⟩ := os_idx Sl22 Sz3 hv22 hx26
    refine pl_val (.pointer (some ⟨g27, 0 + Int.toNat k18 * 1, none⟩)) (hp27 _ _ _ _ _ _ _ _ _ rfl rfl) ?_
    obtain ⟨w28, f28, hst28, hC28, hf28, hv28⟩ := os_store (P := Try.prog) (c' := [(.int .i64 x24)]) hg27 hv22 hk27 (fun g hg => hO.inM g (os_block hv22 g (by simpa using hg))) ⟨rfl, rfl⟩ List.nodup_nil (fun _ h => nomatch h) (fun _ h => .inl h)
    have hG28 : ∀ q ∈ [g27], q ∈ f22 := fun q hq => os_block hv22 q (by rw [hg27]; exact hq)
    refine pl_skip (w' := w28) (ys_store rfl rfl (hst28 _ _ rfl Sz3)) ?_
    have h0 := h0.mut hC28 (fun g hg => hO.inM g (hG28 g hg)) (fun _ _ h => nomatch h)
    have hC := hC.step hC28 (fun g hg => hO.inN g (hG28 g hg))
    have hO := hO.grow hC28 (fun q hq => .inl ((hf28 q hq).resolve_right (fun h => nomatch h))) (os_nodup hv28) hv28.fpl
    refine c_nil ?_
    refine c_region ?_
    refine pl_val (.int .i64 k18) (y_move rfl) ?_
    refine pl_val (.int .i64 (w64 (k18 + 1))) (y_add rfl rfl) ?_
    refine pl_val (.int .i64 (w64 (k18 + 1))) (y_assign rfl) ?_
    refine c_nil ?_
    cases hs
    exact ⟨_, f28, fr_ovl 22 ⟨rfl, rfl, congrArg (Value.int .i64) hw, trivial⟩, hC, hO, h0, hv28⟩
  · skip
    exact ⟨_, f2, fr_ovl 22 ⟨rfl, rfl, rfl, trivial⟩, hC, hO, h0, hv2⟩
  · cases o20 with
    | nx _ => exact True.intro
    | rt r_ =>
      have hs := after_rt hs
      intro a1 w1 hK
      cases hs
      exact hK
    | br s16 =>
      have hs := after_br hs
      rintro a1 w17 ⟨σ, f23, rfl, hC, hO, h0, hv23⟩
      refine c_seq ?_
      refine c_region ?_
      refine pl_val (.slice a2 n2 c2) (y_move rfl) ?_
      refine pl_val (.slice a2 n2 c2) (y_assign rfl) ?_
      refine c_nil ?_
      refine wp_ret ?_
      cases hs
      exact ⟨_, a2, n2, c2, f23, fr_ovl 22 ⟨rfl, trivial⟩, hC, hv23, hO.top⟩

theorem Ag24 : AggT Try.prog 24 true := fun _ => by kernel_rfl

theorem Sz24 : SzT Try.prog 24 2 := ⟨_, rfl, rfl⟩

theorem Fa30x0 : ∀ (a : Addr) (w : World), (Instr.fieldAt 30 (.pointer (some a)) 0).run Try.prog w = .ok (.pointer (some (a.add 0))) w := fun _ _ => by kernel_rfl

theorem Fa24x0 : ∀ (a : Addr) (w : World), (Instr.fieldAt 24 (.pointer (some a)) 0).run Try.prog w = .ok (.pointer (some (a.add 0))) w := fun _ _ => by kernel_rfl

theorem Bd24 : Bodied Try.prog 24 := bodied Try.func24 (by kernel_rfl) rfl

theorem Fa24x1 : ∀ (a : Addr) (w : World), (Instr.fieldAt 24 (.pointer (some a)) 1).run Try.prog w = .ok (.pointer (some (a.add 1))) w := fun _ _ => by kernel_rfl

def k_laws_toOp (M : Nat → Prop) (w0 : World) (r : (Int × (List Int))) (a : Act) (w : World) : Prop :=
  ∃ (σ : Nat → Value) (rg2 : Nat) (ra0 : Option Addr) (rn0 rc0 : Nat) (rf0 : List Nat), a = fr 12 (ovl σ [(2, (.pointer (some ⟨rg2, 0, none⟩)))]) ∧ BoxV w rg2 24 [(.int .i64 r.1), (.slice ra0 rn0 rc0)] ∧ Chg [] w0 w ∧ (RT.os 3 (RT.int .i64)).val M w (.slice ra0 rn0 rc0) r.2 rf0 ∧ Own (Nw w0 []) (fun _ => True) w (rf0 ++ ([]))
def s_laws_toOp (a_ : Int × (List Int)) : Option ((Int × (List Int))) :=
  (s_laws_toIntS a_.2).bind fun r7 =>
  some (a_.1, r7)
set_option maxHeartbeats 4000000 in
theorem c_laws_toOp {M : Nat → Prop} {w : World} {pa0 : Option Addr} {pn0 pc0 : Nat} (a_ : Int × (List Int)) (h0 : (RT.rs (RT.int .i64)).val M w (.slice pa0 pn0 pc0) a_.2 ([])) (hM : ∀ g, w.heap.size ≤ g → M g) {r : (Int × (List Int))} (hs : s_laws_toOp a_ = some r) :
    Gives Try.prog 19 [(.agg #[(.int .i64 a_.1), (.slice pa0 pn0 pc0)])] w (fun v w' => ∃ (ra0 : Option Addr) (rn0 rc0 : Nat) (rf0 : List Nat), v = (.agg #[(.int .i64 r.1), (.slice ra0 rn0 rc0)]) ∧ Chg [] w w' ∧ (RT.os 3 (RT.int .i64)).val M w' (.slice ra0 rn0 rc0) r.2 rf0 ∧ Own (Nw w []) (fun _ => True) w' (rf0 ++ ([]))) := by
  refine calls_fr Try.func19 rfl Try.ntmps19 (Nat.le_of_ble_eq_true rfl) ?_
  have hO := Own.start (N := Nw w []) hM Nw.fut
  have hC := Chg.refl [] w
  unfold s_laws_toOp at hs
  refine wp_mono (Q := KPost (k_laws_toOp M w r)) ?_ (fun e a w1 h => ?_)
  rotate_left
  · cases e
    case ret =>
      obtain ⟨σ, rg2, ra0, rn0, rc0, rf0, rfl, hbrg2, hrest⟩ := h
      exact ret1x Try.results19 (res_cell rfl (box_load Ag24 Sz24 hbrg2 [] _ [] rfl rfl (fun h => nomatch h))) ⟨ra0, rn0, rc0, rf0, rfl, hrest⟩
    all_goals exact (h : False).elim
  refine c_seq ?_
  refine c_region ?_
  obtain ⟨w2, g2, ew2, eg2, hC2, hb2⟩ := new_block w [(.int .i64 a_.1), (.slice pa0 pn0 pc0)] 30
  refine pl_val (w' := w2) (.pointer (some ⟨g2, 0, none⟩)) (y_box rfl (by rw [ew2, eg2]; kernel_rfl)) ?_
  have h0 := h0.ext hC2
  have hC := hC.ext hC2
  have hO := hO.new (X' := [g2]) hC2 (fun q hq => by rw [List.mem_singleton.1 hq, eg2]; exact Nat.le_refl _) (List.nodup_cons.2 ⟨(fun h => nomatch h), List.nodup_nil⟩) (fun q hq => by rw [List.mem_singleton.1 hq]; exact hb2.lt)
  obtain ⟨w3, g3, ew3, eg3, hC3, hb3⟩ := new_block w2 [(.int .i64 0), (.slice none 0 0)] 24
  refine pl_val (w' := w3) (.pointer (some ⟨g3, 0, none⟩)) (y_alloc (by rw [ew3, eg3]; kernel_rfl)) ?_
  have h0 := h0.ext hC3
  have hb2 := hb2.chg hC3 (fun h => nomatch h)
  have hC := hC.ext hC3
  have hO := hO.new (X' := [g3]) hC3 (fun q hq => by rw [List.mem_singleton.1 hq, eg3]; exact Nat.le_refl _) (List.nodup_cons.2 ⟨(fun h => nomatch h), List.nodup_nil⟩) (fun q hq => by rw [List.mem_singleton.1 hq]; exact hb3.lt)
  refine c_nil ?_
  refine c_seq ?_
  refine c_region ?_
  obtain ⟨w4, g4, ew4, eg4, hC4, hb4⟩ := new_block w3 [(.int .i64 0), (.slice none 0 0)] 24
  refine pl_val (w' := w4) (.pointer (some ⟨g4, 0, none⟩)) (y_alloc (by rw [ew4, eg4]; kernel_rfl)) ?_
  have h0 := h0.ext hC4
  have hb2 := hb2.chg hC4 (fun h => nomatch h)
  have hb3 := hb3.chg hC4 (fun h => nomatch h)
  have hC := hC.ext hC4
  have hO := hO.new (X' := [g4]) hC4 (fun q hq => by rw [List.mem_singleton.1 hq, eg4]; exact Nat.le_refl _) (List.nodup_cons.2 ⟨(fun h => nomatch h), List.nodup_nil⟩) (fun q hq => by rw [List.mem_singleton.1 hq]; exact hb4.lt)
  refine c_nil ?_
  refine c_seq ?_
  refine c_region ?_
  refine pl_val (.pointer (some ⟨g2, 0, none⟩)) (y_faddr rfl Fa30x0) ?_
  refine pl_val (.int .i64 a_.1) (y_load rfl ((box_load Ag3 Sz3 hb2 [] [(.int .i64 a_.1)] [(.slice pa0 pn0 pc0)] rfl rfl (fun _ => rfl)) _ (Chg.refl _ _))) ?_
  refine pl_val (.pointer (some ⟨g4, 0, none⟩)) (y_faddr rfl Fa24x0) ?_
  obtain ⟨w5, hst5, hC5, hb5⟩ := box_store (P := Try.prog) hb4 [] [(.int .i64 0)] [(.slice none 0 0)] [(.int .i64 a_.1)] rfl rfl (by intro u hu; simp only [List.mem_cons, List.not_mem_nil, or_false] at hu; rcases hu with rfl <;> rfl)
  refine pl_skip (w' := w5) (ys_store rfl rfl (hst5 _ _ rfl Sz3)) ?_
  have h0 := h0.mut hC5 (fun g hg => hO.inM g ((fun _ h => h) g hg)) (fun _ _ h => nomatch h)
  have hb2 := hb2.chg hC5 (fun hg => hO.apart _ ((fun _ h => h) _ hg) (mem_r (mem_l (List.mem_singleton.2 rfl))))
  have hb3 := hb3.chg hC5 (fun hg => hO.apart _ ((fun _ h => h) _ hg) (mem_l (List.mem_singleton.2 rfl)))
  have hC := hC.step hC5 (fun g hg => hO.inN g ((fun _ h => h) g hg))
  have hO := hO.ext hC5
  have hb5 : BoxV w5 g4 24 [(.int .i64 a_.1), (.slice none 0 0)] := hb5
  refine c_nil ?_
  refine c_seq ?_
  refine c_region ?_
  refine pl_val (.pointer (some ⟨g2, 1, none⟩)) (y_faddr rfl Fa30x1) ?_
  refine pl_val (.slice pa0 pn0 pc0) (y_load rfl ((box_load Ag22 Sz22 hb2 [(.int .i64 a_.1)] [(.slice pa0 pn0 pc0)] [] rfl rfl (fun _ => rfl)) _ (Chg.refl _ _))) ?_
  obtain ⟨r7, hr7, hs⟩ := bind_some hs
  refine pl_call Bd24 rfl (c_laws_toIntS (M := M) a_.2 h0 hO.fut hr7) ?_
  rintro _ w6 ⟨a6x0, n6x0, c6x0, f6x0, rfl, hC6, hv6x0, hOc6⟩
  have h0 := h0.ext hC6
  have hb2 := hb2.chg hC6 (fun h => nomatch h)
  have hb3 := hb3.chg hC6 (fun h => nomatch h)
  have hb5 := hb5.chg hC6 (fun h => nomatch h)
  have hC := hC.ext hC6
  have hO := Own.join0 hO hC6 hOc6
  have hO := hO.perm (R := f6x0 ++ (([g4]) ++ (([g3]) ++ (([g2]) ++ ([]))))) (by simp)
  refine pl_val (.pointer (some ⟨g4, 1, none⟩)) (y_faddr rfl Fa24x1) ?_
  obtain ⟨w9, hst9, hC9, hb9⟩ := box_store (P := Try.prog) hb5 [(.int .i64 a_.1)] [(.slice none 0 0)] [] [(.slice a6x0 n6x0 c6x0)] rfl rfl (by intro u hu; simp only [List.mem_cons, List.not_mem_nil, or_false] at hu; rcases hu with rfl <;> rfl)
  refine pl_skip (w' := w9) (ys_store rfl rfl (hst9 _ _ rfl Sz22)) ?_
  have hO := hO.fr1
  have h0 := h0.mut hC9 (fun g hg => hO.inM g ((fun _ h => h) g hg)) (fun _ _ h => nomatch h)
  have hb2 := hb2.chg hC9 (fun hg => hO.apart _ ((fun _ h => h) _ hg) (mem_r (mem_r (mem_l (List.mem_singleton.2 rfl)))))
  have hb3 := hb3.chg hC9 (fun hg => hO.apart _ ((fun _ h => h) _ hg) (mem_r (mem_l (List.mem_singleton.2 rfl))))
  have hv6x0 := hv6x0.mut hC9 (fun g hg => hO.inM g ((fun _ h => h) g hg)) (fun g hg e => hO.apart g ((fun _ h => h) g hg) (mem_l (e)))
  have hC := hC.step hC9 (fun g hg => hO.inN g ((fun _ h => h) g hg))
  have hO := hO.ext hC9
  have hb9 : BoxV w9 g4 24 [(.int .i64 a_.1), (.slice a6x0 n6x0 c6x0)] := hb9
  refine c_nil ?_
  refine c_seq ?_
  refine c_region ?_
  refine pl_val (.agg #[(.int .i64 a_.1), (.slice a6x0 n6x0 c6x0)]) (y_load rfl ((box_load Ag24 Sz24 hb9 [] [(.int .i64 a_.1), (.slice a6x0 n6x0 c6x0)] [] rfl rfl (fun h => nomatch h)) _ (Chg.refl _ _))) ?_
  obtain ⟨w10, hst10, hC10, hb10⟩ := box_store (P := Try.prog) hb3 [] [(.int .i64 0), (.slice none 0 0)] [] [(.int .i64 a_.1), (.slice a6x0 n6x0 c6x0)] rfl rfl (by intro u hu; simp only [List.mem_cons, List.not_mem_nil, or_false] at hu; rcases hu with rfl | rfl <;> rfl)
  refine pl_skip (w' := w10) (ys_store rfl rfl (hst10 _ _ rfl Sz24)) ?_
  have hO := hO.fr2
  have hb2 := hb2.chg hC10 (fun hg => hO.apart _ ((fun _ h => h) _ hg) (mem_r (mem_r (mem_l (List.mem_singleton.2 rfl)))))
  have hb9 := hb9.chg hC10 (fun hg => hO.apart _ ((fun _ h => h) _ hg) (mem_l (List.mem_singleton.2 rfl)))
  have hv6x0 := hv6x0.mut hC10 (fun g hg => hO.inM g ((fun _ h => h) g hg)) (fun g hg e => hO.apart g ((fun _ h => h) g hg) (mem_r (mem_l (e))))
  have hC := hC.step hC10 (fun g hg => hO.inN g ((fun _ h => h) g hg))
  have hO := hO.ext hC10
  have hb10 : BoxV w10 g3 24 [(.int .i64 a_.1), (.slice a6x0 n6x0 c6x0)] := hb10
  refine c_nil ?_
  refine wp_ret ?_
  cases hs
  have hO := hO.drop
  have hO := hO.drop
  have hO := hO.fr1
  have hO := hO.drop
  exact ⟨_, g3, a6x0, n6x0, c6x0, f6x0, fr_ovl 12 ⟨rfl, trivial⟩, hb10, hC, hv6x0, hO.top⟩

def k_spec_l1In (M : Nat → Prop) (w0 : World) (r : Bool) (a : Act) (w : World) : Prop :=
  ∃ (σ : Nat → Value) , a = fr 15 (ovl σ [(6, (.bool r))]) ∧ Chg [] w0 w
def s_spec_l1In (x_ : Int) (a_ : Int) (b : Int) : Option (Bool) :=
  (bif (decide (a_ ≤ x_)) then some (decide (x_ ≤ b)) else some false)
set_option maxHeartbeats 4000000 in
theorem c_spec_l1In {M : Nat → Prop} {w : World}  (x_ : Int) (a_ : Int) (b : Int)  (hM : ∀ g, w.heap.size ≤ g → M g) {r : Bool} (hs : s_spec_l1In x_ a_ b = some r) :
    Gives Try.prog 56 [(.int .i64 x_), (.int .i64 a_), (.int .i64 b)] w (fun v w' => v = (.bool r) ∧ Chg [] w w') := by
  refine calls_fr Try.func56 rfl Try.ntmps56 (Nat.le_of_ble_eq_true rfl) ?_
  have hO := Own.start (N := Nw w []) hM Nw.fut
  have hC := Chg.refl [] w
  unfold s_spec_l1In at hs
  refine wp_mono (Q := KPost (k_spec_l1In M w r)) ?_ (fun e a w1 h => ?_)
  rotate_left
  · cases e
    case ret =>
      obtain ⟨σ, rfl, hrest⟩ := h
      exact ret1x Try.results56 (res_tmp rfl) ⟨rfl, hrest⟩
    all_goals exact (h : False).elim
  refine c_seq ?_
  refine c_region ?_
  refine pl_val (.bool false) (y_assign rfl) ?_
  refine c_nil ?_
  refine c_seq ?_
  refine c_region ?_
  refine pl_val (.int .i64 x_) (y_move rfl) ?_
  refine pl_val (.int .i64 a_) (y_move rfl) ?_
  refine pl_val (.bool (decide (a_ ≤ x_))) (y_geq rfl rfl) ?_
  refine pl_val (.bool (decide (a_ ≤ x_))) (y_move rfl) ?_
  rcases bif_some hs with ⟨hc1, hs⟩ | ⟨hc1, hs⟩
  · skip
    refine pl_yes (.int .i64 x_) (tg := 10) (by kernel_rfl) (congrArg Value.bool hc1) (y_move rfl) ?_
    refine pl_yes (.int .i64 b) (tg := 10) (by kernel_rfl) (congrArg Value.bool hc1) (y_move rfl) ?_
    refine pl_yes (.bool (decide (x_ ≤ b))) (tg := 10) (by kernel_rfl) (congrArg Value.bool hc1) (y_leq rfl rfl) ?_
    refine pl_val (.bool (decide (x_ ≤ b))) (y_pick_t (congrArg Value.bool hc1) rfl) ?_
    refine pl_val (.bool (decide (x_ ≤ b))) (y_assign rfl) ?_
    refine c_nil ?_
    refine wp_ret ?_
    cases hs
    exact ⟨_, fr_ovl 15 ⟨rfl, trivial⟩, hC⟩
  · skip
    refine pl_not (tg := 10) (by kernel_rfl) (congrArg Value.bool hc1) ?_
    refine pl_not (tg := 10) (by kernel_rfl) (congrArg Value.bool hc1) ?_
    refine pl_not (tg := 10) (by kernel_rfl) (congrArg Value.bool hc1) ?_
    refine pl_val (.bool false) (y_pick_f (congrArg Value.bool hc1) rfl) ?_
    refine pl_val (.bool false) (y_assign rfl) ?_
    refine c_nil ?_
    refine wp_ret ?_
    cases hs
    exact ⟨_, fr_ovl 15 ⟨rfl, trivial⟩, hC⟩

theorem Bd56 : Bodied Try.prog 56 := bodied Try.func56 (by kernel_rfl) rfl

def k_spec_l6Size (M : Nat → Prop) (w0 : World) (r : Bool) (a : Act) (w : World) : Prop :=
  ∃ (σ : Nat → Value) , a = fr 5 (ovl σ [(2, (.bool r))]) ∧ Chg [] w0 w
def s_spec_l6Size (n : Int) : Option (Bool) :=
  (s_spec_l1In n 1 8).bind fun r2 =>
  some r2
set_option maxHeartbeats 4000000 in
theorem c_spec_l6Size {M : Nat → Prop} {w : World}  (n : Int)  (hM : ∀ g, w.heap.size ≤ g → M g) {r : Bool} (hs : s_spec_l6Size n = some r) :
    Gives Try.prog 31 [(.int .i64 n)] w (fun v w' => v = (.bool r) ∧ Chg [] w w') := by
  refine calls_fr Try.func31 rfl Try.ntmps31 (Nat.le_of_ble_eq_true rfl) ?_
  have hO := Own.start (N := Nw w []) hM Nw.fut
  have hC := Chg.refl [] w
  unfold s_spec_l6Size at hs
  refine wp_mono (Q := KPost (k_spec_l6Size M w r)) ?_ (fun e a w1 h => ?_)
  rotate_left
  · cases e
    case ret =>
      obtain ⟨σ, rfl, hrest⟩ := h
      exact ret1x Try.results31 (res_tmp rfl) ⟨rfl, hrest⟩
    all_goals exact (h : False).elim
  refine c_seq ?_
  refine c_region ?_
  refine pl_val (.bool false) (y_assign rfl) ?_
  refine c_nil ?_
  refine c_seq ?_
  refine c_region ?_
  refine pl_val (.int .i64 n) (y_move rfl) ?_
  obtain ⟨r2, hr2, hs⟩ := bind_some hs
  refine pl_call Bd56 rfl (c_spec_l1In (M := M) n 1 8  hO.fut hr2) ?_
  rintro _ w1 ⟨rfl, hC1⟩
  have hC := hC.ext hC1
  have hO := hO.ext hC1
  refine pl_val (.bool r2) (y_assign rfl) ?_
  refine c_nil ?_
  refine wp_ret ?_
  cases hs
  exact ⟨_, fr_ovl 5 ⟨rfl, trivial⟩, hC⟩

def k_spec_l2Pow (M : Nat → Prop) (w0 : World) (r : Int) (a : Act) (w : World) : Prop :=
  ∃ (σ : Nat → Value) , a = fr 14 (ovl σ [(4, (.int .i64 r))]) ∧ Chg [] w0 w
def s_spec_l2Pow (n : Int) (k : Int) : Option (Int) :=
  (iter (S := Int × Int) (R := Int) (fun s2 =>
  (bif (decide (0 < s2.1)) then some (.nx (w64 (s2.1 - 1), w64 (s2.2 * n))) else some (.br (s2.1, s2.2)))) FU (k, 1)).bind fun o6 => after o6 (fun r_ => some r_) (fun s2 =>
  some s2.2)
set_option maxHeartbeats 4000000 in
theorem c_spec_l2Pow {M : Nat → Prop} {w : World}  (n : Int) (k : Int)  (hM : ∀ g, w.heap.size ≤ g → M g) {r : Int} (hs : s_spec_l2Pow n k = some r) :
    Gives Try.prog 61 [(.int .i64 n), (.int .i64 k)] w (fun v w' => v = (.int .i64 r) ∧ Chg [] w w') := by
  refine calls_fr Try.func61 rfl Try.ntmps61 (Nat.le_of_ble_eq_true rfl) ?_
  have hO := Own.start (N := Nw w []) hM Nw.fut
  have hC := Chg.refl [] w
  unfold s_spec_l2Pow at hs
  refine wp_mono (Q := KPost (k_spec_l2Pow M w r)) ?_ (fun e a w1 h => ?_)
  rotate_left
  · cases e
    case ret =>
      obtain ⟨σ, rfl, hrest⟩ := h
      exact ret1x Try.results61 (res_tmp rfl) ⟨rfl, hrest⟩
    all_goals exact (h : False).elim
  refine c_seq ?_
  refine c_region ?_
  refine pl_val (.int .i64 0) (y_assign rfl) ?_
  refine c_nil ?_
  refine c_seq ?_
  refine c_region ?_
  refine pl_val (.int .i64 1) (y_assign rfl) ?_
  refine c_nil ?_
  refine c_seq ?_
  obtain ⟨o6, hl7, hs⟩ := bind_some hs
  refine wp_block ?_
  refine wp_iter (id := 0) (I := fun s2 a w3 => ∃ (σ : Nat → Value), a = fr 14 (ovl σ [(0, (.int .i64 n)), (1, (.int .i64 s2.1)), (5, (.int .i64 s2.2))]) ∧ Chg [] w w3 ∧ Own (Nw w []) M w3 ([])) (J := fun s2 a w3 => ∃ (σ : Nat → Value), a = fr 14 (ovl σ [(5, (.int .i64 s2.2))]) ∧ Chg [] w w3 ∧ Own (Nw w []) M w3 ([])) (K := (k_spec_l2Pow M w)) ?_ FU (k, 1) o6 _ _ ?_ hl7 ?_
  · rintro s2 o6 a w3 ⟨σ, rfl, hC, hO⟩ hs
    refine c_seq ?_
    refine c_seq ?_
    refine c_region ?_
    refine pl_val (.int .i64 s2.1) (y_move rfl) ?_
    refine pl_val (.bool (decide (0 < s2.1))) (y_gtr rfl rfl) ?_
    refine c_nil ?_
    rcases bif_some hs with ⟨hc8, hs⟩ | ⟨hc8, hs⟩
    · skip
      refine c_condT (congrArg Value.bool hc8) ?_
      refine wp_skip ?_
      refine c_seq ?_
      refine wp_block ?_
      refine c_region ?_
      refine pl_val (.int .i64 s2.2) (y_move rfl) ?_
      refine pl_val (.int .i64 n) (y_move rfl) ?_
      refine pl_val (.int .i64 (w64 (s2.2 * n))) (y_mul rfl rfl) ?_
      refine pl_val (.int .i64 (w64 (s2.2 * n))) (y_assign rfl) ?_
      refine c_nil ?_
      refine c_region ?_
      refine pl_val (.int .i64 s2.1) (y_move rfl) ?_
      refine pl_val (.int .i64 (w64 (s2.1 - 1))) (y_sub rfl rfl) ?_
      refine pl_val (.int .i64 (w64 (s2.1 - 1))) (y_assign rfl) ?_
      refine c_nil ?_
      cases hs
      exact ⟨_, fr_ovl 14 ⟨rfl, rfl, rfl, trivial⟩, hC, hO⟩
    · skip
      refine c_condF (congrArg Value.bool hc8) ?_
      refine wp_exit ?_
      cases hs
      exact ⟨rfl, _, fr_ovl 14 ⟨rfl, trivial⟩, hC, hO⟩
  · skip
    exact ⟨_, fr_ovl 14 ⟨rfl, rfl, rfl, trivial⟩, hC, hO⟩
  · cases o6 with
    | nx _ => exact True.intro
    | rt r_ =>
      have hs := after_rt hs
      intro a1 w1 hK
      cases hs
      exact hK
    | br s2 =>
      have hs := after_br hs
      rintro a1 w3 ⟨σ, rfl, hC, hO⟩
      refine c_seq ?_
      refine c_region ?_
      refine pl_val (.int .i64 s2.2) (y_move rfl) ?_
      refine pl_val (.int .i64 s2.2) (y_assign rfl) ?_
      refine c_nil ?_
      refine wp_ret ?_
      cases hs
      exact ⟨_, fr_ovl 14 ⟨rfl, trivial⟩, hC⟩

theorem Mx : Try.prog.follows .mixedOrders = true := by kernel_rfl

theorem Bd61 : Bodied Try.prog 61 := bodied Try.func61 (by kernel_rfl) rfl

def k_spec_l2Op (M : Nat → Prop) (w0 : World) (r : Bool) (a : Act) (w : World) : Prop :=
  ∃ (σ : Nat → Value) , a = fr 36 (ovl σ [(4, (.bool r))]) ∧ Chg [] w0 w
def s_spec_l2Op (n : Int) (op : Int × (List Int)) : Option (Bool) :=
  ((s_spec_l1In op.1 0 3).bind fun r8 =>
  (bif (!r8) then some true else (s_spec_l2Pow n op.1).bind fun r11 =>
  some ((op.2.length : Int) != r11))).bind fun s3 =>
  (bif s3 then some false else (forC (S := Unit) (R := Bool) (fun k24 s22 =>
  (idx op.2 k24).bind fun x28 =>
  (s_spec_l1In x28 0 (w64 (n - 1))).bind fun r31 =>
  (bif (!r31) then some (.rt false) else some (.nx ()))) 0 (op.2.length : Int) ()).bind fun o26 => after o26 (fun r_ => some r_) (fun s22 =>
  some true))
set_option maxHeartbeats 4000000 in
theorem c_spec_l2Op {M : Nat → Prop} {w : World} {pa0 : Option Addr} {pn0 pc0 : Nat} (n : Int) (op : Int × (List Int)) (h0 : (RT.rs (RT.int .i64)).val M w (.slice pa0 pn0 pc0) op.2 ([])) (hM : ∀ g, w.heap.size ≤ g → M g) {r : Bool} (hs : s_spec_l2Op n op = some r) :
    Gives Try.prog 45 [(.int .i64 n), (.agg #[(.int .i64 op.1), (.slice pa0 pn0 pc0)])] w (fun v w' => v = (.bool r) ∧ Chg [] w w') := by
  refine calls_fr Try.func45 rfl Try.ntmps45 (Nat.le_of_ble_eq_true rfl) ?_
  have hO := Own.start (N := Nw w []) hM Nw.fut
  have hC := Chg.refl [] w
  unfold s_spec_l2Op at hs
  refine wp_mono (Q := KPost (k_spec_l2Op M w r)) ?_ (fun e a w1 h => ?_)
  rotate_left
  · cases e
    case ret =>
      obtain ⟨σ, rfl, hrest⟩ := h
      exact ret1x Try.results45 (res_tmp rfl) ⟨rfl, hrest⟩
    all_goals exact (h : False).elim
  refine c_seq ?_
  refine c_region ?_
  obtain ⟨w2, g2, ew2, eg2, hC2, hb2⟩ := new_block w [(.int .i64 op.1), (.slice pa0 pn0 pc0)] 24
  refine pl_val (w' := w2) (.pointer (some ⟨g2, 0, none⟩)) (y_box rfl (by rw [ew2, eg2]; kernel_rfl)) ?_
  have h0 := h0.ext hC2
  have hC := hC.ext hC2
  have hO := hO.new (X' := [g2]) hC2 (fun q hq => by rw [List.mem_singleton.1 hq, eg2]; exact Nat.le_refl _) (List.nodup_cons.2 ⟨(fun h => nomatch h), List.nodup_nil⟩) (fun q hq => by rw [List.mem_singleton.1 hq]; exact hb2.lt)
  refine pl_val (.bool false) (y_assign rfl) ?_
  refine c_nil ?_
  refine c_seq ?_
  refine c_seq ?_
  obtain ⟨s3, hm5, hs⟩ := bind_some hs
  refine c_mid (I := fun a w4 => ∃ (σ : Nat → Value), a = fr 36 (ovl σ [(0, (.int .i64 n)), (3, (.pointer (some ⟨g2, 0, none⟩))), (4, (.bool false)), (19, (.bool s3))]) ∧ Chg [] w2 w4) ?_ ?_
  · replace hs := hm5
    have hMid := Chg.refl [] w2
    refine x_start [] Mx rfl ?_
    have hCw6 := Chg.drew w2
    generalize World.drew w2 = w6 at hCw6 ⊢
    have h0 := h0.ext hCw6
    have hb2 := hb2.chg hCw6 (fun h => nomatch h)
    have hMid := hMid.ext hCw6
    have hC := hC.ext hCw6
    have hO := hO.ext hCw6
    have hS := Chg.refl [] w6
    refine x_p 0 (.pointer (some ⟨g2, 0, none⟩)) rfl (by kernel_rfl)  (fun _ => y_faddr rfl Fa24x0) (fun _ => hS) ?_
    refine x_l 1 (.int .i64 op.1) rfl (by kernel_rfl)  (fun w' hw' => y_load rfl ((box_load Ag3 Sz3 hb2 [] [(.int .i64 op.1)] [(.slice pa0 pn0 pc0)] rfl rfl (fun _ => rfl)) w' hw')) hS ?_
    refine x_one (i := 2) (by kernel_rfl) ?_
    obtain ⟨r8, hr8, hs⟩ := bind_some hs
    refine xk_call (b := false) rfl  Bd56 rfl (c_spec_l1In (M := M) op.1 0 3  hO.fut hr8) rfl (by rintro _ _ _ ⟨rfl, hC7⟩; exact hS.ext hC7) ?_
    rintro _ w7 ⟨rfl, hC7⟩
    have h0 := h0.ext hC7
    have hb2 := hb2.chg hC7 (fun h => nomatch h)
    have hMid := hMid.ext hC7
    have hC := hC.ext hC7
    have hO := hO.ext hC7
    have hS := hS.ext hC7
    refine x_p 3 (.bool (!r8)) rfl (by kernel_rfl)  (fun _ => y_not rfl) (fun _ => hS) ?_
    refine x_p 4 (.bool (!r8)) rfl (by kernel_rfl)  (fun _ => y_move rfl) (fun _ => hS) ?_
    rcases bif_some hs with ⟨hc9, hs⟩ | ⟨hc9, hs⟩
    · skip
      refine x_pn 5 rfl (by kernel_rfl) (tg := 10) (by kernel_rfl) (congrArg Value.bool hc9) (fun _ => hS) ?_
      refine x_pn 6 rfl (by kernel_rfl) (tg := 10) (by kernel_rfl) (congrArg Value.bool hc9) (fun _ => hS) ?_
      refine x_pn 7 rfl (by kernel_rfl) (tg := 10) (by kernel_rfl) (congrArg Value.bool hc9) (fun _ => hS) ?_
      refine x_pn 8 rfl (by kernel_rfl) (tg := 10) (by kernel_rfl) (congrArg Value.bool hc9) (fun _ => hS) ?_
      refine x_pn 9 rfl (by kernel_rfl) (tg := 10) (by kernel_rfl) (congrArg Value.bool hc9) (fun _ => hS) ?_
      refine x_pn 10 rfl (by kernel_rfl) (tg := 10) (by kernel_rfl) (congrArg Value.bool hc9) (fun _ => hS) ?_
      refine x_pn 11 rfl (by kernel_rfl) (tg := 10) (by kernel_rfl) (congrArg Value.bool hc9) (fun _ => hS) ?_
      refine x_pn 12 rfl (by kernel_rfl) (tg := 10) (by kernel_rfl) (congrArg Value.bool hc9) (fun _ => hS) ?_
      refine x_p 13 (.bool true) rfl (by kernel_rfl)  (fun _ => y_pick_t (congrArg Value.bool hc9) rfl) (fun _ => hS) ?_
      refine x_end (by kernel_rfl) ?_
      clear hS
      cases hs
      exact ⟨_, fr_ovl 36 ⟨rfl, rfl, rfl, rfl, trivial⟩, hMid⟩
    · skip
      refine x_py 5 (.pointer (some ⟨g2, 1, none⟩)) rfl (by kernel_rfl) (tg := 10) (by kernel_rfl) (congrArg Value.bool hc9) (fun _ => y_faddr rfl Fa24x1) (fun _ => hS) ?_
      refine x_py 8 (.int .i64 n) rfl (by kernel_rfl) (tg := 10) (by kernel_rfl) (congrArg Value.bool hc9) (fun _ => y_move rfl) (fun _ => hS) ?_
      refine x_py 9 (.pointer (some ⟨g2, 0, none⟩)) rfl (by kernel_rfl) (tg := 10) (by kernel_rfl) (congrArg Value.bool hc9) (fun _ => y_faddr rfl Fa24x0) (fun _ => hS) ?_
      refine x_two (i := 6) (j := 10) (by kernel_rfl) ?_ ?_
      · skip
        refine xk_valy (b := false) (.slice pa0 pn0 pc0) rfl (tg := 10) (by kernel_rfl) (congrArg Value.bool hc9) (y_load rfl ((box_load Ag22 Sz22 hb2 [(.int .i64 op.1)] [(.slice pa0 pn0 pc0)] [] rfl rfl (fun _ => rfl)) _ (Chg.refl _ _))) rfl (fun _ => hS) ?_
        refine x_py 7 (.int .i64 (op.2.length : Int)) rfl (by kernel_rfl) (tg := 10) (by kernel_rfl) (congrArg Value.bool hc9) (fun _ => y_len' Sl22 (rs_len h0) rfl) (fun _ => hS) ?_
        refine x_one (i := 10) (by kernel_rfl) ?_
        refine xk_valy (b := false) (.int .i64 op.1) rfl (tg := 10) (by kernel_rfl) (congrArg Value.bool hc9) (y_load rfl ((box_load Ag3 Sz3 hb2 [] [(.int .i64 op.1)] [(.slice pa0 pn0 pc0)] rfl rfl (fun _ => rfl)) _ (Chg.refl _ _))) rfl (fun _ => hS) ?_
        refine x_one (i := 11) (by kernel_rfl) ?_
        obtain ⟨r11, hr11, hs⟩ := bind_some hs
        refine xk_cally (b := false) rfl (tg := 10) (by kernel_rfl) (congrArg Value.bool hc9) Bd61 rfl (c_spec_l2Pow (M := M) n op.1  hO.fut hr11) rfl (by rintro _ _ _ ⟨rfl, hC10⟩; exact hS.ext hC10) ?_
        rintro _ w10 ⟨rfl, hC10⟩
        have h0 := h0.ext hC10
        have hb2 := hb2.chg hC10 (fun h => nomatch h)
        have hMid := hMid.ext hC10
        have hC := hC.ext hC10
        have hO := hO.ext hC10
        have hS := hS.ext hC10
        refine x_py 12 (.bool ((op.2.length : Int) != r11)) rfl (by kernel_rfl) (tg := 10) (by kernel_rfl) (congrArg Value.bool hc9) (fun _ => y_neq rfl rfl) (fun _ => hS) ?_
        refine x_p 13 (.bool ((op.2.length : Int) != r11)) rfl (by kernel_rfl)  (fun _ => y_pick_f (congrArg Value.bool hc9) rfl) (fun _ => hS) ?_
        refine x_end (by kernel_rfl) ?_
        clear hS
        cases hs
        exact ⟨_, fr_ovl 36 ⟨rfl, rfl, rfl, rfl, trivial⟩, hMid⟩
      · skip
        refine xk_valy (b := false) (.int .i64 op.1) rfl (tg := 10) (by kernel_rfl) (congrArg Value.bool hc9) (y_load rfl ((box_load Ag3 Sz3 hb2 [] [(.int .i64 op.1)] [(.slice pa0 pn0 pc0)] rfl rfl (fun _ => rfl)) _ (Chg.refl _ _))) rfl (fun _ => hS) ?_
        refine x_two (i := 6) (j := 11) (by kernel_rfl) ?_ ?_
        · skip
          refine xk_valy (b := false) (.slice pa0 pn0 pc0) rfl (tg := 10) (by kernel_rfl) (congrArg Value.bool hc9) (y_load rfl ((box_load Ag22 Sz22 hb2 [(.int .i64 op.1)] [(.slice pa0 pn0 pc0)] [] rfl rfl (fun _ => rfl)) _ (Chg.refl _ _))) rfl (fun _ => hS) ?_
          refine x_py 7 (.int .i64 (op.2.length : Int)) rfl (by kernel_rfl) (tg := 10) (by kernel_rfl) (congrArg Value.bool hc9) (fun _ => y_len' Sl22 (rs_len h0) rfl) (fun _ => hS) ?_
          refine x_one (i := 11) (by kernel_rfl) ?_
          obtain ⟨r11, hr11, hs⟩ := bind_some hs
          refine xk_cally (b := false) rfl (tg := 10) (by kernel_rfl) (congrArg Value.bool hc9) Bd61 rfl (c_spec_l2Pow (M := M) n op.1  hO.fut hr11) rfl (by rintro _ _ _ ⟨rfl, hC12⟩; exact hS.ext hC12) ?_
          rintro _ w12 ⟨rfl, hC12⟩
          have h0 := h0.ext hC12
          have hb2 := hb2.chg hC12 (fun h => nomatch h)
          have hMid := hMid.ext hC12
          have hC := hC.ext hC12
          have hO := hO.ext hC12
          have hS := hS.ext hC12
          refine x_py 12 (.bool ((op.2.length : Int) != r11)) rfl (by kernel_rfl) (tg := 10) (by kernel_rfl) (congrArg Value.bool hc9) (fun _ => y_neq rfl rfl) (fun _ => hS) ?_
          refine x_p 13 (.bool ((op.2.length : Int) != r11)) rfl (by kernel_rfl)  (fun _ => y_pick_f (congrArg Value.bool hc9) rfl) (fun _ => hS) ?_
          refine x_end (by kernel_rfl) ?_
          clear hS
          cases hs
          exact ⟨_, fr_ovl 36 ⟨rfl, rfl, rfl, rfl, trivial⟩, hMid⟩
        · skip
          obtain ⟨r11, hr11, hs⟩ := bind_some hs
          refine xk_cally (b := false) rfl (tg := 10) (by kernel_rfl) (congrArg Value.bool hc9) Bd61 rfl (c_spec_l2Pow (M := M) n op.1  hO.fut hr11) rfl (by rintro _ _ _ ⟨rfl, hC14⟩; exact hS.ext hC14) ?_
          rintro _ w14 ⟨rfl, hC14⟩
          have h0 := h0.ext hC14
          have hb2 := hb2.chg hC14 (fun h => nomatch h)
          have hMid := hMid.ext hC14
          have hC := hC.ext hC14
          have hO := hO.ext hC14
          have hS := hS.ext hC14
          refine x_one (i := 6) (by kernel_rfl) ?_
          refine xk_valy (b := false) (.slice pa0 pn0 pc0) rfl (tg := 10) (by kernel_rfl) (congrArg Value.bool hc9) (y_load rfl ((box_load Ag22 Sz22 hb2 [(.int .i64 op.1)] [(.slice pa0 pn0 pc0)] [] rfl rfl (fun _ => rfl)) _ (Chg.refl _ _))) rfl (fun _ => hS) ?_
          refine x_py 7 (.int .i64 (op.2.length : Int)) rfl (by kernel_rfl) (tg := 10) (by kernel_rfl) (congrArg Value.bool hc9) (fun _ => y_len' Sl22 (rs_len h0) rfl) (fun _ => hS) ?_
          refine x_py 12 (.bool ((op.2.length : Int) != r11)) rfl (by kernel_rfl) (tg := 10) (by kernel_rfl) (congrArg Value.bool hc9) (fun _ => y_neq rfl rfl) (fun _ => hS) ?_
          refine x_p 13 (.bool ((op.2.length : Int) != r11)) rfl (by kernel_rfl)  (fun _ => y_pick_f (congrArg Value.bool hc9) rfl) (fun _ => hS) ?_
          refine x_end (by kernel_rfl) ?_
          clear hS
          cases hs
          exact ⟨_, fr_ovl 36 ⟨rfl, rfl, rfl, rfl, trivial⟩, hMid⟩
  · rintro a1 w4 ⟨σ, rfl, hCs3⟩
    have h0 := h0.ext hCs3
    have hb2 := hb2.chg hCs3 (fun h => nomatch h)
    have hC := hC.ext hCs3
    have hO := hO.ext hCs3
    rcases bif_some hs with ⟨hc16, hs⟩ | ⟨hc16, hs⟩
    · skip
      refine c_condT (congrArg Value.bool hc16) ?_
      refine c_seq ?_
      refine c_region ?_
      refine pl_val (.bool false) (y_assign rfl) ?_
      refine c_nil ?_
      refine wp_ret ?_
      cases hs
      exact ⟨_, fr_ovl 36 ⟨rfl, trivial⟩, hC⟩
    · skip
      refine c_condF (congrArg Value.bool hc16) ?_
      refine wp_skip ?_
      refine c_seq ?_
      refine c_seq ?_
      refine c_region ?_
      refine pl_val (.int .i64 0) (y_assign rfl) ?_
      refine c_nil ?_
      obtain ⟨o26, hl27, hs⟩ := bind_some hs
      refine wp_block ?_
      refine wp_forC (id := 0) (op.2.length : Int) (I := fun k24 s22 a w23 => ∃ (σ : Nat → Value), a = fr 36 (ovl σ [(0, (.int .i64 n)), (3, (.pointer (some ⟨g2, 0, none⟩))), (5, (.int .i64 k24))]) ∧ Chg [] w w23 ∧ Own (Nw w []) M w23 (([g2]) ++ []) ∧ (RT.rs (RT.int .i64)).val M w23 (.slice pa0 pn0 pc0) op.2 ([]) ∧ BoxV w23 g2 24 [(.int .i64 op.1), (.slice pa0 pn0 pc0)]) (J := fun s22 a w23 => ∃ (σ : Nat → Value), a = fr 36 (ovl σ []) ∧ Chg [] w w23 ∧ Own (Nw w []) M w23 (([g2]) ++ []) ∧ (RT.rs (RT.int .i64)).val M w23 (.slice pa0 pn0 pc0) op.2 ([]) ∧ BoxV w23 g2 24 [(.int .i64 op.1), (.slice pa0 pn0 pc0)]) (K := (k_spec_l2Op M w)) ?_ ?_ 0 () o26 _ _ ?_ hl27 ?_
      · rintro k24 s22 a w23 ⟨σ, rfl, hC, hO, h0, hb2⟩ hlt
        refine c_seq ?_
        refine c_seq ?_
        refine c_region ?_
        refine pl_val (.int .i64 k24) (y_move rfl) ?_
        refine pl_val (.pointer (some ⟨g2, 1, none⟩)) (y_faddr rfl Fa24x1) ?_
        refine pl_val (.slice pa0 pn0 pc0) (y_load rfl ((box_load Ag22 Sz22 hb2 [(.int .i64 op.1)] [(.slice pa0 pn0 pc0)] [] rfl rfl (fun _ => rfl)) _ (Chg.refl _ _))) ?_
        refine pl_val (.int .i64 (op.2.length : Int)) (y_len' Sl22 (rs_len h0) rfl) ?_
        refine pl_val (.bool (decide (k24 < (op.2.length : Int)))) (y_lss rfl rfl) ?_
        refine c_nil ?_
        refine c_condF (congrArg Value.bool (decide_eq_false hlt)) ?_
        refine wp_exit ?_
        exact ⟨rfl, _, fr_ovl 36 trivial, hC, hO, h0, hb2⟩
      · rintro k24 s22 o26 a w23 ⟨σ, rfl, hC, hO, h0, hb2⟩ hlt hw hs
        refine c_seq ?_
        refine c_seq ?_
        refine c_region ?_
        refine pl_val (.int .i64 k24) (y_move rfl) ?_
        refine pl_val (.pointer (some ⟨g2, 1, none⟩)) (y_faddr rfl Fa24x1) ?_
        refine pl_val (.slice pa0 pn0 pc0) (y_load rfl ((box_load Ag22 Sz22 hb2 [(.int .i64 op.1)] [(.slice pa0 pn0 pc0)] [] rfl rfl (fun _ => rfl)) _ (Chg.refl _ _))) ?_
        refine pl_val (.int .i64 (op.2.length : Int)) (y_len' Sl22 (rs_len h0) rfl) ?_
        refine pl_val (.bool (decide (k24 < (op.2.length : Int)))) (y_lss rfl rfl) ?_
        refine c_nil ?_
        refine c_condT (congrArg Value.bool (decide_eq_true hlt)) ?_
        refine wp_skip ?_
        refine c_seq ?_
        refine wp_block ?_
        refine c_seq ?_
        refine c_region ?_
        refine pl_val (.pointer (some ⟨g2, 1, none⟩)) (y_faddr rfl Fa24x1) ?_
        refine pl_val (.slice pa0 pn0 pc0) (y_load rfl ((box_load Ag22 Sz22 hb2 [(.int .i64 op.1)] [(.slice pa0 pn0 pc0)] [] rfl rfl (fun _ => rfl)) _ (Chg.refl _ _))) ?_
        refine pl_val (.int .i64 k24) (y_move rfl) ?_
        obtain ⟨x28, hx28, hs⟩ := bind_some hs
        obtain ⟨b29, o29, hp29, ha29⟩ := rs_idx Sl22 Sz3 h0 hx28
        refine pl_val (.pointer (some ⟨b29, o29, none⟩)) (hp29 _ _ _ _ _ _ _ _ _ rfl rfl) ?_
        refine pl_val (.int .i64 x28) (y_load rfl ((at_load_int Ag3 Sz3 ha29) _ (Chg.refl _ _))) ?_
        refine pl_val (.int .i64 n) (y_move rfl) ?_
        refine pl_val (.int .i64 (w64 (n - 1))) (y_sub rfl rfl) ?_
        obtain ⟨r31, hr31, hs⟩ := bind_some hs
        refine pl_call Bd56 rfl (c_spec_l1In (M := M) x28 0 (w64 (n - 1))  hO.fut hr31) ?_
        rintro _ w30 ⟨rfl, hC30⟩
        have h0 := h0.ext hC30
        have hb2 := hb2.chg hC30 (fun h => nomatch h)
        have hC := hC.ext hC30
        have hO := hO.ext hC30
        refine pl_val (.bool (!r31)) (y_not rfl) ?_
        refine c_nil ?_
        rcases bif_some hs with ⟨hc32, hs⟩ | ⟨hc32, hs⟩
        · skip
          refine c_condT (congrArg Value.bool hc32) ?_
          refine c_seq ?_
          refine c_region ?_
          refine pl_val (.bool false) (y_assign rfl) ?_
          refine c_nil ?_
          refine wp_ret ?_
          cases hs
          exact ⟨_, fr_ovl 36 ⟨rfl, trivial⟩, hC⟩
        · skip
          refine c_condF (congrArg Value.bool hc32) ?_
          refine wp_skip ?_
          refine c_region ?_
          refine pl_val (.int .i64 k24) (y_move rfl) ?_
          refine pl_val (.int .i64 (w64 (k24 + 1))) (y_add rfl rfl) ?_
          refine pl_val (.int .i64 (w64 (k24 + 1))) (y_assign rfl) ?_
          refine c_nil ?_
          cases hs
          exact ⟨_, fr_ovl 36 ⟨rfl, rfl, congrArg (Value.int .i64) hw, trivial⟩, hC, hO, h0, hb2⟩
      · skip
        exact ⟨_, fr_ovl 36 ⟨rfl, rfl, rfl, trivial⟩, hC, hO, h0, hb2⟩
      · cases o26 with
        | nx _ => exact True.intro
        | rt r_ =>
          have hs := after_rt hs
          intro a1 w1 hK
          cases hs
          exact hK
        | br s22 =>
          have hs := after_br hs
          rintro a1 w23 ⟨σ, rfl, hC, hO, h0, hb2⟩
          refine c_seq ?_
          refine c_region ?_
          refine pl_val (.bool true) (y_assign rfl) ?_
          refine c_nil ?_
          refine wp_ret ?_
          cases hs
          exact ⟨_, fr_ovl 36 ⟨rfl, trivial⟩, hC⟩

theorem Bd31 : Bodied Try.prog 31 := bodied Try.func31 (by kernel_rfl) rfl

theorem Bd45 : Bodied Try.prog 45 := bodied Try.func45 (by kernel_rfl) rfl

def k_spec_l18Takes (M : Nat → Prop) (w0 : World) (r : Bool) (a : Act) (w : World) : Prop :=
  ∃ (σ : Nat → Value) , a = fr 12 (ovl σ [(4, (.bool r))]) ∧ Chg [] w0 w
def s_spec_l18Takes (n : Int) (op : Int × (List Int)) : Option (Bool) :=
  (s_spec_l6Size n).bind fun r4 =>
  (bif r4 then (s_spec_l2Op n (op.1, op.2)).bind fun r7 =>
  some r7 else some false)
set_option maxHeartbeats 4000000 in
theorem c_spec_l18Takes {M : Nat → Prop} {w : World} {pa0 : Option Addr} {pn0 pc0 : Nat} (n : Int) (op : Int × (List Int)) (h0 : (RT.rs (RT.int .i64)).val M w (.slice pa0 pn0 pc0) op.2 ([])) (hM : ∀ g, w.heap.size ≤ g → M g) {r : Bool} (hs : s_spec_l18Takes n op = some r) :
    Gives Try.prog 40 [(.int .i64 n), (.agg #[(.int .i64 op.1), (.slice pa0 pn0 pc0)])] w (fun v w' => v = (.bool r) ∧ Chg [] w w') := by
  refine calls_fr Try.func40 rfl Try.ntmps40 (Nat.le_of_ble_eq_true rfl) ?_
  have hO := Own.start (N := Nw w []) hM Nw.fut
  have hC := Chg.refl [] w
  unfold s_spec_l18Takes at hs
  refine wp_mono (Q := KPost (k_spec_l18Takes M w r)) ?_ (fun e a w1 h => ?_)
  rotate_left
  · cases e
    case ret =>
      obtain ⟨σ, rfl, hrest⟩ := h
      exact ret1x Try.results40 (res_tmp rfl) ⟨rfl, hrest⟩
    all_goals exact (h : False).elim
  refine c_seq ?_
  refine c_region ?_
  obtain ⟨w2, g2, ew2, eg2, hC2, hb2⟩ := new_block w [(.int .i64 op.1), (.slice pa0 pn0 pc0)] 24
  refine pl_val (w' := w2) (.pointer (some ⟨g2, 0, none⟩)) (y_box rfl (by rw [ew2, eg2]; kernel_rfl)) ?_
  have h0 := h0.ext hC2
  have hC := hC.ext hC2
  have hO := hO.new (X' := [g2]) hC2 (fun q hq => by rw [List.mem_singleton.1 hq, eg2]; exact Nat.le_refl _) (List.nodup_cons.2 ⟨(fun h => nomatch h), List.nodup_nil⟩) (fun q hq => by rw [List.mem_singleton.1 hq]; exact hb2.lt)
  refine pl_val (.bool false) (y_assign rfl) ?_
  refine c_nil ?_
  refine c_seq ?_
  refine c_region ?_
  refine pl_val (.int .i64 n) (y_move rfl) ?_
  obtain ⟨r4, hr4, hs⟩ := bind_some hs
  refine pl_call Bd31 rfl (c_spec_l6Size (M := M) n  hO.fut hr4) ?_
  rintro _ w3 ⟨rfl, hC3⟩
  have h0 := h0.ext hC3
  have hb2 := hb2.chg hC3 (fun h => nomatch h)
  have hC := hC.ext hC3
  have hO := hO.ext hC3
  refine pl_val (.bool r4) (y_move rfl) ?_
  rcases bif_some hs with ⟨hc5, hs⟩ | ⟨hc5, hs⟩
  · skip
    refine pl_yes (.int .i64 n) (tg := 7) (by kernel_rfl) (congrArg Value.bool hc5) (y_move rfl) ?_
    refine pl_yes (.agg #[(.int .i64 op.1), (.slice pa0 pn0 pc0)]) (tg := 7) (by kernel_rfl) (congrArg Value.bool hc5) (y_load rfl ((box_load Ag24 Sz24 hb2 [] [(.int .i64 op.1), (.slice pa0 pn0 pc0)] [] rfl rfl (fun h => nomatch h)) _ (Chg.refl _ _))) ?_
    obtain ⟨r7, hr7, hs⟩ := bind_some hs
    refine pl_cally (tg := 7) (by kernel_rfl) (congrArg Value.bool hc5) Bd45 rfl (c_spec_l2Op (M := M) n (op.1, op.2) h0 hO.fut hr7) ?_
    rintro _ w6 ⟨rfl, hC6⟩
    have h0 := h0.ext hC6
    have hb2 := hb2.chg hC6 (fun h => nomatch h)
    have hC := hC.ext hC6
    have hO := hO.ext hC6
    refine pl_val (.bool r7) (y_pick_t (congrArg Value.bool hc5) rfl) ?_
    refine pl_val (.bool r7) (y_assign rfl) ?_
    refine c_nil ?_
    refine wp_ret ?_
    cases hs
    exact ⟨_, fr_ovl 12 ⟨rfl, trivial⟩, hC⟩
  · skip
    refine pl_not (tg := 7) (by kernel_rfl) (congrArg Value.bool hc5) ?_
    refine pl_not (tg := 7) (by kernel_rfl) (congrArg Value.bool hc5) ?_
    refine pl_not (tg := 7) (by kernel_rfl) (congrArg Value.bool hc5) ?_
    refine pl_val (.bool false) (y_pick_f (congrArg Value.bool hc5) rfl) ?_
    refine pl_val (.bool false) (y_assign rfl) ?_
    refine c_nil ?_
    refine wp_ret ?_
    cases hs
    exact ⟨_, fr_ovl 12 ⟨rfl, trivial⟩, hC⟩

def k_spec_l18At (M : Nat → Prop) (w0 : World) (r : Int) (a : Act) (w : World) : Prop :=
  ∃ (σ : Nat → Value) , a = fr 24 (ovl σ [(10, (.int .i64 r))]) ∧ Chg [] w0 w
def s_spec_l18At (n : Int) (op : Int × (List Int)) (x_ : Int) (y : Int) (z : Int) : Option (Int) :=
  (idx op.2 (w64 ((w64 ((w64 ((w64 (x_ * n)) + y)) * n)) + z))).bind fun x3 =>
  some x3
set_option maxHeartbeats 4000000 in
theorem c_spec_l18At {M : Nat → Prop} {w : World} {pa0 : Option Addr} {pn0 pc0 : Nat} (n : Int) (op : Int × (List Int)) (x_ : Int) (y : Int) (z : Int) (h0 : (RT.rs (RT.int .i64)).val M w (.slice pa0 pn0 pc0) op.2 ([])) (hM : ∀ g, w.heap.size ≤ g → M g) {r : Int} (hs : s_spec_l18At n op x_ y z = some r) :
    Gives Try.prog 52 [(.int .i64 n), (.agg #[(.int .i64 op.1), (.slice pa0 pn0 pc0)]), (.int .i64 x_), (.int .i64 y), (.int .i64 z)] w (fun v w' => v = (.int .i64 r) ∧ Chg [] w w') := by
  refine calls_fr Try.func52 rfl Try.ntmps52 (Nat.le_of_ble_eq_true rfl) ?_
  have hO := Own.start (N := Nw w []) hM Nw.fut
  have hC := Chg.refl [] w
  unfold s_spec_l18At at hs
  refine wp_mono (Q := KPost (k_spec_l18At M w r)) ?_ (fun e a w1 h => ?_)
  rotate_left
  · cases e
    case ret =>
      obtain ⟨σ, rfl, hrest⟩ := h
      exact ret1x Try.results52 (res_tmp rfl) ⟨rfl, hrest⟩
    all_goals exact (h : False).elim
  refine c_seq ?_
  refine c_region ?_
  obtain ⟨w2, g2, ew2, eg2, hC2, hb2⟩ := new_block w [(.int .i64 op.1), (.slice pa0 pn0 pc0)] 24
  refine pl_val (w' := w2) (.pointer (some ⟨g2, 0, none⟩)) (y_box rfl (by rw [ew2, eg2]; kernel_rfl)) ?_
  have h0 := h0.ext hC2
  have hC := hC.ext hC2
  have hO := hO.new (X' := [g2]) hC2 (fun q hq => by rw [List.mem_singleton.1 hq, eg2]; exact Nat.le_refl _) (List.nodup_cons.2 ⟨(fun h => nomatch h), List.nodup_nil⟩) (fun q hq => by rw [List.mem_singleton.1 hq]; exact hb2.lt)
  refine pl_val (.int .i64 0) (y_assign rfl) ?_
  refine c_nil ?_
  refine c_seq ?_
  refine c_region ?_
  refine pl_val (.pointer (some ⟨g2, 1, none⟩)) (y_faddr rfl Fa24x1) ?_
  refine pl_val (.slice pa0 pn0 pc0) (y_load rfl ((box_load Ag22 Sz22 hb2 [(.int .i64 op.1)] [(.slice pa0 pn0 pc0)] [] rfl rfl (fun _ => rfl)) _ (Chg.refl _ _))) ?_
  refine pl_val (.int .i64 x_) (y_move rfl) ?_
  refine pl_val (.int .i64 n) (y_move rfl) ?_
  refine pl_val (.int .i64 (w64 (x_ * n))) (y_mul rfl rfl) ?_
  refine pl_val (.int .i64 y) (y_move rfl) ?_
  refine pl_val (.int .i64 (w64 ((w64 (x_ * n)) + y))) (y_add rfl rfl) ?_
  refine pl_val (.int .i64 n) (y_move rfl) ?_
  refine pl_val (.int .i64 (w64 ((w64 ((w64 (x_ * n)) + y)) * n))) (y_mul rfl rfl) ?_
  refine pl_val (.int .i64 z) (y_move rfl) ?_
  refine pl_val (.int .i64 (w64 ((w64 ((w64 ((w64 (x_ * n)) + y)) * n)) + z))) (y_add rfl rfl) ?_
  obtain ⟨x3, hx3, hs⟩ := bind_some hs
  obtain ⟨b4, o4, hp4, ha4⟩ := rs_idx Sl22 Sz3 h0 hx3
  refine pl_val (.pointer (some ⟨b4, o4, none⟩)) (hp4 _ _ _ _ _ _ _ _ _ rfl rfl) ?_
  refine pl_val (.int .i64 x3) (y_load rfl ((at_load_int Ag3 Sz3 ha4) _ (Chg.refl _ _))) ?_
  refine pl_val (.int .i64 x3) (y_assign rfl) ?_
  refine c_nil ?_
  refine wp_ret ?_
  cases hs
  exact ⟨_, fr_ovl 24 ⟨rfl, trivial⟩, hC⟩

theorem Bd40 : Bodied Try.prog 40 := bodied Try.func40 (by kernel_rfl) rfl

theorem Bd52 : Bodied Try.prog 52 := bodied Try.func52 (by kernel_rfl) rfl

def k_spec_IsPixleyOp (M : Nat → Prop) (w0 : World) (r : Bool × Bool) (a : Act) (w : World) : Prop :=
  ∃ (σ : Nat → Value) , a = fr 53 (ovl σ [(4, (.bool r.1)), (5, (.bool r.2))]) ∧ Chg [] w0 w
def s_spec_IsPixleyOp (n : Int) (op : Int × (List Int)) : Option (Bool × Bool) :=
  (s_spec_l18Takes n (op.1, op.2)).bind fun r4 =>
  (bif (!r4) then some (false, false) else (bif (op.1 != 3) then some (false, true) else (forC (S := Unit) (R := Bool × Bool) (fun k39 s37 =>
  (forC (S := Unit) (R := Bool × Bool) (fun k57 s55 =>
  ((s_spec_l18At n (op.1, op.2) k39 k57 k57).bind fun r65 =>
  (bif (r65 != k39) then some true else (s_spec_l18At n (op.1, op.2) k39 k57 k39).bind fun r68 =>
  (bif (r68 != k39) then some true else (s_spec_l18At n (op.1, op.2) k39 k39 k57).bind fun r71 =>
  some (r71 != k57)))).bind fun s61 =>
  (bif s61 then some (.rt (false, true)) else some (.nx ()))) 0 n ()).bind fun o59 => after o59 (fun r_ => some (.rt r_)) (fun s55 =>
  some (.nx ()))) 0 n ()).bind fun o41 => after o41 (fun r_ => some r_) (fun s37 =>
  some (true, true))))
set_option maxHeartbeats 4000000 in
theorem c_spec_IsPixleyOp {M : Nat → Prop} {w : World} {pa0 : Option Addr} {pn0 pc0 : Nat} (n : Int) (op : Int × (List Int)) (h0 : (RT.rs (RT.int .i64)).val M w (.slice pa0 pn0 pc0) op.2 ([])) (hM : ∀ g, w.heap.size ≤ g → M g) {r : Bool × Bool} (hs : s_spec_IsPixleyOp n op = some r) :
    Gives Try.prog 29 [(.int .i64 n), (.agg #[(.int .i64 op.1), (.slice pa0 pn0 pc0)])] w (fun v w' => v = (.tuple #[(.bool r.1), (.bool r.2)]) ∧ Chg [] w w') := by
  refine calls_fr Try.func29 rfl Try.ntmps29 (Nat.le_of_ble_eq_true rfl) ?_
  have hO := Own.start (N := Nw w []) hM Nw.fut
  have hC := Chg.refl [] w
  unfold s_spec_IsPixleyOp at hs
  refine wp_mono (Q := KPost (k_spec_IsPixleyOp M w r)) ?_ (fun e a w1 h => ?_)
  rotate_left
  · cases e
    case ret =>
      obtain ⟨σ, rfl, hrest⟩ := h
      exact ret2x Try.results29 (res_tmp rfl) (res_tmp rfl) ⟨rfl, hrest⟩
    all_goals exact (h : False).elim
  refine c_seq ?_
  refine c_region ?_
  obtain ⟨w2, g2, ew2, eg2, hC2, hb2⟩ := new_block w [(.int .i64 op.1), (.slice pa0 pn0 pc0)] 24
  refine pl_val (w' := w2) (.pointer (some ⟨g2, 0, none⟩)) (y_box rfl (by rw [ew2, eg2]; kernel_rfl)) ?_
  have h0 := h0.ext hC2
  have hC := hC.ext hC2
  have hO := hO.new (X' := [g2]) hC2 (fun q hq => by rw [List.mem_singleton.1 hq, eg2]; exact Nat.le_refl _) (List.nodup_cons.2 ⟨(fun h => nomatch h), List.nodup_nil⟩) (fun q hq => by rw [List.mem_singleton.1 hq]; exact hb2.lt)
  refine pl_val (.bool false) (y_assign rfl) ?_
  refine pl_val (.bool false) (y_assign rfl) ?_
  refine c_nil ?_
  refine c_seq ?_
  refine c_seq ?_
  refine c_region ?_
  refine pl_val (.int .i64 n) (y_move rfl) ?_
  refine pl_val (.agg #[(.int .i64 op.1), (.slice pa0 pn0 pc0)]) (y_load rfl ((box_load Ag24 Sz24 hb2 [] [(.int .i64 op.1), (.slice pa0 pn0 pc0)] [] rfl rfl (fun h => nomatch h)) _ (Chg.refl _ _))) ?_
  obtain ⟨r4, hr4, hs⟩ := bind_some hs
  refine pl_call Bd40 rfl (c_spec_l18Takes (M := M) n (op.1, op.2) h0 hO.fut hr4) ?_
  rintro _ w3 ⟨rfl, hC3⟩
  have h0 := h0.ext hC3
  have hb2 := hb2.chg hC3 (fun h => nomatch h)
  have hC := hC.ext hC3
  have hO := hO.ext hC3
  refine pl_val (.bool (!r4)) (y_not rfl) ?_
  refine c_nil ?_
  rcases bif_some hs with ⟨hc5, hs⟩ | ⟨hc5, hs⟩
  · skip
    refine c_condT (congrArg Value.bool hc5) ?_
    refine c_seq ?_
    refine c_region ?_
    refine pl_val (.bool false) (y_assign rfl) ?_
    refine pl_val (.bool false) (y_assign rfl) ?_
    refine c_nil ?_
    refine wp_ret ?_
    cases hs
    exact ⟨_, fr_ovl 53 ⟨rfl, rfl, trivial⟩, hC⟩
  · skip
    refine c_condF (congrArg Value.bool hc5) ?_
    refine wp_skip ?_
    refine c_seq ?_
    refine c_seq ?_
    refine c_region ?_
    refine pl_val (.pointer (some ⟨g2, 0, none⟩)) (y_faddr rfl Fa24x0) ?_
    refine pl_val (.int .i64 op.1) (y_load rfl ((box_load Ag3 Sz3 hb2 [] [(.int .i64 op.1)] [(.slice pa0 pn0 pc0)] rfl rfl (fun _ => rfl)) _ (Chg.refl _ _))) ?_
    refine pl_val (.bool (op.1 != 3)) (y_neq rfl rfl) ?_
    refine c_nil ?_
    rcases bif_some hs with ⟨hc6, hs⟩ | ⟨hc6, hs⟩
    · skip
      refine c_condT (congrArg Value.bool hc6) ?_
      refine c_seq ?_
      refine c_region ?_
      refine pl_val (.bool false) (y_assign rfl) ?_
      refine pl_val (.bool true) (y_assign rfl) ?_
      refine c_nil ?_
      refine wp_ret ?_
      cases hs
      exact ⟨_, fr_ovl 53 ⟨rfl, rfl, trivial⟩, hC⟩
    · skip
      refine c_condF (congrArg Value.bool hc6) ?_
      refine wp_skip ?_
      refine c_seq ?_
      refine c_seq ?_
      refine c_region ?_
      refine pl_val (.int .i64 0) (y_assign rfl) ?_
      refine c_nil ?_
      obtain ⟨o41, hl42, hs⟩ := bind_some hs
      refine wp_block ?_
      refine wp_forC (id := 0) n (I := fun k39 s37 a w38 => ∃ (σ : Nat → Value), a = fr 53 (ovl σ [(0, (.int .i64 n)), (3, (.pointer (some ⟨g2, 0, none⟩))), (6, (.int .i64 k39))]) ∧ Chg [] w w38 ∧ Own (Nw w []) M w38 (([g2]) ++ []) ∧ (RT.rs (RT.int .i64)).val M w38 (.slice pa0 pn0 pc0) op.2 ([]) ∧ BoxV w38 g2 24 [(.int .i64 op.1), (.slice pa0 pn0 pc0)]) (J := fun s37 a w38 => ∃ (σ : Nat → Value), a = fr 53 (ovl σ []) ∧ Chg [] w w38 ∧ Own (Nw w []) M w38 (([g2]) ++ []) ∧ (RT.rs (RT.int .i64)).val M w38 (.slice pa0 pn0 pc0) op.2 ([]) ∧ BoxV w38 g2 24 [(.int .i64 op.1), (.slice pa0 pn0 pc0)]) (K := (k_spec_IsPixleyOp M w)) ?_ ?_ 0 () o41 _ _ ?_ hl42 ?_
      · rintro k39 s37 a w38 ⟨σ, rfl, hC, hO, h0, hb2⟩ hlt
        refine c_seq ?_
        refine c_seq ?_
        refine c_region ?_
        refine pl_val (.int .i64 k39) (y_move rfl) ?_
        refine pl_val (.int .i64 n) (y_move rfl) ?_
        refine pl_val (.bool (decide (k39 < n))) (y_lss rfl rfl) ?_
        refine c_nil ?_
        refine c_condF (congrArg Value.bool (decide_eq_false hlt)) ?_
        refine wp_exit ?_
        exact ⟨rfl, _, fr_ovl 53 trivial, hC, hO, h0, hb2⟩
      · rintro k39 s37 o41 a w38 ⟨σ, rfl, hC, hO, h0, hb2⟩ hlt hw hs
        refine c_seq ?_
        refine c_seq ?_
        refine c_region ?_
        refine pl_val (.int .i64 k39) (y_move rfl) ?_
        refine pl_val (.int .i64 n) (y_move rfl) ?_
        refine pl_val (.bool (decide (k39 < n))) (y_lss rfl rfl) ?_
        refine c_nil ?_
        refine c_condT (congrArg Value.bool (decide_eq_true hlt)) ?_
        refine wp_skip ?_
        refine c_seq ?_
        refine wp_block ?_
        refine c_seq ?_
        refine c_region ?_
        refine pl_val (.int .i64 0) (y_assign rfl) ?_
        refine c_nil ?_
        obtain ⟨o59, hl60, hs⟩ := bind_some hs
        refine wp_block ?_
        refine wp_forC (id := 2) n (I := fun k57 s55 a w56 => ∃ (σ : Nat → Value), a = fr 53 (ovl σ [(0, (.int .i64 n)), (3, (.pointer (some ⟨g2, 0, none⟩))), (6, (.int .i64 k39)), (7, (.int .i64 k57))]) ∧ Chg [] w w56 ∧ Own (Nw w []) M w56 (([g2]) ++ []) ∧ (RT.rs (RT.int .i64)).val M w56 (.slice pa0 pn0 pc0) op.2 ([]) ∧ BoxV w56 g2 24 [(.int .i64 op.1), (.slice pa0 pn0 pc0)]) (J := fun s55 a w56 => ∃ (σ : Nat → Value), a = fr 53 (ovl σ [(0, (.int .i64 n)), (3, (.pointer (some ⟨g2, 0, none⟩))), (6, (.int .i64 k39))]) ∧ Chg [] w w56 ∧ Own (Nw w []) M w56 (([g2]) ++ []) ∧ (RT.rs (RT.int .i64)).val M w56 (.slice pa0 pn0 pc0) op.2 ([]) ∧ BoxV w56 g2 24 [(.int .i64 op.1), (.slice pa0 pn0 pc0)]) (K := (k_spec_IsPixleyOp M w)) ?_ ?_ 0 () o59 _ _ ?_ hl60 ?_
        · rintro k57 s55 a w56 ⟨σ, rfl, hC, hO, h0, hb2⟩ hlt
          refine c_seq ?_
          refine c_seq ?_
          refine c_region ?_
          refine pl_val (.int .i64 k57) (y_move rfl) ?_
          refine pl_val (.int .i64 n) (y_move rfl) ?_
          refine pl_val (.bool (decide (k57 < n))) (y_lss rfl rfl) ?_
          refine c_nil ?_
          refine c_condF (congrArg Value.bool (decide_eq_false hlt)) ?_
          refine wp_exit ?_
          exact ⟨rfl, _, fr_ovl 53 ⟨rfl, rfl, rfl, trivial⟩, hC, hO, h0, hb2⟩
        · rintro k57 s55 o59 a w56 ⟨σ, rfl, hC, hO, h0, hb2⟩ hlt hw hs
          refine c_seq ?_
          refine c_seq ?_
          refine c_region ?_
          refine pl_val (.int .i64 k57) (y_move rfl) ?_
          refine pl_val (.int .i64 n) (y_move rfl) ?_
          refine pl_val (.bool (decide (k57 < n))) (y_lss rfl rfl) ?_
          refine c_nil ?_
          refine c_condT (congrArg Value.bool (decide_eq_true hlt)) ?_
          refine wp_skip ?_
          refine c_seq ?_
          refine wp_block ?_
          refine c_seq ?_
          obtain ⟨s61, hm63, hs⟩ := bind_some hs
          refine c_mid (I := fun a w62 => ∃ (σ : Nat → Value), a = fr 53 (ovl σ [(0, (.int .i64 n)), (3, (.pointer (some ⟨g2, 0, none⟩))), (6, (.int .i64 k39)), (7, (.int .i64 k57)), (52, (.bool s61))]) ∧ Chg [] w56 w62) ?_ ?_
          · replace hs := hm63
            have hMid := Chg.refl [] w56
            refine c_region ?_
            refine pl_val (.int .i64 n) (y_move rfl) ?_
            refine pl_val (.agg #[(.int .i64 op.1), (.slice pa0 pn0 pc0)]) (y_load rfl ((box_load Ag24 Sz24 hb2 [] [(.int .i64 op.1), (.slice pa0 pn0 pc0)] [] rfl rfl (fun h => nomatch h)) _ (Chg.refl _ _))) ?_
            refine pl_val (.int .i64 k39) (y_move rfl) ?_
            refine pl_val (.int .i64 k57) (y_move rfl) ?_
            refine pl_val (.int .i64 k57) (y_move rfl) ?_
            obtain ⟨r65, hr65, hs⟩ := bind_some hs
            refine pl_call Bd52 rfl (c_spec_l18At (M := M) n (op.1, op.2) k39 k57 k57 h0 hO.fut hr65) ?_
            rintro _ w64 ⟨rfl, hC64⟩
            have h0 := h0.ext hC64
            have hb2 := hb2.chg hC64 (fun h => nomatch h)
            have hMid := hMid.ext hC64
            have hC := hC.ext hC64
            have hO := hO.ext hC64
            refine pl_val (.int .i64 k39) (y_move rfl) ?_
            refine pl_val (.bool (r65 != k39)) (y_neq rfl rfl) ?_
            refine pl_val (.bool (r65 != k39)) (y_move rfl) ?_
            rcases bif_some hs with ⟨hc66, hs⟩ | ⟨hc66, hs⟩
            · skip
              refine pl_not (tg := 33) (by kernel_rfl) (congrArg Value.bool hc66) ?_
              refine pl_not (tg := 33) (by kernel_rfl) (congrArg Value.bool hc66) ?_
              refine pl_not (tg := 33) (by kernel_rfl) (congrArg Value.bool hc66) ?_
              refine pl_not (tg := 33) (by kernel_rfl) (congrArg Value.bool hc66) ?_
              refine pl_not (tg := 33) (by kernel_rfl) (congrArg Value.bool hc66) ?_
              refine pl_not (tg := 33) (by kernel_rfl) (congrArg Value.bool hc66) ?_
              refine pl_not (tg := 33) (by kernel_rfl) (congrArg Value.bool hc66) ?_
              refine pl_not (tg := 33) (by kernel_rfl) (congrArg Value.bool hc66) ?_
              refine pl_val (.bool true) (y_pick_t (congrArg Value.bool hc66) rfl) ?_
              refine pl_val (.bool true) (y_move rfl) ?_
              refine pl_not (tg := 43) (by kernel_rfl) (by rfl) ?_
              refine pl_not (tg := 43) (by kernel_rfl) (by rfl) ?_
              refine pl_not (tg := 43) (by kernel_rfl) (by rfl) ?_
              refine pl_not (tg := 43) (by kernel_rfl) (by rfl) ?_
              refine pl_not (tg := 43) (by kernel_rfl) (by rfl) ?_
              refine pl_not (tg := 43) (by kernel_rfl) (by rfl) ?_
              refine pl_not (tg := 43) (by kernel_rfl) (by rfl) ?_
              refine pl_not (tg := 43) (by kernel_rfl) (by rfl) ?_
              refine pl_val (.bool true) (y_pick_t (by rfl) rfl) ?_
              refine c_nil ?_
              cases hs
              exact ⟨_, fr_ovl 53 ⟨rfl, rfl, rfl, rfl, rfl, trivial⟩, hMid⟩
            · skip
              refine pl_yes (.int .i64 n) (tg := 33) (by kernel_rfl) (congrArg Value.bool hc66) (y_move rfl) ?_
              refine pl_yes (.agg #[(.int .i64 op.1), (.slice pa0 pn0 pc0)]) (tg := 33) (by kernel_rfl) (congrArg Value.bool hc66) (y_load rfl ((box_load Ag24 Sz24 hb2 [] [(.int .i64 op.1), (.slice pa0 pn0 pc0)] [] rfl rfl (fun h => nomatch h)) _ (Chg.refl _ _))) ?_
              refine pl_yes (.int .i64 k39) (tg := 33) (by kernel_rfl) (congrArg Value.bool hc66) (y_move rfl) ?_
              refine pl_yes (.int .i64 k57) (tg := 33) (by kernel_rfl) (congrArg Value.bool hc66) (y_move rfl) ?_
              refine pl_yes (.int .i64 k39) (tg := 33) (by kernel_rfl) (congrArg Value.bool hc66) (y_move rfl) ?_
              obtain ⟨r68, hr68, hs⟩ := bind_some hs
              refine pl_cally (tg := 33) (by kernel_rfl) (congrArg Value.bool hc66) Bd52 rfl (c_spec_l18At (M := M) n (op.1, op.2) k39 k57 k39 h0 hO.fut hr68) ?_
              rintro _ w67 ⟨rfl, hC67⟩
              have h0 := h0.ext hC67
              have hb2 := hb2.chg hC67 (fun h => nomatch h)
              have hMid := hMid.ext hC67
              have hC := hC.ext hC67
              have hO := hO.ext hC67
              refine pl_yes (.int .i64 k39) (tg := 33) (by kernel_rfl) (congrArg Value.bool hc66) (y_move rfl) ?_
              refine pl_yes (.bool (r68 != k39)) (tg := 33) (by kernel_rfl) (congrArg Value.bool hc66) (y_neq rfl rfl) ?_
              refine pl_val (.bool (r68 != k39)) (y_pick_f (congrArg Value.bool hc66) rfl) ?_
              refine pl_val (.bool (r68 != k39)) (y_move rfl) ?_
              rcases bif_some hs with ⟨hc69, hs⟩ | ⟨hc69, hs⟩
              · skip
                refine pl_not (tg := 43) (by kernel_rfl) (congrArg Value.bool hc69) ?_
                refine pl_not (tg := 43) (by kernel_rfl) (congrArg Value.bool hc69) ?_
                refine pl_not (tg := 43) (by kernel_rfl) (congrArg Value.bool hc69) ?_
                refine pl_not (tg := 43) (by kernel_rfl) (congrArg Value.bool hc69) ?_
                refine pl_not (tg := 43) (by kernel_rfl) (congrArg Value.bool hc69) ?_
                refine pl_not (tg := 43) (by kernel_rfl) (congrArg Value.bool hc69) ?_
                refine pl_not (tg := 43) (by kernel_rfl) (congrArg Value.bool hc69) ?_
                refine pl_not (tg := 43) (by kernel_rfl) (congrArg Value.bool hc69) ?_
                refine pl_val (.bool true) (y_pick_t (congrArg Value.bool hc69) rfl) ?_
                refine c_nil ?_
                cases hs
                exact ⟨_, fr_ovl 53 ⟨rfl, rfl, rfl, rfl, rfl, trivial⟩, hMid⟩
              · skip
                refine pl_yes (.int .i64 n) (tg := 43) (by kernel_rfl) (congrArg Value.bool hc69) (y_move rfl) ?_
                refine pl_yes (.agg #[(.int .i64 op.1), (.slice pa0 pn0 pc0)]) (tg := 43) (by kernel_rfl) (congrArg Value.bool hc69) (y_load rfl ((box_load Ag24 Sz24 hb2 [] [(.int .i64 op.1), (.slice pa0 pn0 pc0)] [] rfl rfl (fun h => nomatch h)) _ (Chg.refl _ _))) ?_
                refine pl_yes (.int .i64 k39) (tg := 43) (by kernel_rfl) (congrArg Value.bool hc69) (y_move rfl) ?_
                refine pl_yes (.int .i64 k39) (tg := 43) (by kernel_rfl) (congrArg Value.bool hc69) (y_move rfl) ?_
                refine pl_yes (.int .i64 k57) (tg := 43) (by kernel_rfl) (congrArg Value.bool hc69) (y_move rfl) ?_
                obtain ⟨r71, hr71, hs⟩ := bind_some hs
                refine pl_cally (tg := 43) (by kernel_rfl) (congrArg Value.bool hc69) Bd52 rfl (c_spec_l18At (M := M) n (op.1, op.2) k39 k39 k57 h0 hO.fut hr71) ?_
                rintro _ w70 ⟨rfl, hC70⟩
                have h0 := h0.ext hC70
                have hb2 := hb2.chg hC70 (fun h => nomatch h)
                have hMid := hMid.ext hC70
                have hC := hC.ext hC70
                have hO := hO.ext hC70
                refine pl_yes (.int .i64 k57) (tg := 43) (by kernel_rfl) (congrArg Value.bool hc69) (y_move rfl) ?_
                refine pl_yes (.bool (r71 != k57)) (tg := 43) (by kernel_rfl) (congrArg Value.bool hc69) (y_neq rfl rfl) ?_
                refine pl_val (.bool (r71 != k57)) (y_pick_f (congrArg Value.bool hc69) rfl) ?_
                refine c_nil ?_
                cases hs
                exact ⟨_, fr_ovl 53 ⟨rfl, rfl, rfl, rfl, rfl, trivial⟩, hMid⟩
          · rintro a1 w62 ⟨σ, rfl, hCs61⟩
            have h0 := h0.ext hCs61
            have hb2 := hb2.chg hCs61 (fun h => nomatch h)
            have hC := hC.ext hCs61
            have hO := hO.ext hCs61
            rcases bif_some hs with ⟨hc72, hs⟩ | ⟨hc72, hs⟩
            · skip
              refine c_condT (congrArg Value.bool hc72) ?_
              refine c_seq ?_
              refine c_region ?_
              refine pl_val (.bool false) (y_assign rfl) ?_
              refine pl_val (.bool true) (y_assign rfl) ?_
              refine c_nil ?_
              refine wp_ret ?_
              cases hs
              exact ⟨_, fr_ovl 53 ⟨rfl, rfl, trivial⟩, hC⟩
            · skip
              refine c_condF (congrArg Value.bool hc72) ?_
              refine wp_skip ?_
              refine c_region ?_
              refine pl_val (.int .i64 k57) (y_move rfl) ?_
              refine pl_val (.int .i64 (w64 (k57 + 1))) (y_add rfl rfl) ?_
              refine pl_val (.int .i64 (w64 (k57 + 1))) (y_assign rfl) ?_
              refine c_nil ?_
              cases hs
              exact ⟨_, fr_ovl 53 ⟨rfl, rfl, rfl, congrArg (Value.int .i64) hw, trivial⟩, hC, hO, h0, hb2⟩
        · skip
          exact ⟨_, fr_ovl 53 ⟨rfl, rfl, rfl, rfl, trivial⟩, hC, hO, h0, hb2⟩
        · cases o59 with
          | nx _ => exact True.intro
          | rt r_ =>
            have hs := after_rt hs
            intro a1 w1 hK
            cases hs
            exact hK
          | br s55 =>
            have hs := after_br hs
            rintro a1 w56 ⟨σ, rfl, hC, hO, h0, hb2⟩
            refine c_region ?_
            refine pl_val (.int .i64 k39) (y_move rfl) ?_
            refine pl_val (.int .i64 (w64 (k39 + 1))) (y_add rfl rfl) ?_
            refine pl_val (.int .i64 (w64 (k39 + 1))) (y_assign rfl) ?_
            refine c_nil ?_
            cases hs
            exact ⟨_, fr_ovl 53 ⟨rfl, rfl, congrArg (Value.int .i64) hw, trivial⟩, hC, hO, h0, hb2⟩
      · skip
        exact ⟨_, fr_ovl 53 ⟨rfl, rfl, rfl, trivial⟩, hC, hO, h0, hb2⟩
      · cases o41 with
        | nx _ => exact True.intro
        | rt r_ =>
          have hs := after_rt hs
          intro a1 w1 hK
          cases hs
          exact hK
        | br s37 =>
          have hs := after_br hs
          rintro a1 w38 ⟨σ, rfl, hC, hO, h0, hb2⟩
          refine c_seq ?_
          refine c_region ?_
          refine pl_val (.bool true) (y_assign rfl) ?_
          refine pl_val (.bool true) (y_assign rfl) ?_
          refine c_nil ?_
          refine wp_ret ?_
          cases hs
          exact ⟨_, fr_ovl 53 ⟨rfl, rfl, trivial⟩, hC⟩

def k_impl_isSize (M : Nat → Prop) (w0 : World) (r : Bool) (a : Act) (w : World) : Prop :=
  ∃ (σ : Nat → Value) , a = fr 9 (ovl σ [(2, (.bool r))]) ∧ Chg [] w0 w
def s_impl_isSize (n : Int) : Option (Bool) :=
  (bif (decide (1 ≤ n)) then some (decide (n ≤ 8)) else some false)
set_option maxHeartbeats 4000000 in
theorem c_impl_isSize {M : Nat → Prop} {w : World}  (n : Int)  (hM : ∀ g, w.heap.size ≤ g → M g) {r : Bool} (hs : s_impl_isSize n = some r) :
    Gives Try.prog 33 [(.int .i64 n)] w (fun v w' => v = (.bool r) ∧ Chg [] w w') := by
  refine calls_fr Try.func33 rfl Try.ntmps33 (Nat.le_of_ble_eq_true rfl) ?_
  have hO := Own.start (N := Nw w []) hM Nw.fut
  have hC := Chg.refl [] w
  unfold s_impl_isSize at hs
  refine wp_mono (Q := KPost (k_impl_isSize M w r)) ?_ (fun e a w1 h => ?_)
  rotate_left
  · cases e
    case ret =>
      obtain ⟨σ, rfl, hrest⟩ := h
      exact ret1x Try.results33 (res_tmp rfl) ⟨rfl, hrest⟩
    all_goals exact (h : False).elim
  refine c_seq ?_
  refine c_region ?_
  refine pl_val (.bool false) (y_assign rfl) ?_
  refine c_nil ?_
  refine c_seq ?_
  refine c_region ?_
  refine pl_val (.int .i64 n) (y_move rfl) ?_
  refine pl_val (.bool (decide (1 ≤ n))) (y_geq rfl rfl) ?_
  refine pl_val (.bool (decide (1 ≤ n))) (y_move rfl) ?_
  rcases bif_some hs with ⟨hc1, hs⟩ | ⟨hc1, hs⟩
  · skip
    refine pl_yes (.int .i64 n) (tg := 5) (by kernel_rfl) (congrArg Value.bool hc1) (y_move rfl) ?_
    refine pl_yes (.bool (decide (n ≤ 8))) (tg := 5) (by kernel_rfl) (congrArg Value.bool hc1) (y_leq rfl rfl) ?_
    refine pl_val (.bool (decide (n ≤ 8))) (y_pick_t (congrArg Value.bool hc1) rfl) ?_
    refine pl_val (.bool (decide (n ≤ 8))) (y_assign rfl) ?_
    refine c_nil ?_
    refine wp_ret ?_
    cases hs
    exact ⟨_, fr_ovl 9 ⟨rfl, trivial⟩, hC⟩
  · skip
    refine pl_not (tg := 5) (by kernel_rfl) (congrArg Value.bool hc1) ?_
    refine pl_not (tg := 5) (by kernel_rfl) (congrArg Value.bool hc1) ?_
    refine pl_val (.bool false) (y_pick_f (congrArg Value.bool hc1) rfl) ?_
    refine pl_val (.bool false) (y_assign rfl) ?_
    refine c_nil ?_
    refine wp_ret ?_
    cases hs
    exact ⟨_, fr_ovl 9 ⟨rfl, trivial⟩, hC⟩

def k_impl_power (M : Nat → Prop) (w0 : World) (r : Int) (a : Act) (w : World) : Prop :=
  ∃ (σ : Nat → Value) , a = fr 14 (ovl σ [(4, (.int .i64 r))]) ∧ Chg [] w0 w
def s_impl_power (n : Int) (k : Int) : Option (Int) :=
  (iter (S := Int × Int) (R := Int) (fun s2 =>
  (bif (decide (0 < s2.1)) then some (.nx (w64 (s2.1 - 1), w64 (s2.2 * n))) else some (.br (s2.1, s2.2)))) FU (k, 1)).bind fun o6 => after o6 (fun r_ => some r_) (fun s2 =>
  some s2.2)
set_option maxHeartbeats 4000000 in
theorem c_impl_power {M : Nat → Prop} {w : World}  (n : Int) (k : Int)  (hM : ∀ g, w.heap.size ≤ g → M g) {r : Int} (hs : s_impl_power n k = some r) :
    Gives Try.prog 59 [(.int .i64 n), (.int .i64 k)] w (fun v w' => v = (.int .i64 r) ∧ Chg [] w w') := by
  refine calls_fr Try.func59 rfl Try.ntmps59 (Nat.le_of_ble_eq_true rfl) ?_
  have hO := Own.start (N := Nw w []) hM Nw.fut
  have hC := Chg.refl [] w
  unfold s_impl_power at hs
  refine wp_mono (Q := KPost (k_impl_power M w r)) ?_ (fun e a w1 h => ?_)
  rotate_left
  · cases e
    case ret =>
      obtain ⟨σ, rfl, hrest⟩ := h
      exact ret1x Try.results59 (res_tmp rfl) ⟨rfl, hrest⟩
    all_goals exact (h : False).elim
  refine c_seq ?_
  refine c_region ?_
  refine pl_val (.int .i64 0) (y_assign rfl) ?_
  refine c_nil ?_
  refine c_seq ?_
  refine c_region ?_
  refine pl_val (.int .i64 1) (y_assign rfl) ?_
  refine c_nil ?_
  refine c_seq ?_
  obtain ⟨o6, hl7, hs⟩ := bind_some hs
  refine wp_block ?_
  refine wp_iter (id := 0) (I := fun s2 a w3 => ∃ (σ : Nat → Value), a = fr 14 (ovl σ [(0, (.int .i64 n)), (1, (.int .i64 s2.1)), (5, (.int .i64 s2.2))]) ∧ Chg [] w w3 ∧ Own (Nw w []) M w3 ([])) (J := fun s2 a w3 => ∃ (σ : Nat → Value), a = fr 14 (ovl σ [(5, (.int .i64 s2.2))]) ∧ Chg [] w w3 ∧ Own (Nw w []) M w3 ([])) (K := (k_impl_power M w)) ?_ FU (k, 1) o6 _ _ ?_ hl7 ?_
  · rintro s2 o6 a w3 ⟨σ, rfl, hC, hO⟩ hs
    refine c_seq ?_
    refine c_seq ?_
    refine c_region ?_
    refine pl_val (.int .i64 s2.1) (y_move rfl) ?_
    refine pl_val (.bool (decide (0 < s2.1))) (y_gtr rfl rfl) ?_
    refine c_nil ?_
    rcases bif_some hs with ⟨hc8, hs⟩ | ⟨hc8, hs⟩
    · skip
      refine c_condT (congrArg Value.bool hc8) ?_
      refine wp_skip ?_
      refine c_seq ?_
      refine wp_block ?_
      refine c_region ?_
      refine pl_val (.int .i64 s2.2) (y_move rfl) ?_
      refine pl_val (.int .i64 n) (y_move rfl) ?_
      refine pl_val (.int .i64 (w64 (s2.2 * n))) (y_mul rfl rfl) ?_
      refine pl_val (.int .i64 (w64 (s2.2 * n))) (y_assign rfl) ?_
      refine c_nil ?_
      refine c_region ?_
      refine pl_val (.int .i64 s2.1) (y_move rfl) ?_
      refine pl_val (.int .i64 (w64 (s2.1 - 1))) (y_sub rfl rfl) ?_
      refine pl_val (.int .i64 (w64 (s2.1 - 1))) (y_assign rfl) ?_
      refine c_nil ?_
      cases hs
      exact ⟨_, fr_ovl 14 ⟨rfl, rfl, rfl, trivial⟩, hC, hO⟩
    · skip
      refine c_condF (congrArg Value.bool hc8) ?_
      refine wp_exit ?_
      cases hs
      exact ⟨rfl, _, fr_ovl 14 ⟨rfl, trivial⟩, hC, hO⟩
  · skip
    exact ⟨_, fr_ovl 14 ⟨rfl, rfl, rfl, trivial⟩, hC, hO⟩
  · cases o6 with
    | nx _ => exact True.intro
    | rt r_ =>
      have hs := after_rt hs
      intro a1 w1 hK
      cases hs
      exact hK
    | br s2 =>
      have hs := after_br hs
      rintro a1 w3 ⟨σ, rfl, hC, hO⟩
      refine c_seq ?_
      refine c_region ?_
      refine pl_val (.int .i64 s2.2) (y_move rfl) ?_
      refine pl_val (.int .i64 s2.2) (y_assign rfl) ?_
      refine c_nil ?_
      refine wp_ret ?_
      cases hs
      exact ⟨_, fr_ovl 14 ⟨rfl, trivial⟩, hC⟩

def k_impl_inSize (M : Nat → Prop) (w0 : World) (r : Bool) (a : Act) (w : World) : Prop :=
  ∃ (σ : Nat → Value) , a = fr 21 (ovl σ [(4, (.bool r))]) ∧ Chg [] w0 w
def s_impl_inSize (list : List Int) (n : Int) : Option (Bool) :=
  (forR (S := Unit) (R := Bool) (fun _ x8 s5 =>
  (bif (decide (x8 < 0)) then some (.rt false) else (bif (decide (n ≤ x8)) then some (.rt false) else some (.nx ())))) 0 list ()).bind fun o9 => after o9 (fun r_ => some r_) (fun s5 =>
  some true)
set_option maxHeartbeats 4000000 in
theorem c_impl_inSize {M : Nat → Prop} {w : World} {pa0 : Option Addr} {pn0 pc0 : Nat} (list : List Int) (n : Int) (h0 : (RT.rs (RT.int .i64)).val M w (.slice pa0 pn0 pc0) list ([])) (hM : ∀ g, w.heap.size ≤ g → M g) {r : Bool} (hs : s_impl_inSize list n = some r) :
    Gives Try.prog 60 [(.slice pa0 pn0 pc0), (.int .i64 n)] w (fun v w' => v = (.bool r) ∧ Chg [] w w') := by
  refine calls_fr Try.func60 rfl Try.ntmps60 (Nat.le_of_ble_eq_true rfl) ?_
  have hO := Own.start (N := Nw w []) hM Nw.fut
  have hC := Chg.refl [] w
  unfold s_impl_inSize at hs
  refine wp_mono (Q := KPost (k_impl_inSize M w r)) ?_ (fun e a w1 h => ?_)
  rotate_left
  · cases e
    case ret =>
      obtain ⟨σ, rfl, hrest⟩ := h
      exact ret1x Try.results60 (res_tmp rfl) ⟨rfl, hrest⟩
    all_goals exact (h : False).elim
  refine c_seq ?_
  refine c_region ?_
  refine pl_val (.bool false) (y_assign rfl) ?_
  refine c_nil ?_
  refine c_seq ?_
  refine c_seq ?_
  refine c_region ?_
  refine pl_val (.slice pa0 pn0 pc0) (y_move rfl) ?_
  refine pl_val (.int .i64 (list.length : Int)) (y_len' Sl22 (rs_len h0) rfl) ?_
  refine pl_val (.int .i64 0) (y_move rfl) ?_
  refine c_nil ?_
  obtain ⟨o9, hl10, hs⟩ := bind_some hs
  refine wp_block ?_
  refine wp_forR (id := 0) (I := fun i_ xs_ s5 a w6 => ∃ k7 : Nat, i_ = (k7 : Int) ∧ List.drop k7 list = xs_ ∧ (∃ (σ : Nat → Value), a = fr 21 (ovl σ [(1, (.int .i64 n)), (7, (.slice pa0 pn0 pc0)), (8, (.int .i64 (list.length : Int))), (9, (.int .i64 (k7 : Int)))]) ∧ Chg [] w w6 ∧ Own (Nw w []) M w6 ([]) ∧ (RT.rs (RT.int .i64)).val M w6 (.slice pa0 pn0 pc0) list ([]))) (J := fun s5 a w6 => ∃ (σ : Nat → Value), a = fr 21 (ovl σ []) ∧ Chg [] w w6 ∧ Own (Nw w []) M w6 ([]) ∧ (RT.rs (RT.int .i64)).val M w6 (.slice pa0 pn0 pc0) list ([])) (K := (k_impl_inSize M w)) ?_ ?_ list 0 () o9 _ _ ?_ hl10 ?_
  · rintro _ s5 a w6 ⟨k7, rfl, hd, σ, rfl, hC, hO, h0⟩
    have hlt := drop_nil_ge hd
    refine c_seq ?_
    refine c_region ?_
    refine pl_val (.bool (decide ((k7 : Int) < (list.length : Int)))) (y_lss rfl rfl) ?_
    refine c_nil ?_
    refine c_seq ?_
    refine c_condF (congrArg Value.bool (decide_eq_false hlt)) ?_
    refine wp_exit ?_
    exact ⟨rfl, _, fr_ovl 21 trivial, hC, hO, h0⟩
  · rintro _ x8 xs_ s5 o9 a w6 ⟨k7, rfl, hd, σ, rfl, hC, hO, h0⟩ hs
    have hlt := drop_cons_lt hd
    have hxk7 := drop_cons_idx hd
    refine c_seq ?_
    refine c_region ?_
    refine pl_val (.bool (decide ((k7 : Int) < (list.length : Int)))) (y_lss rfl rfl) ?_
    refine c_nil ?_
    refine c_seq ?_
    refine c_condT (congrArg Value.bool (decide_eq_true hlt)) ?_
    refine wp_skip ?_
    refine c_seq ?_
    refine wp_block ?_
    refine c_seq ?_
    refine c_region ?_
    obtain ⟨b11, o11, hp11, ha11⟩ := rs_idx Sl22 Sz3 h0 hxk7
    refine pl_val (.pointer (some ⟨b11, o11, none⟩)) (hp11 _ _ _ _ _ _ _ _ _ rfl rfl) ?_
    refine pl_val (.int .i64 x8) (y_load rfl ((at_load_int Ag3 Sz3 ha11) _ (Chg.refl _ _))) ?_
    refine pl_val (.int .i64 x8) (y_assign rfl) ?_
    refine c_nil ?_
    refine c_seq ?_
    refine c_region ?_
    refine pl_val (.int .i64 x8) (y_move rfl) ?_
    refine pl_val (.bool (decide (x8 < 0))) (y_lss rfl rfl) ?_
    refine pl_val (.bool (decide (x8 < 0))) (y_move rfl) ?_
    rcases bif_some hs with ⟨hc12, hs⟩ | ⟨hc12, hs⟩
    · skip
      refine pl_not (tg := 15) (by kernel_rfl) (congrArg Value.bool hc12) ?_
      refine pl_not (tg := 15) (by kernel_rfl) (congrArg Value.bool hc12) ?_
      refine pl_not (tg := 15) (by kernel_rfl) (congrArg Value.bool hc12) ?_
      refine pl_val (.bool true) (y_pick_t (congrArg Value.bool hc12) rfl) ?_
      refine c_nil ?_
      refine c_condT (by rfl) ?_
      refine c_seq ?_
      refine c_region ?_
      refine pl_val (.bool false) (y_assign rfl) ?_
      refine c_nil ?_
      refine wp_ret ?_
      cases hs
      exact ⟨_, fr_ovl 21 ⟨rfl, trivial⟩, hC⟩
    · skip
      refine pl_yes (.int .i64 x8) (tg := 15) (by kernel_rfl) (congrArg Value.bool hc12) (y_move rfl) ?_
      refine pl_yes (.int .i64 n) (tg := 15) (by kernel_rfl) (congrArg Value.bool hc12) (y_move rfl) ?_
      refine pl_yes (.bool (decide (n ≤ x8))) (tg := 15) (by kernel_rfl) (congrArg Value.bool hc12) (y_geq rfl rfl) ?_
      refine pl_val (.bool (decide (n ≤ x8))) (y_pick_f (congrArg Value.bool hc12) rfl) ?_
      refine c_nil ?_
      rcases bif_some hs with ⟨hc13, hs⟩ | ⟨hc13, hs⟩
      · skip
        refine c_condT (congrArg Value.bool hc13) ?_
        refine c_seq ?_
        refine c_region ?_
        refine pl_val (.bool false) (y_assign rfl) ?_
        refine c_nil ?_
        refine wp_ret ?_
        cases hs
        exact ⟨_, fr_ovl 21 ⟨rfl, trivial⟩, hC⟩
      · skip
        refine c_condF (congrArg Value.bool hc13) ?_
        refine wp_skip ?_
        refine c_region ?_
        refine pl_val (.int .i64 (w64 ((k7 : Int) + 1))) (y_add rfl rfl) ?_
        refine pl_val (.int .i64 (w64 ((k7 : Int) + 1))) (y_move rfl) ?_
        refine c_nil ?_
        cases hs
        exact ⟨_, rfl, drop_cons_next hd, _, fr_ovl 21 ⟨rfl, rfl, rfl, congrArg (Value.int .i64) (w64_succ hlt (Int.natCast_nonneg _) (rs_max h0)), trivial⟩, hC, hO, h0⟩
  · skip
    exact ⟨0, rfl, rfl, _, fr_ovl 21 ⟨rfl, rfl, rfl, rfl, trivial⟩, hC, hO, h0⟩
  · cases o9 with
    | nx _ => exact True.intro
    | rt r_ =>
      have hs := after_rt hs
      intro a1 w1 hK
      cases hs
      exact hK
    | br s5 =>
      have hs := after_br hs
      rintro a1 w6 ⟨σ, rfl, hC, hO, h0⟩
      refine c_seq ?_
      refine c_region ?_
      refine pl_val (.bool true) (y_assign rfl) ?_
      refine c_nil ?_
      refine wp_ret ?_
      cases hs
      exact ⟨_, fr_ovl 21 ⟨rfl, trivial⟩, hC⟩

theorem Bd59 : Bodied Try.prog 59 := bodied Try.func59 (by kernel_rfl) rfl

theorem Bd60 : Bodied Try.prog 60 := bodied Try.func60 (by kernel_rfl) rfl

def k_impl_isOp (M : Nat → Prop) (w0 : World) (r : Bool) (a : Act) (w : World) : Prop :=
  ∃ (σ : Nat → Value) , a = fr 29 (ovl σ [(4, (.bool r))]) ∧ Chg [] w0 w
def s_impl_isOp (f : Int × (List Int)) (n : Int) : Option (Bool) :=
  (bif (decide (0 ≤ f.1)) then (bif (decide (f.1 ≤ 3)) then (s_impl_power n f.1).bind fun r7 =>
  (bif ((f.2.length : Int) == r7) then (s_impl_inSize f.2 n).bind fun r10 =>
  some r10 else some false) else some false) else some false)
set_option maxHeartbeats 4000000 in
theorem c_impl_isOp {M : Nat → Prop} {w : World} {pa0 : Option Addr} {pn0 pc0 : Nat} (f : Int × (List Int)) (n : Int) (h0 : (RT.rs (RT.int .i64)).val M w (.slice pa0 pn0 pc0) f.2 ([])) (hM : ∀ g, w.heap.size ≤ g → M g) {r : Bool} (hs : s_impl_isOp f n = some r) :
    Gives Try.prog 42 [(.agg #[(.int .i64 f.1), (.slice pa0 pn0 pc0)]), (.int .i64 n)] w (fun v w' => v = (.bool r) ∧ Chg [] w w') := by
  refine calls_fr Try.func42 rfl Try.ntmps42 (Nat.le_of_ble_eq_true rfl) ?_
  have hO := Own.start (N := Nw w []) hM Nw.fut
  have hC := Chg.refl [] w
  unfold s_impl_isOp at hs
  refine wp_mono (Q := KPost (k_impl_isOp M w r)) ?_ (fun e a w1 h => ?_)
  rotate_left
  · cases e
    case ret =>
      obtain ⟨σ, rfl, hrest⟩ := h
      exact ret1x Try.results42 (res_tmp rfl) ⟨rfl, hrest⟩
    all_goals exact (h : False).elim
  refine c_seq ?_
  refine c_region ?_
  obtain ⟨w2, g2, ew2, eg2, hC2, hb2⟩ := new_block w [(.int .i64 f.1), (.slice pa0 pn0 pc0)] 24
  refine pl_val (w' := w2) (.pointer (some ⟨g2, 0, none⟩)) (y_box rfl (by rw [ew2, eg2]; kernel_rfl)) ?_
  have h0 := h0.ext hC2
  have hC := hC.ext hC2
  have hO := hO.new (X' := [g2]) hC2 (fun q hq => by rw [List.mem_singleton.1 hq, eg2]; exact Nat.le_refl _) (List.nodup_cons.2 ⟨(fun h => nomatch h), List.nodup_nil⟩) (fun q hq => by rw [List.mem_singleton.1 hq]; exact hb2.lt)
  refine pl_val (.bool false) (y_assign rfl) ?_
  refine c_nil ?_
  refine c_seq ?_
  refine x_start [] Mx rfl ?_
  have hCw3 := Chg.drew w2
  generalize World.drew w2 = w3 at hCw3 ⊢
  have h0 := h0.ext hCw3
  have hb2 := hb2.chg hCw3 (fun h => nomatch h)
  have hC := hC.ext hCw3
  have hO := hO.ext hCw3
  have hS := Chg.refl [] w3
  refine x_p 0 (.pointer (some ⟨g2, 0, none⟩)) rfl (by kernel_rfl)  (fun _ => y_faddr rfl Fa24x0) (fun _ => hS) ?_
  refine x_l 1 (.int .i64 f.1) rfl (by kernel_rfl)  (fun w' hw' => y_load rfl ((box_load Ag3 Sz3 hb2 [] [(.int .i64 f.1)] [(.slice pa0 pn0 pc0)] rfl rfl (fun _ => rfl)) w' hw')) hS ?_
  refine x_p 2 (.bool (decide (0 ≤ f.1))) rfl (by kernel_rfl)  (fun _ => y_geq rfl rfl) (fun _ => hS) ?_
  refine x_p 3 (.bool (decide (0 ≤ f.1))) rfl (by kernel_rfl)  (fun _ => y_move rfl) (fun _ => hS) ?_
  rcases bif_some hs with ⟨hc4, hs⟩ | ⟨hc4, hs⟩
  · skip
    refine x_py 4 (.pointer (some ⟨g2, 0, none⟩)) rfl (by kernel_rfl) (tg := 8) (by kernel_rfl) (congrArg Value.bool hc4) (fun _ => y_faddr rfl Fa24x0) (fun _ => hS) ?_
    refine x_ly 5 (.int .i64 f.1) rfl (by kernel_rfl) (tg := 8) (by kernel_rfl) (congrArg Value.bool hc4) (fun w' hw' => y_load rfl ((box_load Ag3 Sz3 hb2 [] [(.int .i64 f.1)] [(.slice pa0 pn0 pc0)] rfl rfl (fun _ => rfl)) w' hw')) hS ?_
    refine x_py 6 (.bool (decide (f.1 ≤ 3))) rfl (by kernel_rfl) (tg := 8) (by kernel_rfl) (congrArg Value.bool hc4) (fun _ => y_leq rfl rfl) (fun _ => hS) ?_
    refine x_p 7 (.bool (decide (f.1 ≤ 3))) rfl (by kernel_rfl)  (fun _ => y_pick_t (congrArg Value.bool hc4) rfl) (fun _ => hS) ?_
    refine x_p 8 (.bool (decide (f.1 ≤ 3))) rfl (by kernel_rfl)  (fun _ => y_move rfl) (fun _ => hS) ?_
    rcases bif_some hs with ⟨hc5, hs⟩ | ⟨hc5, hs⟩
    · skip
      refine x_py 9 (.pointer (some ⟨g2, 1, none⟩)) rfl (by kernel_rfl) (tg := 13) (by kernel_rfl) (congrArg Value.bool hc5) (fun _ => y_faddr rfl Fa24x1) (fun _ => hS) ?_
      refine x_ly 10 (.slice pa0 pn0 pc0) rfl (by kernel_rfl) (tg := 13) (by kernel_rfl) (congrArg Value.bool hc5) (fun w' hw' => y_load rfl ((box_load Ag22 Sz22 hb2 [(.int .i64 f.1)] [(.slice pa0 pn0 pc0)] [] rfl rfl (fun _ => rfl)) w' hw')) hS ?_
      refine x_py 11 (.int .i64 (f.2.length : Int)) rfl (by kernel_rfl) (tg := 13) (by kernel_rfl) (congrArg Value.bool hc5) (fun _ => y_len' Sl22 (rs_len h0) rfl) (fun _ => hS) ?_
      refine x_py 12 (.int .i64 n) rfl (by kernel_rfl) (tg := 13) (by kernel_rfl) (congrArg Value.bool hc5) (fun _ => y_move rfl) (fun _ => hS) ?_
      refine x_py 13 (.pointer (some ⟨g2, 0, none⟩)) rfl (by kernel_rfl) (tg := 13) (by kernel_rfl) (congrArg Value.bool hc5) (fun _ => y_faddr rfl Fa24x0) (fun _ => hS) ?_
      refine x_ly 14 (.int .i64 f.1) rfl (by kernel_rfl) (tg := 13) (by kernel_rfl) (congrArg Value.bool hc5) (fun w' hw' => y_load rfl ((box_load Ag3 Sz3 hb2 [] [(.int .i64 f.1)] [(.slice pa0 pn0 pc0)] rfl rfl (fun _ => rfl)) w' hw')) hS ?_
      refine x_one (i := 15) (by kernel_rfl) ?_
      obtain ⟨r7, hr7, hs⟩ := bind_some hs
      refine xk_cally (b := false) rfl (tg := 13) (by kernel_rfl) (congrArg Value.bool hc5) Bd59 rfl (c_impl_power (M := M) n f.1  hO.fut hr7) rfl (by rintro _ _ _ ⟨rfl, hC6⟩; exact hS.ext hC6) ?_
      rintro _ w6 ⟨rfl, hC6⟩
      have h0 := h0.ext hC6
      have hb2 := hb2.chg hC6 (fun h => nomatch h)
      have hC := hC.ext hC6
      have hO := hO.ext hC6
      have hS := hS.ext hC6
      refine x_py 16 (.bool ((f.2.length : Int) == r7)) rfl (by kernel_rfl) (tg := 13) (by kernel_rfl) (congrArg Value.bool hc5) (fun _ => y_eql rfl rfl) (fun _ => hS) ?_
      refine x_p 17 (.bool ((f.2.length : Int) == r7)) rfl (by kernel_rfl)  (fun _ => y_pick_t (congrArg Value.bool hc5) rfl) (fun _ => hS) ?_
      refine x_p 18 (.bool ((f.2.length : Int) == r7)) rfl (by kernel_rfl)  (fun _ => y_move rfl) (fun _ => hS) ?_
      rcases bif_some hs with ⟨hc8, hs⟩ | ⟨hc8, hs⟩
      · skip
        refine x_py 19 (.pointer (some ⟨g2, 1, none⟩)) rfl (by kernel_rfl) (tg := 23) (by kernel_rfl) (congrArg Value.bool hc8) (fun _ => y_faddr rfl Fa24x1) (fun _ => hS) ?_
        refine x_py 21 (.int .i64 n) rfl (by kernel_rfl) (tg := 23) (by kernel_rfl) (congrArg Value.bool hc8) (fun _ => y_move rfl) (fun _ => hS) ?_
        refine x_one (i := 20) (by kernel_rfl) ?_
        refine xk_valy (b := false) (.slice pa0 pn0 pc0) rfl (tg := 23) (by kernel_rfl) (congrArg Value.bool hc8) (y_load rfl ((box_load Ag22 Sz22 hb2 [(.int .i64 f.1)] [(.slice pa0 pn0 pc0)] [] rfl rfl (fun _ => rfl)) _ (Chg.refl _ _))) rfl (fun _ => hS) ?_
        refine x_one (i := 22) (by kernel_rfl) ?_
        obtain ⟨r10, hr10, hs⟩ := bind_some hs
        refine xk_cally (b := false) rfl (tg := 23) (by kernel_rfl) (congrArg Value.bool hc8) Bd60 rfl (c_impl_inSize (M := M) f.2 n h0 hO.fut hr10) rfl (by rintro _ _ _ ⟨rfl, hC9⟩; exact hS.ext hC9) ?_
        rintro _ w9 ⟨rfl, hC9⟩
        have h0 := h0.ext hC9
        have hb2 := hb2.chg hC9 (fun h => nomatch h)
        have hC := hC.ext hC9
        have hO := hO.ext hC9
        have hS := hS.ext hC9
        refine x_p 23 (.bool r10) rfl (by kernel_rfl)  (fun _ => y_pick_t (congrArg Value.bool hc8) rfl) (fun _ => hS) ?_
        refine x_p 24 (.bool r10) rfl (by kernel_rfl)  (fun _ => y_assign rfl) (fun _ => hS) ?_
        refine x_end (by kernel_rfl) ?_
        clear hS
        refine wp_ret ?_
        cases hs
        exact ⟨_, fr_ovl 29 ⟨rfl, trivial⟩, hC⟩
      · skip
        refine x_pn 19 rfl (by kernel_rfl) (tg := 23) (by kernel_rfl) (congrArg Value.bool hc8) (fun _ => hS) ?_
        refine x_pn 20 rfl (by kernel_rfl) (tg := 23) (by kernel_rfl) (congrArg Value.bool hc8) (fun _ => hS) ?_
        refine x_pn 21 rfl (by kernel_rfl) (tg := 23) (by kernel_rfl) (congrArg Value.bool hc8) (fun _ => hS) ?_
        refine x_pn 22 rfl (by kernel_rfl) (tg := 23) (by kernel_rfl) (congrArg Value.bool hc8) (fun _ => hS) ?_
        refine x_p 23 (.bool false) rfl (by kernel_rfl)  (fun _ => y_pick_f (congrArg Value.bool hc8) rfl) (fun _ => hS) ?_
        refine x_p 24 (.bool false) rfl (by kernel_rfl)  (fun _ => y_assign rfl) (fun _ => hS) ?_
        refine x_end (by kernel_rfl) ?_
        clear hS
        refine wp_ret ?_
        cases hs
        exact ⟨_, fr_ovl 29 ⟨rfl, trivial⟩, hC⟩
    · skip
      refine x_pn 9 rfl (by kernel_rfl) (tg := 13) (by kernel_rfl) (congrArg Value.bool hc5) (fun _ => hS) ?_
      refine x_pn 10 rfl (by kernel_rfl) (tg := 13) (by kernel_rfl) (congrArg Value.bool hc5) (fun _ => hS) ?_
      refine x_pn 11 rfl (by kernel_rfl) (tg := 13) (by kernel_rfl) (congrArg Value.bool hc5) (fun _ => hS) ?_
      refine x_pn 12 rfl (by kernel_rfl) (tg := 13) (by kernel_rfl) (congrArg Value.bool hc5) (fun _ => hS) ?_
      refine x_pn 13 rfl (by kernel_rfl) (tg := 13) (by kernel_rfl) (congrArg Value.bool hc5) (fun _ => hS) ?_
      refine x_pn 14 rfl (by kernel_rfl) (tg := 13) (by kernel_rfl) (congrArg Value.bool hc5) (fun _ => hS) ?_
      refine x_pn 15 rfl (by kernel_rfl) (tg := 13) (by kernel_rfl) (congrArg Value.bool hc5) (fun _ => hS) ?_
      refine x_pn 16 rfl (by kernel_rfl) (tg := 13) (by kernel_rfl) (congrArg Value.bool hc5) (fun _ => hS) ?_
      refine x_p 17 (.bool false) rfl (by kernel_rfl)  (fun _ => y_pick_f (congrArg Value.bool hc5) rfl) (fun _ => hS) ?_
      refine x_p 18 (.bool false) rfl (by kernel_rfl)  (fun _ => y_move rfl) (fun _ => hS) ?_
      refine x_pn 19 rfl (by kernel_rfl) (tg := 23) (by kernel_rfl) (by rfl) (fun _ => hS) ?_
      refine x_pn 20 rfl (by kernel_rfl) (tg := 23) (by kernel_rfl) (by rfl) (fun _ => hS) ?_
      refine x_pn 21 rfl (by kernel_rfl) (tg := 23) (by kernel_rfl) (by rfl) (fun _ => hS) ?_
      refine x_pn 22 rfl (by kernel_rfl) (tg := 23) (by kernel_rfl) (by rfl) (fun _ => hS) ?_
      refine x_p 23 (.bool false) rfl (by kernel_rfl)  (fun _ => y_pick_f (by rfl) rfl) (fun _ => hS) ?_
      refine x_p 24 (.bool false) rfl (by kernel_rfl)  (fun _ => y_assign rfl) (fun _ => hS) ?_
      refine x_end (by kernel_rfl) ?_
      clear hS
      refine wp_ret ?_
      cases hs
      exact ⟨_, fr_ovl 29 ⟨rfl, trivial⟩, hC⟩
  · skip
    refine x_pn 4 rfl (by kernel_rfl) (tg := 8) (by kernel_rfl) (congrArg Value.bool hc4) (fun _ => hS) ?_
    refine x_pn 5 rfl (by kernel_rfl) (tg := 8) (by kernel_rfl) (congrArg Value.bool hc4) (fun _ => hS) ?_
    refine x_pn 6 rfl (by kernel_rfl) (tg := 8) (by kernel_rfl) (congrArg Value.bool hc4) (fun _ => hS) ?_
    refine x_p 7 (.bool false) rfl (by kernel_rfl)  (fun _ => y_pick_f (congrArg Value.bool hc4) rfl) (fun _ => hS) ?_
    refine x_p 8 (.bool false) rfl (by kernel_rfl)  (fun _ => y_move rfl) (fun _ => hS) ?_
    refine x_pn 9 rfl (by kernel_rfl) (tg := 13) (by kernel_rfl) (by rfl) (fun _ => hS) ?_
    refine x_pn 10 rfl (by kernel_rfl) (tg := 13) (by kernel_rfl) (by rfl) (fun _ => hS) ?_
    refine x_pn 11 rfl (by kernel_rfl) (tg := 13) (by kernel_rfl) (by rfl) (fun _ => hS) ?_
    refine x_pn 12 rfl (by kernel_rfl) (tg := 13) (by kernel_rfl) (by rfl) (fun _ => hS) ?_
    refine x_pn 13 rfl (by kernel_rfl) (tg := 13) (by kernel_rfl) (by rfl) (fun _ => hS) ?_
    refine x_pn 14 rfl (by kernel_rfl) (tg := 13) (by kernel_rfl) (by rfl) (fun _ => hS) ?_
    refine x_pn 15 rfl (by kernel_rfl) (tg := 13) (by kernel_rfl) (by rfl) (fun _ => hS) ?_
    refine x_pn 16 rfl (by kernel_rfl) (tg := 13) (by kernel_rfl) (by rfl) (fun _ => hS) ?_
    refine x_p 17 (.bool false) rfl (by kernel_rfl)  (fun _ => y_pick_f (by rfl) rfl) (fun _ => hS) ?_
    refine x_p 18 (.bool false) rfl (by kernel_rfl)  (fun _ => y_move rfl) (fun _ => hS) ?_
    refine x_pn 19 rfl (by kernel_rfl) (tg := 23) (by kernel_rfl) (by rfl) (fun _ => hS) ?_
    refine x_pn 20 rfl (by kernel_rfl) (tg := 23) (by kernel_rfl) (by rfl) (fun _ => hS) ?_
    refine x_pn 21 rfl (by kernel_rfl) (tg := 23) (by kernel_rfl) (by rfl) (fun _ => hS) ?_
    refine x_pn 22 rfl (by kernel_rfl) (tg := 23) (by kernel_rfl) (by rfl) (fun _ => hS) ?_
    refine x_p 23 (.bool false) rfl (by kernel_rfl)  (fun _ => y_pick_f (by rfl) rfl) (fun _ => hS) ?_
    refine x_p 24 (.bool false) rfl (by kernel_rfl)  (fun _ => y_assign rfl) (fun _ => hS) ?_
    refine x_end (by kernel_rfl) ?_
    clear hS
    refine wp_ret ?_
    cases hs
    exact ⟨_, fr_ovl 29 ⟨rfl, trivial⟩, hC⟩

def k_impl_argsAt (M : Nat → Prop) (w0 : World) (r : (List Int)) (a : Act) (w : World) : Prop :=
  ∃ (σ : Nat → Value) (ra0 : Option Addr) (rn0 rc0 : Nat) (rf0 : List Nat), a = fr 27 (ovl σ [(6, (.slice ra0 rn0 rc0))]) ∧ Chg [] w0 w ∧ (RT.os 3 (RT.int .i64)).val M w (.slice ra0 rn0 rc0) r rf0 ∧ Own (Nw w0 []) (fun _ => True) w (rf0 ++ ([]))
def s_impl_argsAt (i : Int) (k : Int) (n : Int) : Option ((List Int)) :=
  (mks k (0 : Int)).bind fun y2 =>
  (iter (S := Int × Int × (List Int)) (R := (List Int)) (fun s17 =>
  (bif (decide (0 ≤ s17.2.1)) then (nz n).bind fun u26 =>
  (idx s17.2.2 s17.2.1).bind fun x27 =>
  (nz n).bind fun u30 =>
  some (.nx (w64 (Int.tdiv s17.1 n), w64 (s17.2.1 - 1), List.set s17.2.2 (Int.toNat s17.2.1) (Int.tmod s17.1 n))) else some (.br (s17.1, s17.2.1, s17.2.2)))) FU (i, w64 (k - 1), y2)).bind fun o21 => after o21 (fun r_ => some r_) (fun s17 =>
  some s17.2.2)
set_option maxHeartbeats 4000000 in
theorem c_impl_argsAt {M : Nat → Prop} {w : World}  (i : Int) (k : Int) (n : Int)  (hM : ∀ g, w.heap.size ≤ g → M g) {r : (List Int)} (hs : s_impl_argsAt i k n = some r) :
    Gives Try.prog 72 [(.int .i64 i), (.int .i64 k), (.int .i64 n)] w (fun v w' => ∃ (ra0 : Option Addr) (rn0 rc0 : Nat) (rf0 : List Nat), v = (.slice ra0 rn0 rc0) ∧ Chg [] w w' ∧ (RT.os 3 (RT.int .i64)).val M w' (.slice ra0 rn0 rc0) r rf0 ∧ Own (Nw w []) (fun _ => True) w' (rf0 ++ ([]))) := by
  refine calls_fr Try.func72 rfl Try.ntmps72 (Nat.le_of_ble_eq_true rfl) ?_
  have hO := Own.start (N := Nw w []) hM Nw.fut
  have hC := Chg.refl [] w
  unfold s_impl_argsAt at hs
  refine wp_mono (Q := KPost (k_impl_argsAt M w r)) ?_ (fun e a w1 h => ?_)
  rotate_left
  · cases e
    case ret =>
      obtain ⟨σ, ra0, rn0, rc0, rf0, rfl, hrest⟩ := h
      exact ret1x Try.results72 (res_tmp rfl) ⟨ra0, rn0, rc0, rf0, rfl, hrest⟩
    all_goals exact (h : False).elim
  refine c_seq ?_
  refine c_region ?_
  refine pl_val (.slice none 0 0) (y_assign rfl) ?_
  refine c_nil ?_
  refine c_seq ?_
  refine c_region ?_
  refine pl_val (.int .i64 k) (y_move rfl) ?_
  obtain ⟨y2, hy2, hs⟩ := bind_some hs
  obtain ⟨a1, n1, c1, w1, f1, hm1, hC1, hfr1, hv1⟩ := mk_os (M := M) (w := w) (r := (RT.int .i64)) Rw22 hy2 (fun _ _ => ⟨rfl, rfl⟩)
  refine pl_val (w' := w1) (.slice a1 n1 c1) (y_make rfl rfl hm1) ?_
  have hC := hC.ext hC1
  have hO := hO.new hC1 hfr1 (os_nodup hv1) hv1.fpl
  refine pl_val (.slice a1 n1 c1) (y_assign rfl) ?_
  refine c_nil ?_
  refine c_seq ?_
  refine c_seq ?_
  refine c_region ?_
  refine pl_val (.int .i64 k) (y_move rfl) ?_
  refine pl_val (.int .i64 (w64 (k - 1))) (y_sub rfl rfl) ?_
  refine pl_val (.int .i64 (w64 (k - 1))) (y_assign rfl) ?_
  refine c_nil ?_
  obtain ⟨o21, hl22, hs⟩ := bind_some hs
  refine wp_block ?_
  refine wp_iter (id := 0) (I := fun s17 a w18 => ∃ (σ : Nat → Value) (f23 : List Nat), a = fr 27 (ovl σ [(0, (.int .i64 s17.1)), (2, (.int .i64 n)), (7, (.slice a1 n1 c1)), (8, (.int .i64 s17.2.1))]) ∧ Chg [] w w18 ∧ Own (Nw w []) M w18 (f23 ++ []) ∧ (RT.os 3 (RT.int .i64)).val M w18 (.slice a1 n1 c1) s17.2.2 f23) (J := fun s17 a w18 => ∃ (σ : Nat → Value) (f24 : List Nat), a = fr 27 (ovl σ [(7, (.slice a1 n1 c1))]) ∧ Chg [] w w18 ∧ Own (Nw w []) M w18 (f24 ++ []) ∧ (RT.os 3 (RT.int .i64)).val M w18 (.slice a1 n1 c1) s17.2.2 f24) (K := (k_impl_argsAt M w)) ?_ FU (i, w64 (k - 1), y2) o21 _ _ ?_ hl22 ?_
  · rintro s17 o21 a w18 ⟨σ, f23, rfl, hC, hO, hv23⟩ hs
    refine c_seq ?_
    refine c_seq ?_
    refine c_region ?_
    refine pl_val (.int .i64 s17.2.1) (y_move rfl) ?_
    refine pl_val (.bool (decide (0 ≤ s17.2.1))) (y_geq rfl rfl) ?_
    refine c_nil ?_
    rcases bif_some hs with ⟨hc25, hs⟩ | ⟨hc25, hs⟩
    · skip
      refine c_condT (congrArg Value.bool hc25) ?_
      refine wp_skip ?_
      refine c_seq ?_
      refine wp_block ?_
      refine c_seq ?_
      refine c_region ?_
      refine pl_val (.slice a1 n1 c1) (y_move rfl) ?_
      refine pl_val (.int .i64 s17.2.1) (y_move rfl) ?_
      refine pl_val (.int .i64 s17.1) (y_move rfl) ?_
      refine pl_val (.int .i64 n) (y_move rfl) ?_
      obtain ⟨u26, hu26, hs⟩ := bind_some hs
      refine pl_val (.int .i64 (Int.tmod s17.1 n)) (y_rem rfl rfl (nz_ne hu26)) ?_
      obtain ⟨x27, hx27, hs⟩ := bind_some hs
      obtain ⟨g28, f28, hg28, hk28, hp28, ha28, hf28⟩ := os_idx Sl22 Sz3 hv23 hx27
      refine pl_val (.pointer (some ⟨g28, 0 + Int.toNat s17.2.1 * 1, none⟩)) (hp28 _ _ _ _ _ _ _ _ _ rfl rfl) ?_
      obtain ⟨w29, f29, hst29, hC29, hf29, hv29⟩ := os_store (P := Try.prog) (c' := [(.int .i64 (Int.tmod s17.1 n))]) hg28 hv23 hk28 (fun g hg => hO.inM g (os_block hv23 g (by simpa using hg))) ⟨rfl, rfl⟩ List.nodup_nil (fun _ h => nomatch h) (fun _ h => .inl h)
      have hG29 : ∀ q ∈ [g28], q ∈ f23 := fun q hq => os_block hv23 q (by rw [hg28]; exact hq)
      refine pl_skip (w' := w29) (ys_store rfl rfl (hst29 _ _ rfl Sz3)) ?_
      have hC := hC.step hC29 (fun g hg => hO.inN g (hG29 g hg))
      have hO := hO.grow hC29 (fun q hq => .inl ((hf29 q hq).resolve_right (fun h => nomatch h))) (os_nodup hv29) hv29.fpl
      refine c_nil ?_
      refine c_region ?_
      refine pl_val (.int .i64 s17.1) (y_move rfl) ?_
      refine pl_val (.int .i64 n) (y_move rfl) ?_
      obtain ⟨u30, hu30, hs⟩ := bind_some hs
      refine pl_val (.int .i64 (w64 (Int.tdiv s17.1 n))) (y_quo rfl rfl (nz_ne hu30)) ?_
      refine pl_val (.int .i64 (w64 (Int.tdiv s17.1 n))) (y_assign rfl) ?_
      refine c_nil ?_
      refine c_region ?_
      refine pl_val (.int .i64 s17.2.1) (y_move rfl) ?_
      refine pl_val (.int .i64 (w64 (s17.2.1 - 1))) (y_sub rfl rfl) ?_
      refine pl_val (.int .i64 (w64 (s17.2.1 - 1))) (y_assign rfl) ?_
      refine c_nil ?_
      cases hs
      exact ⟨_, f29, fr_ovl 27 ⟨rfl, rfl, rfl, rfl, trivial⟩, hC, hO, hv29⟩
    · skip
      refine c_condF (congrArg Value.bool hc25) ?_
      refine wp_exit ?_
      cases hs
      exact ⟨rfl, _, f23, fr_ovl 27 ⟨rfl, trivial⟩, hC, hO, hv23⟩
  · skip
    exact ⟨_, f1, fr_ovl 27 ⟨rfl, rfl, rfl, rfl, trivial⟩, hC, hO, hv1⟩
  · cases o21 with
    | nx _ => exact True.intro
    | rt r_ =>
      have hs := after_rt hs
      intro a1 w1 hK
      cases hs
      exact hK
    | br s17 =>
      have hs := after_br hs
      rintro a1 w18 ⟨σ, f24, rfl, hC, hO, hv24⟩
      refine c_seq ?_
      refine c_region ?_
      refine pl_val (.slice a1 n1 c1) (y_move rfl) ?_
      refine pl_val (.slice a1 n1 c1) (y_assign rfl) ?_
      refine c_nil ?_
      refine wp_ret ?_
      cases hs
      exact ⟨_, a1, n1, c1, f24, fr_ovl 27 ⟨rfl, trivial⟩, hC, hv24, hO.top⟩

theorem Bd72 : Bodied Try.prog 72 := bodied Try.func72 (by kernel_rfl) rfl

def k_impl_projection (M : Nat → Prop) (w0 : World) (r : (List Int)) (a : Act) (w : World) : Prop :=
  ∃ (σ : Nat → Value) (ra0 : Option Addr) (rn0 rc0 : Nat) (rf0 : List Nat), a = fr 30 (ovl σ [(6, (.slice ra0 rn0 rc0))]) ∧ Chg [] w0 w ∧ (RT.os 3 (RT.int .i64)).val M w (.slice ra0 rn0 rc0) r rf0 ∧ Own (Nw w0 []) (fun _ => True) w (rf0 ++ ([]))
def s_impl_projection (n : Int) (k : Int) (place : Int) : Option ((List Int)) :=
  (s_impl_power n k).bind fun r2 =>
  (mks r2 (0 : Int)).bind fun y4 =>
  (forC (S := (List Int)) (R := (List Int)) (fun k25 s23 =>
  (s_impl_argsAt k25 k n).bind fun r32 =>
  (idx r32 place).bind fun x34 =>
  (idx s23 k25).bind fun x36 =>
  some (.nx (List.set s23 (Int.toNat k25) x34))) 0 (y4.length : Int) y4).bind fun o27 => after o27 (fun r_ => some r_) (fun s23 =>
  some s23)
set_option maxHeartbeats 4000000 in
theorem c_impl_projection {M : Nat → Prop} {w : World}  (n : Int) (k : Int) (place : Int)  (hM : ∀ g, w.heap.size ≤ g → M g) {r : (List Int)} (hs : s_impl_projection n k place = some r) :
    Gives Try.prog 67 [(.int .i64 n), (.int .i64 k), (.int .i64 place)] w (fun v w' => ∃ (ra0 : Option Addr) (rn0 rc0 : Nat) (rf0 : List Nat), v = (.slice ra0 rn0 rc0) ∧ Chg [] w w' ∧ (RT.os 3 (RT.int .i64)).val M w' (.slice ra0 rn0 rc0) r rf0 ∧ Own (Nw w []) (fun _ => True) w' (rf0 ++ ([]))) := by
  refine calls_fr Try.func67 rfl Try.ntmps67 (Nat.le_of_ble_eq_true rfl) ?_
  have hO := Own.start (N := Nw w []) hM Nw.fut
  have hC := Chg.refl [] w
  unfold s_impl_projection at hs
  refine wp_mono (Q := KPost (k_impl_projection M w r)) ?_ (fun e a w1 h => ?_)
  rotate_left
  · cases e
    case ret =>
      obtain ⟨σ, ra0, rn0, rc0, rf0, rfl, hrest⟩ := h
      exact ret1x Try.results67 (res_tmp rfl) ⟨ra0, rn0, rc0, rf0, rfl, hrest⟩
    all_goals exact (h : False).elim
  refine c_seq ?_
  refine c_region ?_
  refine pl_val (.slice none 0 0) (y_assign rfl) ?_
  refine c_nil ?_
  refine c_seq ?_
  refine c_region ?_
  refine pl_val (.int .i64 n) (y_move rfl) ?_
  refine pl_val (.int .i64 k) (y_move rfl) ?_
  obtain ⟨r2, hr2, hs⟩ := bind_some hs
  refine pl_call Bd59 rfl (c_impl_power (M := M) n k  hO.fut hr2) ?_
  rintro _ w1 ⟨rfl, hC1⟩
  have hC := hC.ext hC1
  have hO := hO.ext hC1
  obtain ⟨y4, hy4, hs⟩ := bind_some hs
  obtain ⟨a3, n3, c3, w3, f3, hm3, hC3, hfr3, hv3⟩ := mk_os (M := M) (w := w1) (r := (RT.int .i64)) Rw22 hy4 (fun _ _ => ⟨rfl, rfl⟩)
  refine pl_val (w' := w3) (.slice a3 n3 c3) (y_make rfl rfl hm3) ?_
  have hC := hC.ext hC3
  have hO := hO.new hC3 hfr3 (os_nodup hv3) hv3.fpl
  refine pl_val (.slice a3 n3 c3) (y_assign rfl) ?_
  refine c_nil ?_
  refine c_seq ?_
  refine c_seq ?_
  refine c_region ?_
  refine pl_val (.slice a3 n3 c3) (y_move rfl) ?_
  refine pl_val (.int .i64 (y4.length : Int)) (y_len' Sl22 (os_len hv3) rfl) ?_
  refine pl_val (.int .i64 0) (y_move rfl) ?_
  refine c_nil ?_
  obtain ⟨o27, hl28, hs⟩ := bind_some hs
  refine wp_block ?_
  refine wp_forC (id := 0) (y4.length : Int) (I := fun k25 s23 a w24 => ∃ (σ : Nat → Value) (f29 : List Nat), a = fr 30 (ovl σ [(0, (.int .i64 n)), (1, (.int .i64 k)), (2, (.int .i64 place)), (7, (.slice a3 n3 c3)), (14, (.int .i64 (y4.length : Int))), (15, (.int .i64 k25))]) ∧ Chg [] w w24 ∧ Own (Nw w []) M w24 (f29 ++ []) ∧ (RT.os 3 (RT.int .i64)).val M w24 (.slice a3 n3 c3) s23 f29) (J := fun s23 a w24 => ∃ (σ : Nat → Value) (f30 : List Nat), a = fr 30 (ovl σ [(7, (.slice a3 n3 c3))]) ∧ Chg [] w w24 ∧ Own (Nw w []) M w24 (f30 ++ []) ∧ (RT.os 3 (RT.int .i64)).val M w24 (.slice a3 n3 c3) s23 f30) (K := (k_impl_projection M w)) ?_ ?_ 0 y4 o27 _ _ ?_ hl28 ?_
  · rintro k25 s23 a w24 ⟨σ, f29, rfl, hC, hO, hv29⟩ hlt
    refine c_seq ?_
    refine c_region ?_
    refine pl_val (.bool (decide (k25 < (y4.length : Int)))) (y_lss rfl rfl) ?_
    refine c_nil ?_
    refine c_seq ?_
    refine c_condF (congrArg Value.bool (decide_eq_false hlt)) ?_
    refine wp_exit ?_
    exact ⟨rfl, _, f29, fr_ovl 30 ⟨rfl, trivial⟩, hC, hO, hv29⟩
  · rintro k25 s23 o27 a w24 ⟨σ, f29, rfl, hC, hO, hv29⟩ hlt hw hs
    refine c_seq ?_
    refine c_region ?_
    refine pl_val (.bool (decide (k25 < (y4.length : Int)))) (y_lss rfl rfl) ?_
    refine c_nil ?_
    refine c_seq ?_
    refine c_condT (congrArg Value.bool (decide_eq_true hlt)) ?_
    refine wp_skip ?_
    refine c_seq ?_
    refine wp_block ?_
    refine c_seq ?_
    refine c_region ?_
    refine pl_val (.int .i64 k25) (y_move rfl) ?_
    refine pl_val (.int .i64 k25) (y_assign rfl) ?_
    refine c_nil ?_
    refine c_region ?_
    refine pl_val (.slice a3 n3 c3) (y_move rfl) ?_
    refine pl_val (.int .i64 k25) (y_move rfl) ?_
    refine pl_val (.int .i64 k25) (y_move rfl) ?_
    refine pl_val (.int .i64 k) (y_move rfl) ?_
    refine pl_val (.int .i64 n) (y_move rfl) ?_
    obtain ⟨r32, hr32, hs⟩ := bind_some hs
    refine pl_call Bd72 rfl (c_impl_argsAt (M := M) k25 k n  hO.fut hr32) ?_
    rintro _ w31 ⟨a31x0, n31x0, c31x0, f31x0, rfl, hC31, hv31x0, hOc31⟩
    have hv29 := hv29.ext hC31
    have hC := hC.ext hC31
    have hO := Own.join0 hO hC31 hOc31
    have hO := hO.perm (R := f31x0 ++ (f29 ++ ([]))) (by simp)
    refine pl_val (.int .i64 place) (y_move rfl) ?_
    obtain ⟨x34, hx34, hs⟩ := bind_some hs
    obtain ⟨g35, f35, hg35, hk35, hp35, ha35, hf35⟩ := os_idx Sl22 Sz3 hv31x0 hx34
    refine pl_val (.pointer (some ⟨g35, 0 + Int.toNat place * 1, none⟩)) (hp35 _ _ _ _ _ _ _ _ _ rfl rfl) ?_
    refine pl_val (.int .i64 x34) (y_load rfl ((at_load_int Ag3 Sz3 ha35) _ (Chg.refl _ _))) ?_
    obtain ⟨x36, hx36, hs⟩ := bind_some hs
    obtain ⟨g37, f37, hg37, hk37, hp37, ha37, hf37⟩ := os_idx Sl22 Sz3 hv29 hx36
    refine pl_val (.pointer (some ⟨g37, 0 + Int.toNat k25 * 1, none⟩)) (hp37 _ _ _ _ _ _ _ _ _ rfl rfl) ?_
    have hO := hO.fr1
    obtain ⟨w38, f38, hst38, hC38, hf38, hv38⟩ := os_store (P := Try.prog) (c' := [(.int .i64 x34)]) hg37 hv29 hk37 (fun g hg => hO.inM g (os_block hv29 g (by simpa using hg))) ⟨rfl, rfl⟩ List.nodup_nil (fun _ h => nomatch h) (fun _ h => .inl h)
    have hG38 : ∀ q ∈ [g37], q ∈ f29 := fun q hq => os_block hv29 q (by rw [hg37]; exact hq)
    refine pl_skip (w' := w38) (ys_store rfl rfl (hst38 _ _ rfl Sz3)) ?_
    have hv31x0 := hv31x0.mut hC38 (fun g hg => hO.inM g (hG38 g hg)) (fun g hg e => hO.apart g (hG38 g hg) (mem_l (e)))
    have hC := hC.step hC38 (fun g hg => hO.inN g (hG38 g hg))
    have hO := hO.grow hC38 (fun q hq => .inl ((hf38 q hq).resolve_right (fun h => nomatch h))) (os_nodup hv38) hv38.fpl
    refine c_nil ?_
    refine c_region ?_
    refine pl_val (.int .i64 (w64 (k25 + 1))) (y_add rfl rfl) ?_
    refine pl_val (.int .i64 (w64 (k25 + 1))) (y_move rfl) ?_
    refine c_nil ?_
    cases hs
    have hO := hO.fr1
    have hO := hO.drop
    exact ⟨_, f38, fr_ovl 30 ⟨rfl, rfl, rfl, rfl, rfl, congrArg (Value.int .i64) hw, trivial⟩, hC, hO, hv38⟩
  · skip
    exact ⟨_, f3, fr_ovl 30 ⟨rfl, rfl, rfl, rfl, rfl, rfl, trivial⟩, hC, hO, hv3⟩
  · cases o27 with
    | nx _ => exact True.intro
    | rt r_ =>
      have hs := after_rt hs
      intro a1 w1 hK
      cases hs
      exact hK
    | br s23 =>
      have hs := after_br hs
      rintro a1 w24 ⟨σ, f30, rfl, hC, hO, hv30⟩
      refine c_seq ?_
      refine c_region ?_
      refine pl_val (.slice a3 n3 c3) (y_move rfl) ?_
      refine pl_val (.slice a3 n3 c3) (y_assign rfl) ?_
      refine c_nil ?_
      refine wp_ret ?_
      cases hs
      exact ⟨_, a3, n3, c3, f30, fr_ovl 30 ⟨rfl, trivial⟩, hC, hv30, hO.top⟩

theorem Bd67 : Bodied Try.prog 67 := bodied Try.func67 (by kernel_rfl) rfl

def k_impl_firsts (M : Nat → Prop) (w0 : World) (r : (List Int)) (a : Act) (w : World) : Prop :=
  ∃ (σ : Nat → Value) (ra0 : Option Addr) (rn0 rc0 : Nat) (rf0 : List Nat), a = fr 5 (ovl σ [(2, (.slice ra0 rn0 rc0))]) ∧ Chg [] w0 w ∧ (RT.os 3 (RT.int .i64)).val M w (.slice ra0 rn0 rc0) r rf0 ∧ Own (Nw w0 []) (fun _ => True) w (rf0 ++ ([]))
def s_impl_firsts (n : Int) : Option ((List Int)) :=
  (s_impl_projection n 2 0).bind fun r2 =>
  some r2
set_option maxHeartbeats 4000000 in
theorem c_impl_firsts {M : Nat → Prop} {w : World}  (n : Int)  (hM : ∀ g, w.heap.size ≤ g → M g) {r : (List Int)} (hs : s_impl_firsts n = some r) :
    Gives Try.prog 53 [(.int .i64 n)] w (fun v w' => ∃ (ra0 : Option Addr) (rn0 rc0 : Nat) (rf0 : List Nat), v = (.slice ra0 rn0 rc0) ∧ Chg [] w w' ∧ (RT.os 3 (RT.int .i64)).val M w' (.slice ra0 rn0 rc0) r rf0 ∧ Own (Nw w []) (fun _ => True) w' (rf0 ++ ([]))) := by
  refine calls_fr Try.func53 rfl Try.ntmps53 (Nat.le_of_ble_eq_true rfl) ?_
  have hO := Own.start (N := Nw w []) hM Nw.fut
  have hC := Chg.refl [] w
  unfold s_impl_firsts at hs
  refine wp_mono (Q := KPost (k_impl_firsts M w r)) ?_ (fun e a w1 h => ?_)
  rotate_left
  · cases e
    case ret =>
      obtain ⟨σ, ra0, rn0, rc0, rf0, rfl, hrest⟩ := h
      exact ret1x Try.results53 (res_tmp rfl) ⟨ra0, rn0, rc0, rf0, rfl, hrest⟩
    all_goals exact (h : False).elim
  refine c_seq ?_
  refine c_region ?_
  refine pl_val (.slice none 0 0) (y_assign rfl) ?_
  refine c_nil ?_
  refine c_seq ?_
  refine c_region ?_
  refine pl_val (.int .i64 n) (y_move rfl) ?_
  obtain ⟨r2, hr2, hs⟩ := bind_some hs
  refine pl_call Bd67 rfl (c_impl_projection (M := M) n 2 0  hO.fut hr2) ?_
  rintro _ w1 ⟨a1x0, n1x0, c1x0, f1x0, rfl, hC1, hv1x0, hOc1⟩
  have hC := hC.ext hC1
  have hO := Own.join0 hO hC1 hOc1
  have hO := hO.perm (R := f1x0 ++ ([])) (by simp)
  refine pl_val (.slice a1x0 n1x0 c1x0) (y_assign rfl) ?_
  refine c_nil ?_
  refine wp_ret ?_
  cases hs
  exact ⟨_, a1x0, n1x0, c1x0, f1x0, fr_ovl 5 ⟨rfl, trivial⟩, hC, hv1x0, hO.top⟩

def k_impl_seconds (M : Nat → Prop) (w0 : World) (r : (List Int)) (a : Act) (w : World) : Prop :=
  ∃ (σ : Nat → Value) (ra0 : Option Addr) (rn0 rc0 : Nat) (rf0 : List Nat), a = fr 5 (ovl σ [(2, (.slice ra0 rn0 rc0))]) ∧ Chg [] w0 w ∧ (RT.os 3 (RT.int .i64)).val M w (.slice ra0 rn0 rc0) r rf0 ∧ Own (Nw w0 []) (fun _ => True) w (rf0 ++ ([]))
def s_impl_seconds (n : Int) : Option ((List Int)) :=
  (s_impl_projection n 2 1).bind fun r2 =>
  some r2
set_option maxHeartbeats 4000000 in
theorem c_impl_seconds {M : Nat → Prop} {w : World}  (n : Int)  (hM : ∀ g, w.heap.size ≤ g → M g) {r : (List Int)} (hs : s_impl_seconds n = some r) :
    Gives Try.prog 55 [(.int .i64 n)] w (fun v w' => ∃ (ra0 : Option Addr) (rn0 rc0 : Nat) (rf0 : List Nat), v = (.slice ra0 rn0 rc0) ∧ Chg [] w w' ∧ (RT.os 3 (RT.int .i64)).val M w' (.slice ra0 rn0 rc0) r rf0 ∧ Own (Nw w []) (fun _ => True) w' (rf0 ++ ([]))) := by
  refine calls_fr Try.func55 rfl Try.ntmps55 (Nat.le_of_ble_eq_true rfl) ?_
  have hO := Own.start (N := Nw w []) hM Nw.fut
  have hC := Chg.refl [] w
  unfold s_impl_seconds at hs
  refine wp_mono (Q := KPost (k_impl_seconds M w r)) ?_ (fun e a w1 h => ?_)
  rotate_left
  · cases e
    case ret =>
      obtain ⟨σ, ra0, rn0, rc0, rf0, rfl, hrest⟩ := h
      exact ret1x Try.results55 (res_tmp rfl) ⟨ra0, rn0, rc0, rf0, rfl, hrest⟩
    all_goals exact (h : False).elim
  refine c_seq ?_
  refine c_region ?_
  refine pl_val (.slice none 0 0) (y_assign rfl) ?_
  refine c_nil ?_
  refine c_seq ?_
  refine c_region ?_
  refine pl_val (.int .i64 n) (y_move rfl) ?_
  obtain ⟨r2, hr2, hs⟩ := bind_some hs
  refine pl_call Bd67 rfl (c_impl_projection (M := M) n 2 1  hO.fut hr2) ?_
  rintro _ w1 ⟨a1x0, n1x0, c1x0, f1x0, rfl, hC1, hv1x0, hOc1⟩
  have hC := hC.ext hC1
  have hO := Own.join0 hO hC1 hOc1
  have hO := hO.perm (R := f1x0 ++ ([])) (by simp)
  refine pl_val (.slice a1x0 n1x0 c1x0) (y_assign rfl) ?_
  refine c_nil ?_
  refine wp_ret ?_
  cases hs
  exact ⟨_, a1x0, n1x0, c1x0, f1x0, fr_ovl 5 ⟨rfl, trivial⟩, hC, hv1x0, hO.top⟩

def k_impl_compose (M : Nat → Prop) (w0 : World) (r : (List Int)) (a : Act) (w : World) : Prop :=
  ∃ (σ : Nat → Value) (ra0 : Option Addr) (rn0 rc0 : Nat) (rf0 : List Nat), a = fr 27 (ovl σ [(4, (.slice ra0 rn0 rc0))]) ∧ Chg [] w0 w ∧ (RT.os 3 (RT.int .i64)).val M w (.slice ra0 rn0 rc0) r rf0 ∧ Own (Nw w0 []) (fun _ => True) w (rf0 ++ ([]))
def s_impl_compose (f : List Int) (g : List Int) : Option ((List Int)) :=
  (mks (f.length : Int) (0 : Int)).bind fun y4 =>
  (forC (S := (List Int)) (R := (List Int)) (fun k23 s21 =>
  (idx f k23).bind fun x29 =>
  (idx g x29).bind fun x31 =>
  (idx s21 k23).bind fun x33 =>
  some (.nx (List.set s21 (Int.toNat k23) x31))) 0 (f.length : Int) y4).bind fun o25 => after o25 (fun r_ => some r_) (fun s21 =>
  some s21)
set_option maxHeartbeats 4000000 in
theorem c_impl_compose {M : Nat → Prop} {w : World} {pa0 : Option Addr} {pn0 pc0 : Nat} {pa1 : Option Addr} {pn1 pc1 : Nat} (f : List Int) (g : List Int) (h0 : (RT.rs (RT.int .i64)).val M w (.slice pa0 pn0 pc0) f ([])) (h1 : (RT.rs (RT.int .i64)).val M w (.slice pa1 pn1 pc1) g ([])) (hM : ∀ g, w.heap.size ≤ g → M g) {r : (List Int)} (hs : s_impl_compose f g = some r) :
    Gives Try.prog 74 [(.slice pa0 pn0 pc0), (.slice pa1 pn1 pc1)] w (fun v w' => ∃ (ra0 : Option Addr) (rn0 rc0 : Nat) (rf0 : List Nat), v = (.slice ra0 rn0 rc0) ∧ Chg [] w w' ∧ (RT.os 3 (RT.int .i64)).val M w' (.slice ra0 rn0 rc0) r rf0 ∧ Own (Nw w []) (fun _ => True) w' (rf0 ++ ([]))) := by
  refine calls_fr Try.func74 rfl Try.ntmps74 (Nat.le_of_ble_eq_true rfl) ?_
  have hO := Own.start (N := Nw w []) hM Nw.fut
  have hC := Chg.refl [] w
  unfold s_impl_compose at hs
  refine wp_mono (Q := KPost (k_impl_compose M w r)) ?_ (fun e a w1 h => ?_)
  rotate_left
  · cases e
    case ret =>
      obtain ⟨σ, ra0, rn0, rc0, rf0, rfl, hrest⟩ := h
      exact ret1x Try.results74 (res_tmp rfl) ⟨ra0, rn0, rc0, rf0, rfl, hrest⟩
    all_goals exact (h : False).elim
  refine c_seq ?_
  refine c_region ?_
  refine pl_val (.slice none 0 0) (y_assign rfl) ?_
  refine c_nil ?_
  refine c_seq ?_
  refine c_region ?_
  refine pl_val (.slice pa0 pn0 pc0) (y_move rfl) ?_
  refine pl_val (.int .i64 (f.length : Int)) (y_len' Sl22 (rs_len h0) rfl) ?_
  obtain ⟨y4, hy4, hs⟩ := bind_some hs
  obtain ⟨a3, n3, c3, w3, f3, hm3, hC3, hfr3, hv3⟩ := mk_os (M := M) (w := w) (r := (RT.int .i64)) Rw22 hy4 (fun _ _ => ⟨rfl, rfl⟩)
  refine pl_val (w' := w3) (.slice a3 n3 c3) (y_make rfl rfl hm3) ?_
  have h0 := h0.ext hC3
  have h1 := h1.ext hC3
  have hC := hC.ext hC3
  have hO := hO.new hC3 hfr3 (os_nodup hv3) hv3.fpl
  refine pl_val (.slice a3 n3 c3) (y_assign rfl) ?_
  refine c_nil ?_
  refine c_seq ?_
  refine c_seq ?_
  refine c_region ?_
  refine pl_val (.slice pa0 pn0 pc0) (y_move rfl) ?_
  refine pl_val (.int .i64 (f.length : Int)) (y_len' Sl22 (rs_len h0) rfl) ?_
  refine pl_val (.int .i64 0) (y_move rfl) ?_
  refine c_nil ?_
  obtain ⟨o25, hl26, hs⟩ := bind_some hs
  refine wp_block ?_
  refine wp_forC (id := 0) (f.length : Int) (I := fun k23 s21 a w22 => ∃ (σ : Nat → Value) (f27 : List Nat), a = fr 27 (ovl σ [(1, (.slice pa1 pn1 pc1)), (5, (.slice a3 n3 c3)), (11, (.slice pa0 pn0 pc0)), (12, (.int .i64 (f.length : Int))), (13, (.int .i64 k23))]) ∧ Chg [] w w22 ∧ Own (Nw w []) M w22 (f27 ++ []) ∧ (RT.rs (RT.int .i64)).val M w22 (.slice pa0 pn0 pc0) f ([]) ∧ (RT.rs (RT.int .i64)).val M w22 (.slice pa1 pn1 pc1) g ([]) ∧ (RT.os 3 (RT.int .i64)).val M w22 (.slice a3 n3 c3) s21 f27) (J := fun s21 a w22 => ∃ (σ : Nat → Value) (f28 : List Nat), a = fr 27 (ovl σ [(5, (.slice a3 n3 c3))]) ∧ Chg [] w w22 ∧ Own (Nw w []) M w22 (f28 ++ []) ∧ (RT.rs (RT.int .i64)).val M w22 (.slice pa0 pn0 pc0) f ([]) ∧ (RT.rs (RT.int .i64)).val M w22 (.slice pa1 pn1 pc1) g ([]) ∧ (RT.os 3 (RT.int .i64)).val M w22 (.slice a3 n3 c3) s21 f28) (K := (k_impl_compose M w)) ?_ ?_ 0 y4 o25 _ _ ?_ hl26 ?_
  · rintro k23 s21 a w22 ⟨σ, f27, rfl, hC, hO, h0, h1, hv27⟩ hlt
    refine c_seq ?_
    refine c_region ?_
    refine pl_val (.bool (decide (k23 < (f.length : Int)))) (y_lss rfl rfl) ?_
    refine c_nil ?_
    refine c_seq ?_
    refine c_condF (congrArg Value.bool (decide_eq_false hlt)) ?_
    refine wp_exit ?_
    exact ⟨rfl, _, f27, fr_ovl 27 ⟨rfl, trivial⟩, hC, hO, h0, h1, hv27⟩
  · rintro k23 s21 o25 a w22 ⟨σ, f27, rfl, hC, hO, h0, h1, hv27⟩ hlt hw hs
    refine c_seq ?_
    refine c_region ?_
    refine pl_val (.bool (decide (k23 < (f.length : Int)))) (y_lss rfl rfl) ?_
    refine c_nil ?_
    refine c_seq ?_
    refine c_condT (congrArg Value.bool (decide_eq_true hlt)) ?_
    refine wp_skip ?_
    refine c_seq ?_
    refine wp_block ?_
    refine c_seq ?_
    refine c_region ?_
    refine pl_val (.int .i64 k23) (y_move rfl) ?_
    obtain ⟨x29, hx29, hs⟩ := bind_some hs
    obtain ⟨b30, o30, hp30, ha30⟩ := rs_idx Sl22 Sz3 h0 hx29
    refine pl_val (.pointer (some ⟨b30, o30, none⟩)) (hp30 _ _ _ _ _ _ _ _ _ rfl rfl) ?_
    refine pl_val (.int .i64 x29) (y_load rfl ((at_load_int Ag3 Sz3 ha30) _ (Chg.refl _ _))) ?_
    refine pl_val (.int .i64 k23) (y_assign rfl) ?_
    refine pl_val (.int .i64 x29) (y_assign rfl) ?_
    refine c_nil ?_
    refine c_region ?_
    refine pl_val (.slice a3 n3 c3) (y_move rfl) ?_
    refine pl_val (.int .i64 k23) (y_move rfl) ?_
    refine pl_val (.slice pa1 pn1 pc1) (y_move rfl) ?_
    refine pl_val (.int .i64 x29) (y_move rfl) ?_
    obtain ⟨x31, hx31, hs⟩ := bind_some hs
    obtain ⟨b32, o32, hp32, ha32⟩ := rs_idx Sl22 Sz3 h1 hx31
    refine pl_val (.pointer (some ⟨b32, o32, none⟩)) (hp32 _ _ _ _ _ _ _ _ _ rfl rfl) ?_
    refine pl_val (.int .i64 x31) (y_load rfl ((at_load_int Ag3 Sz3 ha32) _ (Chg.refl _ _))) ?_
    obtain ⟨x33, hx33, hs⟩ := bind_some hs
    obtain ⟨g34, f34, hg34, hk34, hp34, ha34, hf34⟩ := os_idx Sl22 Sz3 hv27 hx33
    refine pl_val (.pointer (some ⟨g34, 0 + Int.toNat k23 * 1, none⟩)) (hp34 _ _ _ _ _ _ _ _ _ rfl rfl) ?_
    obtain ⟨w35, f35, hst35, hC35, hf35, hv35⟩ := os_store (P := Try.prog) (c' := [(.int .i64 x31)]) hg34 hv27 hk34 (fun g hg => hO.inM g (os_block hv27 g (by simpa using hg))) ⟨rfl, rfl⟩ List.nodup_nil (fun _ h => nomatch h) (fun _ h => .inl h)
    have hG35 : ∀ q ∈ [g34], q ∈ f27 := fun q hq => os_block hv27 q (by rw [hg34]; exact hq)
    refine pl_skip (w' := w35) (ys_store rfl rfl (hst35 _ _ rfl Sz3)) ?_
    have h0 := h0.mut hC35 (fun g hg => hO.inM g (hG35 g hg)) (fun _ _ h => nomatch h)
    have h1 := h1.mut hC35 (fun g hg => hO.inM g (hG35 g hg)) (fun _ _ h => nomatch h)
    have hC := hC.step hC35 (fun g hg => hO.inN g (hG35 g hg))
    have hO := hO.grow hC35 (fun q hq => .inl ((hf35 q hq).resolve_right (fun h => nomatch h))) (os_nodup hv35) hv35.fpl
    refine c_nil ?_
    refine c_region ?_
    refine pl_val (.int .i64 (w64 (k23 + 1))) (y_add rfl rfl) ?_
    refine pl_val (.int .i64 (w64 (k23 + 1))) (y_move rfl) ?_
    refine c_nil ?_
    cases hs
    exact ⟨_, f35, fr_ovl 27 ⟨rfl, rfl, rfl, rfl, congrArg (Value.int .i64) hw, trivial⟩, hC, hO, h0, h1, hv35⟩
  · skip
    exact ⟨_, f3, fr_ovl 27 ⟨rfl, rfl, rfl, rfl, rfl, trivial⟩, hC, hO, h0, h1, hv3⟩
  · cases o25 with
    | nx _ => exact True.intro
    | rt r_ =>
      have hs := after_rt hs
      intro a1 w1 hK
      cases hs
      exact hK
    | br s21 =>
      have hs := after_br hs
      rintro a1 w22 ⟨σ, f28, rfl, hC, hO, h0, h1, hv28⟩
      refine c_seq ?_
      refine c_region ?_
      refine pl_val (.slice a3 n3 c3) (y_move rfl) ?_
      refine pl_val (.slice a3 n3 c3) (y_assign rfl) ?_
      refine c_nil ?_
      refine wp_ret ?_
      cases hs
      exact ⟨_, a3, n3, c3, f28, fr_ovl 27 ⟨rfl, trivial⟩, hC, hv28, hO.top⟩

def k_impl_indexOf (M : Nat → Prop) (w0 : World) (r : Int) (a : Act) (w : World) : Prop :=
  ∃ (σ : Nat → Value) , a = fr 21 (ovl σ [(4, (.int .i64 r))]) ∧ Chg [] w0 w
def s_impl_indexOf (args : List Int) (n : Int) : Option (Int) :=
  (forR (S := Int) (R := Int) (fun _ x6 s3 =>
  some (.nx (w64 ((w64 (s3 * n)) + x6)))) 0 args 0).bind fun o7 => after o7 (fun r_ => some r_) (fun s3 =>
  some s3)
set_option maxHeartbeats 4000000 in
theorem c_impl_indexOf {M : Nat → Prop} {w : World} {pa0 : Option Addr} {pn0 pc0 : Nat} (args : List Int) (n : Int) (h0 : (RT.rs (RT.int .i64)).val M w (.slice pa0 pn0 pc0) args ([])) (hM : ∀ g, w.heap.size ≤ g → M g) {r : Int} (hs : s_impl_indexOf args n = some r) :
    Gives Try.prog 73 [(.slice pa0 pn0 pc0), (.int .i64 n)] w (fun v w' => v = (.int .i64 r) ∧ Chg [] w w') := by
  refine calls_fr Try.func73 rfl Try.ntmps73 (Nat.le_of_ble_eq_true rfl) ?_
  have hO := Own.start (N := Nw w []) hM Nw.fut
  have hC := Chg.refl [] w
  unfold s_impl_indexOf at hs
  refine wp_mono (Q := KPost (k_impl_indexOf M w r)) ?_ (fun e a w1 h => ?_)
  rotate_left
  · cases e
    case ret =>
      obtain ⟨σ, rfl, hrest⟩ := h
      exact ret1x Try.results73 (res_tmp rfl) ⟨rfl, hrest⟩
    all_goals exact (h : False).elim
  refine c_seq ?_
  refine c_region ?_
  refine pl_val (.int .i64 0) (y_assign rfl) ?_
  refine c_nil ?_
  refine c_seq ?_
  refine c_region ?_
  refine pl_val (.int .i64 0) (y_assign rfl) ?_
  refine c_nil ?_
  refine c_seq ?_
  refine c_seq ?_
  refine c_region ?_
  refine pl_val (.slice pa0 pn0 pc0) (y_move rfl) ?_
  refine pl_val (.int .i64 (args.length : Int)) (y_len' Sl22 (rs_len h0) rfl) ?_
  refine pl_val (.int .i64 0) (y_move rfl) ?_
  refine c_nil ?_
  obtain ⟨o7, hl8, hs⟩ := bind_some hs
  refine wp_block ?_
  refine wp_forR (id := 0) (I := fun i_ xs_ s3 a w4 => ∃ k5 : Nat, i_ = (k5 : Int) ∧ List.drop k5 args = xs_ ∧ (∃ (σ : Nat → Value), a = fr 21 (ovl σ [(1, (.int .i64 n)), (5, (.int .i64 s3)), (8, (.slice pa0 pn0 pc0)), (9, (.int .i64 (args.length : Int))), (10, (.int .i64 (k5 : Int)))]) ∧ Chg [] w w4 ∧ Own (Nw w []) M w4 ([]) ∧ (RT.rs (RT.int .i64)).val M w4 (.slice pa0 pn0 pc0) args ([]))) (J := fun s3 a w4 => ∃ (σ : Nat → Value), a = fr 21 (ovl σ [(5, (.int .i64 s3))]) ∧ Chg [] w w4 ∧ Own (Nw w []) M w4 ([]) ∧ (RT.rs (RT.int .i64)).val M w4 (.slice pa0 pn0 pc0) args ([])) (K := (k_impl_indexOf M w)) ?_ ?_ args 0 0 o7 _ _ ?_ hl8 ?_
  · rintro _ s3 a w4 ⟨k5, rfl, hd, σ, rfl, hC, hO, h0⟩
    have hlt := drop_nil_ge hd
    refine c_seq ?_
    refine c_region ?_
    refine pl_val (.bool (decide ((k5 : Int) < (args.length : Int)))) (y_lss rfl rfl) ?_
    refine c_nil ?_
    refine c_seq ?_
    refine c_condF (congrArg Value.bool (decide_eq_false hlt)) ?_
    refine wp_exit ?_
    exact ⟨rfl, _, fr_ovl 21 ⟨rfl, trivial⟩, hC, hO, h0⟩
  · rintro _ x6 xs_ s3 o7 a w4 ⟨k5, rfl, hd, σ, rfl, hC, hO, h0⟩ hs
    have hlt := drop_cons_lt hd
    have hxk5 := drop_cons_idx hd
    refine c_seq ?_
    refine c_region ?_
    refine pl_val (.bool (decide ((k5 : Int) < (args.length : Int)))) (y_lss rfl rfl) ?_
    refine c_nil ?_
    refine c_seq ?_
    refine c_condT (congrArg Value.bool (decide_eq_true hlt)) ?_
    refine wp_skip ?_
    refine c_seq ?_
    refine wp_block ?_
    refine c_seq ?_
    refine c_region ?_
    obtain ⟨b9, o9, hp9, ha9⟩ := rs_idx Sl22 Sz3 h0 hxk5
    refine pl_val (.pointer (some ⟨b9, o9, none⟩)) (hp9 _ _ _ _ _ _ _ _ _ rfl rfl) ?_
    refine pl_val (.int .i64 x6) (y_load rfl ((at_load_int Ag3 Sz3 ha9) _ (Chg.refl _ _))) ?_
    refine pl_val (.int .i64 x6) (y_assign rfl) ?_
    refine c_nil ?_
    refine c_region ?_
    refine pl_val (.int .i64 s3) (y_move rfl) ?_
    refine pl_val (.int .i64 n) (y_move rfl) ?_
    refine pl_val (.int .i64 (w64 (s3 * n))) (y_mul rfl rfl) ?_
    refine pl_val (.int .i64 x6) (y_move rfl) ?_
    refine pl_val (.int .i64 (w64 ((w64 (s3 * n)) + x6))) (y_add rfl rfl) ?_
    refine pl_val (.int .i64 (w64 ((w64 (s3 * n)) + x6))) (y_assign rfl) ?_
    refine c_nil ?_
    refine c_region ?_
    refine pl_val (.int .i64 (w64 ((k5 : Int) + 1))) (y_add rfl rfl) ?_
    refine pl_val (.int .i64 (w64 ((k5 : Int) + 1))) (y_move rfl) ?_
    refine c_nil ?_
    cases hs
    exact ⟨_, rfl, drop_cons_next hd, _, fr_ovl 21 ⟨rfl, rfl, rfl, rfl, congrArg (Value.int .i64) (w64_succ hlt (Int.natCast_nonneg _) (rs_max h0)), trivial⟩, hC, hO, h0⟩
  · skip
    exact ⟨0, rfl, rfl, _, fr_ovl 21 ⟨rfl, rfl, rfl, rfl, rfl, trivial⟩, hC, hO, h0⟩
  · cases o7 with
    | nx _ => exact True.intro
    | rt r_ =>
      have hs := after_rt hs
      intro a1 w1 hK
      cases hs
      exact hK
    | br s3 =>
      have hs := after_br hs
      rintro a1 w4 ⟨σ, rfl, hC, hO, h0⟩
      refine c_seq ?_
      refine c_region ?_
      refine pl_val (.int .i64 s3) (y_move rfl) ?_
      refine pl_val (.int .i64 s3) (y_assign rfl) ?_
      refine c_nil ?_
      refine wp_ret ?_
      cases hs
      exact ⟨_, fr_ovl 21 ⟨rfl, trivial⟩, hC⟩

theorem Bd74 : Bodied Try.prog 74 := bodied Try.func74 (by kernel_rfl) rfl

theorem Bd73 : Bodied Try.prog 73 := bodied Try.func73 (by kernel_rfl) rfl

def k_impl_valuesAt (M : Nat → Prop) (w0 : World) (r : (List Int)) (a : Act) (w : World) : Prop :=
  ∃ (σ : Nat → Value) (ra0 : Option Addr) (rn0 rc0 : Nat) (rf0 : List Nat), a = fr 31 (ovl σ [(6, (.slice ra0 rn0 rc0))]) ∧ Chg [] w0 w ∧ (RT.os 3 (RT.int .i64)).val M w (.slice ra0 rn0 rc0) r rf0 ∧ Own (Nw w0 []) (fun _ => True) w (rf0 ++ ([]))
def s_impl_valuesAt (n : Int) (table : List Int) (pattern : List Int) : Option ((List Int)) :=
  (forC (S := (List Int)) (R := (List Int)) (fun k24 s22 =>
  (s_impl_argsAt k24 2 n).bind fun r33 =>
  (s_impl_compose pattern r33).bind fun r36 =>
  (s_impl_indexOf r36 n).bind fun r39 =>
  (idx table r39).bind fun x40 =>
  (app s22 ([x40])).bind fun y45 =>
  some (.nx y45)) 0 (w64 (n * n)) ([])).bind fun o26 => after o26 (fun r_ => some r_) (fun s22 =>
  some s22)
set_option maxHeartbeats 4000000 in
theorem c_impl_valuesAt {M : Nat → Prop} {w : World} {pa0 : Option Addr} {pn0 pc0 : Nat} {pa1 : Option Addr} {pn1 pc1 : Nat} (n : Int) (table : List Int) (pattern : List Int) (h0 : (RT.rs (RT.int .i64)).val M w (.slice pa0 pn0 pc0) table ([])) (h1 : (RT.rs (RT.int .i64)).val M w (.slice pa1 pn1 pc1) pattern ([])) (hM : ∀ g, w.heap.size ≤ g → M g) {r : (List Int)} (hs : s_impl_valuesAt n table pattern = some r) :
    Gives Try.prog 68 [(.int .i64 n), (.slice pa0 pn0 pc0), (.slice pa1 pn1 pc1)] w (fun v w' => ∃ (ra0 : Option Addr) (rn0 rc0 : Nat) (rf0 : List Nat), v = (.slice ra0 rn0 rc0) ∧ Chg [] w w' ∧ (RT.os 3 (RT.int .i64)).val M w' (.slice ra0 rn0 rc0) r rf0 ∧ Own (Nw w []) (fun _ => True) w' (rf0 ++ ([]))) := by
  refine calls_fr Try.func68 rfl Try.ntmps68 (Nat.le_of_ble_eq_true rfl) ?_
  have hO := Own.start (N := Nw w []) hM Nw.fut
  have hC := Chg.refl [] w
  unfold s_impl_valuesAt at hs
  refine wp_mono (Q := KPost (k_impl_valuesAt M w r)) ?_ (fun e a w1 h => ?_)
  rotate_left
  · cases e
    case ret =>
      obtain ⟨σ, ra0, rn0, rc0, rf0, rfl, hrest⟩ := h
      exact ret1x Try.results68 (res_tmp rfl) ⟨ra0, rn0, rc0, rf0, rfl, hrest⟩
    all_goals exact (h : False).elim
  refine c_seq ?_
  refine c_region ?_
  refine pl_val (.slice none 0 0) (y_assign rfl) ?_
  refine c_nil ?_
  refine c_seq ?_
  refine c_region ?_
  obtain ⟨w3, g3, ew3, eg3, hC3, hb3⟩ := new_block w [] 3
  refine pl_val (w' := w3) (.slice (some ⟨g3, 0, none⟩) 0 0) (y_bslice rfl (by rw [ew3, eg3]; kernel_rfl)) ?_
  have h0 := h0.ext hC3
  have h1 := h1.ext hC3
  have hC := hC.ext hC3
  have hO := hO.new (X' := [g3]) hC3 (fun q hq => by rw [List.mem_singleton.1 hq, eg3]; exact Nat.le_refl _) (List.nodup_cons.2 ⟨(fun h => nomatch h), List.nodup_nil⟩) (fun q hq => by rw [List.mem_singleton.1 hq]; exact hb3.lt)
  have hv3 := os_of_box (r := (RT.int .i64)) (M := M) (css := []) (fps := []) (xs := ([] : List Int)) hb3 trivial (Nat.zero_le _) (List.nodup_cons.2 ⟨(fun h => nomatch h), List.nodup_nil⟩)
  have hv3 : (RT.os 3 (RT.int .i64)).val M w3 (.slice (some ⟨g3, 0, none⟩) 0 0) [] [g3] := hv3
  refine pl_val (.slice (some ⟨g3, 0, none⟩) 0 0) (y_assign rfl) ?_
  refine c_nil ?_
  refine c_seq ?_
  refine c_seq ?_
  refine c_region ?_
  refine pl_val (.int .i64 0) (y_assign rfl) ?_
  refine c_nil ?_
  obtain ⟨o26, hl27, hs⟩ := bind_some hs
  refine wp_block ?_
  refine wp_forC (id := 0) (w64 (n * n)) (I := fun k24 s22 a w23 => ∃ (σ : Nat → Value) (a28 : Option Addr) (n28 : Nat) (c28 : Nat) (f28 : List Nat), a = fr 31 (ovl σ [(0, (.int .i64 n)), (1, (.slice pa0 pn0 pc0)), (2, (.slice pa1 pn1 pc1)), (7, (.slice a28 n28 c28)), (8, (.int .i64 k24))]) ∧ Chg [] w w23 ∧ Own (Nw w []) M w23 (f28 ++ []) ∧ (RT.rs (RT.int .i64)).val M w23 (.slice pa0 pn0 pc0) table ([]) ∧ (RT.rs (RT.int .i64)).val M w23 (.slice pa1 pn1 pc1) pattern ([]) ∧ (RT.os 3 (RT.int .i64)).val M w23 (.slice a28 n28 c28) s22 f28) (J := fun s22 a w23 => ∃ (σ : Nat → Value) (a30 : Option Addr) (n30 : Nat) (c30 : Nat) (f30 : List Nat), a = fr 31 (ovl σ [(7, (.slice a30 n30 c30))]) ∧ Chg [] w w23 ∧ Own (Nw w []) M w23 (f30 ++ []) ∧ (RT.rs (RT.int .i64)).val M w23 (.slice pa0 pn0 pc0) table ([]) ∧ (RT.rs (RT.int .i64)).val M w23 (.slice pa1 pn1 pc1) pattern ([]) ∧ (RT.os 3 (RT.int .i64)).val M w23 (.slice a30 n30 c30) s22 f30) (K := (k_impl_valuesAt M w)) ?_ ?_ 0 ([]) o26 _ _ ?_ hl27 ?_
  · rintro k24 s22 a w23 ⟨σ, a28, n28, c28, f28, rfl, hC, hO, h0, h1, hv28⟩ hlt
    refine c_seq ?_
    refine c_seq ?_
    refine c_region ?_
    refine pl_val (.int .i64 k24) (y_move rfl) ?_
    refine pl_val (.int .i64 n) (y_move rfl) ?_
    refine pl_val (.int .i64 n) (y_move rfl) ?_
    refine pl_val (.int .i64 (w64 (n * n))) (y_mul rfl rfl) ?_
    refine pl_val (.bool (decide (k24 < (w64 (n * n))))) (y_lss rfl rfl) ?_
    refine c_nil ?_
    refine c_condF (congrArg Value.bool (decide_eq_false hlt)) ?_
    refine wp_exit ?_
    exact ⟨rfl, _, a28, n28, c28, f28, fr_ovl 31 ⟨rfl, trivial⟩, hC, hO, h0, h1, hv28⟩
  · rintro k24 s22 o26 a w23 ⟨σ, a28, n28, c28, f28, rfl, hC, hO, h0, h1, hv28⟩ hlt hw hs
    refine c_seq ?_
    refine c_seq ?_
    refine c_region ?_
    refine pl_val (.int .i64 k24) (y_move rfl) ?_
    refine pl_val (.int .i64 n) (y_move rfl) ?_
    refine pl_val (.int .i64 n) (y_move rfl) ?_
    refine pl_val (.int .i64 (w64 (n * n))) (y_mul rfl rfl) ?_
    refine pl_val (.bool (decide (k24 < (w64 (n * n))))) (y_lss rfl rfl) ?_
    refine c_nil ?_
    refine c_condT (congrArg Value.bool (decide_eq_true hlt)) ?_
    refine wp_skip ?_
    refine c_seq ?_
    refine wp_block ?_
    refine c_region ?_
    refine pl_val (.slice a28 n28 c28) (y_move rfl) ?_
    refine pl_val (.slice pa0 pn0 pc0) (y_move rfl) ?_
    refine pl_val (.slice pa1 pn1 pc1) (y_move rfl) ?_
    refine pl_val (.int .i64 k24) (y_move rfl) ?_
    refine pl_val (.int .i64 n) (y_move rfl) ?_
    obtain ⟨r33, hr33, hs⟩ := bind_some hs
    refine pl_call Bd72 rfl (c_impl_argsAt (M := M) k24 2 n  hO.fut hr33) ?_
    rintro _ w32 ⟨a32x0, n32x0, c32x0, f32x0, rfl, hC32, hv32x0, hOc32⟩
    have h0 := h0.ext hC32
    have h1 := h1.ext hC32
    have hv28 := hv28.ext hC32
    have hC := hC.ext hC32
    have hO := Own.join0 hO hC32 hOc32
    have hO := hO.perm (R := f32x0 ++ (f28 ++ ([]))) (by simp)
    obtain ⟨r36, hr36, hs⟩ := bind_some hs
    refine pl_call Bd74 rfl (c_impl_compose (M := (Less M f32x0)) pattern r33 (h1.sub Less.sub) (((Frz.os Frz.int)).val hv32x0 Less.sub Less.not) hO.less.fut hr36) ?_
    rintro _ w35 ⟨a35x0, n35x0, c35x0, f35x0, rfl, hC35, hv35x0, hOc35⟩
    have h0 := h0.ext hC35
    have h1 := h1.ext hC35
    have hv28 := hv28.ext hC35
    have hv32x0 := hv32x0.ext hC35
    have hC := hC.ext hC35
    have hO := Own.join0 hO hC35 hOc35
    have hO := hO.perm (R := f35x0 ++ (f32x0 ++ (f28 ++ ([])))) (by simp)
    have hv35x0 := hv35x0.free (M' := M) (Free.os Free.int)
    refine pl_val (.int .i64 n) (y_move rfl) ?_
    obtain ⟨r39, hr39, hs⟩ := bind_some hs
    refine pl_call Bd73 rfl (c_impl_indexOf (M := (Less M f35x0)) r36 n (((Frz.os Frz.int)).val hv35x0 Less.sub Less.not) hO.less.fut hr39) ?_
    rintro _ w38 ⟨rfl, hC38⟩
    have h0 := h0.ext hC38
    have h1 := h1.ext hC38
    have hv28 := hv28.ext hC38
    have hv32x0 := hv32x0.ext hC38
    have hv35x0 := hv35x0.ext hC38
    have hC := hC.ext hC38
    have hO := hO.ext hC38
    obtain ⟨x40, hx40, hs⟩ := bind_some hs
    obtain ⟨b41, o41, hp41, ha41⟩ := rs_idx Sl22 Sz3 h0 hx40
    refine pl_val (.pointer (some ⟨b41, o41, none⟩)) (hp41 _ _ _ _ _ _ _ _ _ rfl rfl) ?_
    refine pl_val (.int .i64 x40) (y_load rfl ((at_load_int Ag3 Sz3 ha41) _ (Chg.refl _ _))) ?_
    obtain ⟨w42, g42, ew42, eg42, hC42, hb42⟩ := new_block w38 [(.int .i64 x40)] 3
    refine pl_val (w' := w42) (.slice (some ⟨g42, 0, none⟩) 1 1) (y_bslice rfl (by rw [ew42, eg42]; kernel_rfl)) ?_
    have h0 := h0.ext hC42
    have h1 := h1.ext hC42
    have hv28 := hv28.ext hC42
    have hv32x0 := hv32x0.ext hC42
    have hv35x0 := hv35x0.ext hC42
    have hC := hC.ext hC42
    have hO := hO.new (X' := [g42]) hC42 (fun q hq => by rw [List.mem_singleton.1 hq, eg42]; exact Nat.le_refl _) (List.nodup_cons.2 ⟨(fun h => nomatch h), List.nodup_nil⟩) (fun q hq => by rw [List.mem_singleton.1 hq]; exact hb42.lt)
    have hv42 := os_of_box (r := (RT.int .i64)) (M := M) (css := [[(.int .i64 x40)]]) (fps := [([] : List Nat)]) (xs := ([x40] : List Int)) hb42 ⟨⟨rfl, rfl⟩, trivial⟩ (Nat.le_of_ble_eq_true rfl) (List.nodup_cons.2 ⟨(fun h => nomatch h), List.nodup_nil⟩)
    have hv42 : (RT.os 3 (RT.int .i64)).val M w42 (.slice (some ⟨g42, 0, none⟩) 1 1) [x40] [g42] := hv42
    obtain ⟨y45, hy45, hs⟩ := bind_some hs
    have hO := hO.fr3
    obtain ⟨a44, n44, c44, w44, f44, hr44, hC44, hf44, hv44⟩ := app_os Rw22 hy45 hv28 hv42 hO.inM (fun g hg hq => hO.apart g hq (mem_l hg))
    have hG44 := os_block hv28
    refine pl_val (w' := w44) (.slice a44 n44 c44) (y_append rfl rfl (hr44 _)) ?_
    have hO := hO.fr1
    have hO := hO.fr1
    have h0 := h0.mut hC44 (fun g hg => hO.inM g (hG44 g hg)) (fun _ _ h => nomatch h)
    have h1 := h1.mut hC44 (fun g hg => hO.inM g (hG44 g hg)) (fun _ _ h => nomatch h)
    have hv32x0 := hv32x0.mut hC44 (fun g hg => hO.inM g (hG44 g hg)) (fun g hg e => hO.apart g (hG44 g hg) (mem_r (mem_r (mem_l (e)))))
    have hv35x0 := hv35x0.mut hC44 (fun g hg => hO.inM g (hG44 g hg)) (fun g hg e => hO.apart g (hG44 g hg) (mem_r (mem_l (e))))
    have hC := hC.step hC44 (fun g hg => hO.inN g (hG44 g hg))
    have hO := hO.eat hC44 hf44 (os_nodup hv44) hv44.fpl
    refine pl_val (.slice a44 n44 c44) (y_assign rfl) ?_
    refine c_nil ?_
    refine c_region ?_
    refine pl_val (.int .i64 k24) (y_move rfl) ?_
    refine pl_val (.int .i64 (w64 (k24 + 1))) (y_add rfl rfl) ?_
    refine pl_val (.int .i64 (w64 (k24 + 1))) (y_assign rfl) ?_
    refine c_nil ?_
    cases hs
    have hO := hO.fr1
    have hO := hO.drop
    have hO := hO.fr1
    have hO := hO.drop
    exact ⟨_, a44, n44, c44, f44, fr_ovl 31 ⟨rfl, rfl, rfl, rfl, congrArg (Value.int .i64) hw, trivial⟩, hC, hO, h0, h1, hv44⟩
  · skip
    exact ⟨_, (some ⟨g3, 0, none⟩), 0, 0, ([g3]), fr_ovl 31 ⟨rfl, rfl, rfl, rfl, rfl, trivial⟩, hC, hO, h0, h1, hv3⟩
  · cases o26 with
    | nx _ => exact True.intro
    | rt r_ =>
      have hs := after_rt hs
      intro a1 w1 hK
      cases hs
      exact hK
    | br s22 =>
      have hs := after_br hs
      rintro a1 w23 ⟨σ, a30, n30, c30, f30, rfl, hC, hO, h0, h1, hv30⟩
      refine c_seq ?_
      refine c_region ?_
      refine pl_val (.slice a30 n30 c30) (y_move rfl) ?_
      refine pl_val (.slice a30 n30 c30) (y_assign rfl) ?_
      refine c_nil ?_
      refine wp_ret ?_
      cases hs
      exact ⟨_, a30, n30, c30, f30, fr_ovl 31 ⟨rfl, trivial⟩, hC, hv30, hO.top⟩

def k_impl_sameList (M : Nat → Prop) (w0 : World) (r : Bool) (a : Act) (w : World) : Prop :=
  ∃ (σ : Nat → Value) , a = fr 26 (ovl σ [(4, (.bool r))]) ∧ Chg [] w0 w
def s_impl_sameList (a_ : List Int) (b : List Int) : Option (Bool) :=
  (bif ((a_.length : Int) != (b.length : Int)) then some false else (forC (S := Unit) (R := Bool) (fun k11 s9 =>
  (idx a_ k11).bind fun x15 =>
  (idx b k11).bind fun x17 =>
  (bif (x17 != x15) then some (.rt false) else some (.nx ()))) 0 (a_.length : Int) ()).bind fun o13 => after o13 (fun r_ => some r_) (fun s9 =>
  some true))
set_option maxHeartbeats 4000000 in
theorem c_impl_sameList {M : Nat → Prop} {w : World} {pa0 : Option Addr} {pn0 pc0 : Nat} {pa1 : Option Addr} {pn1 pc1 : Nat} (a_ : List Int) (b : List Int) (h0 : (RT.rs (RT.int .i64)).val M w (.slice pa0 pn0 pc0) a_ ([])) (h1 : (RT.rs (RT.int .i64)).val M w (.slice pa1 pn1 pc1) b ([])) (hM : ∀ g, w.heap.size ≤ g → M g) {r : Bool} (hs : s_impl_sameList a_ b = some r) :
    Gives Try.prog 43 [(.slice pa0 pn0 pc0), (.slice pa1 pn1 pc1)] w (fun v w' => v = (.bool r) ∧ Chg [] w w') := by
  refine calls_fr Try.func43 rfl Try.ntmps43 (Nat.le_of_ble_eq_true rfl) ?_
  have hO := Own.start (N := Nw w []) hM Nw.fut
  have hC := Chg.refl [] w
  unfold s_impl_sameList at hs
  refine wp_mono (Q := KPost (k_impl_sameList M w r)) ?_ (fun e a w1 h => ?_)
  rotate_left
  · cases e
    case ret =>
      obtain ⟨σ, rfl, hrest⟩ := h
      exact ret1x Try.results43 (res_tmp rfl) ⟨rfl, hrest⟩
    all_goals exact (h : False).elim
  refine c_seq ?_
  refine c_region ?_
  refine pl_val (.bool false) (y_assign rfl) ?_
  refine c_nil ?_
  refine c_seq ?_
  refine c_seq ?_
  refine c_region ?_
  refine pl_val (.slice pa0 pn0 pc0) (y_move rfl) ?_
  refine pl_val (.int .i64 (a_.length : Int)) (y_len' Sl22 (rs_len h0) rfl) ?_
  refine pl_val (.slice pa1 pn1 pc1) (y_move rfl) ?_
  refine pl_val (.int .i64 (b.length : Int)) (y_len' Sl22 (rs_len h1) rfl) ?_
  refine pl_val (.bool ((a_.length : Int) != (b.length : Int))) (y_neq rfl rfl) ?_
  refine c_nil ?_
  rcases bif_some hs with ⟨hc3, hs⟩ | ⟨hc3, hs⟩
  · skip
    refine c_condT (congrArg Value.bool hc3) ?_
    refine c_seq ?_
    refine c_region ?_
    refine pl_val (.bool false) (y_assign rfl) ?_
    refine c_nil ?_
    refine wp_ret ?_
    cases hs
    exact ⟨_, fr_ovl 26 ⟨rfl, trivial⟩, hC⟩
  · skip
    refine c_condF (congrArg Value.bool hc3) ?_
    refine wp_skip ?_
    refine c_seq ?_
    refine c_seq ?_
    refine c_region ?_
    refine pl_val (.slice pa0 pn0 pc0) (y_move rfl) ?_
    refine pl_val (.int .i64 (a_.length : Int)) (y_len' Sl22 (rs_len h0) rfl) ?_
    refine pl_val (.int .i64 0) (y_move rfl) ?_
    refine c_nil ?_
    obtain ⟨o13, hl14, hs⟩ := bind_some hs
    refine wp_block ?_
    refine wp_forC (id := 0) (a_.length : Int) (I := fun k11 s9 a w10 => ∃ (σ : Nat → Value), a = fr 26 (ovl σ [(1, (.slice pa1 pn1 pc1)), (12, (.slice pa0 pn0 pc0)), (13, (.int .i64 (a_.length : Int))), (14, (.int .i64 k11))]) ∧ Chg [] w w10 ∧ Own (Nw w []) M w10 ([]) ∧ (RT.rs (RT.int .i64)).val M w10 (.slice pa0 pn0 pc0) a_ ([]) ∧ (RT.rs (RT.int .i64)).val M w10 (.slice pa1 pn1 pc1) b ([])) (J := fun s9 a w10 => ∃ (σ : Nat → Value), a = fr 26 (ovl σ []) ∧ Chg [] w w10 ∧ Own (Nw w []) M w10 ([]) ∧ (RT.rs (RT.int .i64)).val M w10 (.slice pa0 pn0 pc0) a_ ([]) ∧ (RT.rs (RT.int .i64)).val M w10 (.slice pa1 pn1 pc1) b ([])) (K := (k_impl_sameList M w)) ?_ ?_ 0 () o13 _ _ ?_ hl14 ?_
    · rintro k11 s9 a w10 ⟨σ, rfl, hC, hO, h0, h1⟩ hlt
      refine c_seq ?_
      refine c_region ?_
      refine pl_val (.bool (decide (k11 < (a_.length : Int)))) (y_lss rfl rfl) ?_
      refine c_nil ?_
      refine c_seq ?_
      refine c_condF (congrArg Value.bool (decide_eq_false hlt)) ?_
      refine wp_exit ?_
      exact ⟨rfl, _, fr_ovl 26 trivial, hC, hO, h0, h1⟩
    · rintro k11 s9 o13 a w10 ⟨σ, rfl, hC, hO, h0, h1⟩ hlt hw hs
      refine c_seq ?_
      refine c_region ?_
      refine pl_val (.bool (decide (k11 < (a_.length : Int)))) (y_lss rfl rfl) ?_
      refine c_nil ?_
      refine c_seq ?_
      refine c_condT (congrArg Value.bool (decide_eq_true hlt)) ?_
      refine wp_skip ?_
      refine c_seq ?_
      refine wp_block ?_
      refine c_seq ?_
      refine c_region ?_
      refine pl_val (.int .i64 k11) (y_move rfl) ?_
      obtain ⟨x15, hx15, hs⟩ := bind_some hs
      obtain ⟨b16, o16, hp16, ha16⟩ := rs_idx Sl22 Sz3 h0 hx15
      refine pl_val (.pointer (some ⟨b16, o16, none⟩)) (hp16 _ _ _ _ _ _ _ _ _ rfl rfl) ?_
      refine pl_val (.int .i64 x15) (y_load rfl ((at_load_int Ag3 Sz3 ha16) _ (Chg.refl _ _))) ?_
      refine pl_val (.int .i64 k11) (y_assign rfl) ?_
      refine pl_val (.int .i64 x15) (y_assign rfl) ?_
      refine c_nil ?_
      refine c_seq ?_
      refine c_region ?_
      refine pl_val (.slice pa1 pn1 pc1) (y_move rfl) ?_
      refine pl_val (.int .i64 k11) (y_move rfl) ?_
      obtain ⟨x17, hx17, hs⟩ := bind_some hs
      obtain ⟨b18, o18, hp18, ha18⟩ := rs_idx Sl22 Sz3 h1 hx17
      refine pl_val (.pointer (some ⟨b18, o18, none⟩)) (hp18 _ _ _ _ _ _ _ _ _ rfl rfl) ?_
      refine pl_val (.int .i64 x17) (y_load rfl ((at_load_int Ag3 Sz3 ha18) _ (Chg.refl _ _))) ?_
      refine pl_val (.int .i64 x15) (y_move rfl) ?_
      refine pl_val (.bool (x17 != x15)) (y_neq rfl rfl) ?_
      refine c_nil ?_
      rcases bif_some hs with ⟨hc19, hs⟩ | ⟨hc19, hs⟩
      · skip
        refine c_condT (congrArg Value.bool hc19) ?_
        refine c_seq ?_
        refine c_region ?_
        refine pl_val (.bool false) (y_assign rfl) ?_
        refine c_nil ?_
        refine wp_ret ?_
        cases hs
        exact ⟨_, fr_ovl 26 ⟨rfl, trivial⟩, hC⟩
      · skip
        refine c_condF (congrArg Value.bool hc19) ?_
        refine wp_skip ?_
        refine c_region ?_
        refine pl_val (.int .i64 (w64 (k11 + 1))) (y_add rfl rfl) ?_
        refine pl_val (.int .i64 (w64 (k11 + 1))) (y_move rfl) ?_
        refine c_nil ?_
        cases hs
        exact ⟨_, fr_ovl 26 ⟨rfl, rfl, rfl, congrArg (Value.int .i64) hw, trivial⟩, hC, hO, h0, h1⟩
    · skip
      exact ⟨_, fr_ovl 26 ⟨rfl, rfl, rfl, rfl, trivial⟩, hC, hO, h0, h1⟩
    · cases o13 with
      | nx _ => exact True.intro
      | rt r_ =>
        have hs := after_rt hs
        intro a1 w1 hK
        cases hs
        exact hK
      | br s9 =>
        have hs := after_br hs
        rintro a1 w10 ⟨σ, rfl, hC, hO, h0, h1⟩
        refine c_seq ?_
        refine c_region ?_
        refine pl_val (.bool true) (y_assign rfl) ?_
        refine c_nil ?_
        refine wp_ret ?_
        cases hs
        exact ⟨_, fr_ovl 26 ⟨rfl, trivial⟩, hC⟩

theorem Sl50 : SlT Try.prog 50 22 := Try.underlying50

theorem Bd68 : Bodied Try.prog 68 := bodied Try.func68 (by kernel_rfl) rfl

theorem Bd43 : Bodied Try.prog 43 := bodied Try.func43 (by kernel_rfl) rfl

def k_impl_hasValuesAt (M : Nat → Prop) (w0 : World) (r : Bool) (a : Act) (w : World) : Prop :=
  ∃ (σ : Nat → Value) , a = fr 33 (ovl σ [(8, (.bool r))]) ∧ Chg [] w0 w
def s_impl_hasValuesAt (n : Int) (op : Int × (List Int)) (patterns : List (List Int)) (wants : List (List Int)) : Option (Bool) :=
  (bif (op.1 != 3) then some false else (forC (S := Unit) (R := Bool) (fun k23 s21 =>
  (idx patterns k23).bind fun x27 =>
  (idx wants k23).bind fun x32 =>
  (s_impl_valuesAt n op.2 x27).bind fun r37 =>
  (s_impl_sameList r37 x32).bind fun r40 =>
  (bif (!r40) then some (.rt false) else some (.nx ()))) 0 (patterns.length : Int) ()).bind fun o25 => after o25 (fun r_ => some r_) (fun s21 =>
  some true))
set_option maxHeartbeats 4000000 in
theorem c_impl_hasValuesAt {M : Nat → Prop} {w : World} {pa0 : Option Addr} {pn0 pc0 : Nat} {pa1 : Option Addr} {pn1 pc1 : Nat} {pa2 : Option Addr} {pn2 pc2 : Nat} (n : Int) (op : Int × (List Int)) (patterns : List (List Int)) (wants : List (List Int)) (h0 : (RT.rs (RT.int .i64)).val M w (.slice pa0 pn0 pc0) op.2 ([])) (h1 : (RT.rs (RT.rs (RT.int .i64))).val M w (.slice pa1 pn1 pc1) patterns ([])) (h2 : (RT.rs (RT.rs (RT.int .i64))).val M w (.slice pa2 pn2 pc2) wants ([])) (hM : ∀ g, w.heap.size ≤ g → M g) {r : Bool} (hs : s_impl_hasValuesAt n op patterns wants = some r) :
    Gives Try.prog 54 [(.int .i64 n), (.agg #[(.int .i64 op.1), (.slice pa0 pn0 pc0)]), (.slice pa1 pn1 pc1), (.slice pa2 pn2 pc2)] w (fun v w' => v = (.bool r) ∧ Chg [] w w') := by
  refine calls_fr Try.func54 rfl Try.ntmps54 (Nat.le_of_ble_eq_true rfl) ?_
  have hO := Own.start (N := Nw w []) hM Nw.fut
  have hC := Chg.refl [] w
  unfold s_impl_hasValuesAt at hs
  refine wp_mono (Q := KPost (k_impl_hasValuesAt M w r)) ?_ (fun e a w1 h => ?_)
  rotate_left
  · cases e
    case ret =>
      obtain ⟨σ, rfl, hrest⟩ := h
      exact ret1x Try.results54 (res_tmp rfl) ⟨rfl, hrest⟩
    all_goals exact (h : False).elim
  refine c_seq ?_
  refine c_region ?_
  obtain ⟨w4, g4, ew4, eg4, hC4, hb4⟩ := new_block w [(.int .i64 op.1), (.slice pa0 pn0 pc0)] 24
  refine pl_val (w' := w4) (.pointer (some ⟨g4, 0, none⟩)) (y_box rfl (by rw [ew4, eg4]; kernel_rfl)) ?_
  have h0 := h0.ext hC4
  have h1 := h1.ext hC4
  have h2 := h2.ext hC4
  have hC := hC.ext hC4
  have hO := hO.new (X' := [g4]) hC4 (fun q hq => by rw [List.mem_singleton.1 hq, eg4]; exact Nat.le_refl _) (List.nodup_cons.2 ⟨(fun h => nomatch h), List.nodup_nil⟩) (fun q hq => by rw [List.mem_singleton.1 hq]; exact hb4.lt)
  refine pl_val (.bool false) (y_assign rfl) ?_
  refine c_nil ?_
  refine c_seq ?_
  refine c_seq ?_
  refine c_region ?_
  refine pl_val (.pointer (some ⟨g4, 0, none⟩)) (y_faddr rfl Fa24x0) ?_
  refine pl_val (.int .i64 op.1) (y_load rfl ((box_load Ag3 Sz3 hb4 [] [(.int .i64 op.1)] [(.slice pa0 pn0 pc0)] rfl rfl (fun _ => rfl)) _ (Chg.refl _ _))) ?_
  refine pl_val (.bool (op.1 != 3)) (y_neq rfl rfl) ?_
  refine c_nil ?_
  rcases bif_some hs with ⟨hc5, hs⟩ | ⟨hc5, hs⟩
  · skip
    refine c_condT (congrArg Value.bool hc5) ?_
    refine c_seq ?_
    refine c_region ?_
    refine pl_val (.bool false) (y_assign rfl) ?_
    refine c_nil ?_
    refine wp_ret ?_
    cases hs
    exact ⟨_, fr_ovl 33 ⟨rfl, trivial⟩, hC⟩
  · skip
    refine c_condF (congrArg Value.bool hc5) ?_
    refine wp_skip ?_
    refine c_seq ?_
    refine c_seq ?_
    refine c_region ?_
    refine pl_val (.slice pa1 pn1 pc1) (y_move rfl) ?_
    refine pl_val (.int .i64 (patterns.length : Int)) (y_len' Sl50 (rs_len h1) rfl) ?_
    refine pl_val (.int .i64 0) (y_move rfl) ?_
    refine c_nil ?_
    obtain ⟨o25, hl26, hs⟩ := bind_some hs
    refine wp_block ?_
    refine wp_forC (id := 0) (patterns.length : Int) (I := fun k23 s21 a w22 => ∃ (σ : Nat → Value), a = fr 33 (ovl σ [(0, (.int .i64 n)), (3, (.slice pa2 pn2 pc2)), (5, (.pointer (some ⟨g4, 0, none⟩))), (14, (.slice pa1 pn1 pc1)), (15, (.int .i64 (patterns.length : Int))), (16, (.int .i64 k23))]) ∧ Chg [] w w22 ∧ Own (Nw w []) M w22 (([g4]) ++ []) ∧ (RT.rs (RT.int .i64)).val M w22 (.slice pa0 pn0 pc0) op.2 ([]) ∧ (RT.rs (RT.rs (RT.int .i64))).val M w22 (.slice pa1 pn1 pc1) patterns ([]) ∧ (RT.rs (RT.rs (RT.int .i64))).val M w22 (.slice pa2 pn2 pc2) wants ([]) ∧ BoxV w22 g4 24 [(.int .i64 op.1), (.slice pa0 pn0 pc0)]) (J := fun s21 a w22 => ∃ (σ : Nat → Value), a = fr 33 (ovl σ []) ∧ Chg [] w w22 ∧ Own (Nw w []) M w22 (([g4]) ++ []) ∧ (RT.rs (RT.int .i64)).val M w22 (.slice pa0 pn0 pc0) op.2 ([]) ∧ (RT.rs (RT.rs (RT.int .i64))).val M w22 (.slice pa1 pn1 pc1) patterns ([]) ∧ (RT.rs (RT.rs (RT.int .i64))).val M w22 (.slice pa2 pn2 pc2) wants ([]) ∧ BoxV w22 g4 24 [(.int .i64 op.1), (.slice pa0 pn0 pc0)]) (K := (k_impl_hasValuesAt M w)) ?_ ?_ 0 () o25 _ _ ?_ hl26 ?_
    · rintro k23 s21 a w22 ⟨σ, rfl, hC, hO, h0, h1, h2, hb4⟩ hlt
      refine c_seq ?_
      refine c_region ?_
      refine pl_val (.bool (decide (k23 < (patterns.length : Int)))) (y_lss rfl rfl) ?_
      refine c_nil ?_
      refine c_seq ?_
      refine c_condF (congrArg Value.bool (decide_eq_false hlt)) ?_
      refine wp_exit ?_
      exact ⟨rfl, _, fr_ovl 33 trivial, hC, hO, h0, h1, h2, hb4⟩
    · rintro k23 s21 o25 a w22 ⟨σ, rfl, hC, hO, h0, h1, h2, hb4⟩ hlt hw hs
      refine c_seq ?_
      refine c_region ?_
      refine pl_val (.bool (decide (k23 < (patterns.length : Int)))) (y_lss rfl rfl) ?_
      refine c_nil ?_
      refine c_seq ?_
      refine c_condT (congrArg Value.bool (decide_eq_true hlt)) ?_
      refine wp_skip ?_
      refine c_seq ?_
      refine wp_block ?_
      refine c_seq ?_
      refine c_region ?_
      refine pl_val (.int .i64 k23) (y_move rfl) ?_
      obtain ⟨x27, hx27, hs⟩ := bind_some hs
      obtain ⟨b28, o28, hp28, ha28⟩ := rs_idx Sl50 Sz22 h1 hx27
      refine pl_val (.pointer (some ⟨b28, o28, none⟩)) (hp28 _ _ _ _ _ _ _ _ _ rfl rfl) ?_
      obtain ⟨v29, hl29, hv29⟩ := at_load Ag22 Sz22 (fun _ => rfl) ha28
      obtain ⟨a29, n29, c29, rfl⟩ := rs_sl hv29
      refine pl_val (.slice a29 n29 c29) (y_load rfl (hl29 _ (Chg.refl _ _))) ?_
      refine pl_val (.int .i64 k23) (y_assign rfl) ?_
      refine pl_val (.slice a29 n29 c29) (y_assign rfl) ?_
      refine c_nil ?_
      refine c_seq ?_
      refine x_start [] Mx rfl ?_
      have hCw31 := Chg.drew w22
      generalize World.drew w22 = w31 at hCw31 ⊢
      have h0 := h0.ext hCw31
      have h1 := h1.ext hCw31
      have h2 := h2.ext hCw31
      have hb4 := hb4.chg hCw31 (fun h => nomatch h)
      have hv29 := hv29.ext hCw31
      have hC := hC.ext hCw31
      have hO := hO.ext hCw31
      have hS := Chg.refl [] w31
      refine x_p 0 (.int .i64 n) rfl (by kernel_rfl)  (fun _ => y_move rfl) (fun _ => hS) ?_
      refine x_p 1 (.pointer (some ⟨g4, 1, none⟩)) rfl (by kernel_rfl)  (fun _ => y_faddr rfl Fa24x1) (fun _ => hS) ?_
      refine x_l 2 (.slice pa0 pn0 pc0) rfl (by kernel_rfl)  (fun w' hw' => y_load rfl ((box_load Ag22 Sz22 hb4 [(.int .i64 op.1)] [(.slice pa0 pn0 pc0)] [] rfl rfl (fun _ => rfl)) w' hw')) hS ?_
      refine x_p 3 (.slice a29 n29 c29) rfl (by kernel_rfl)  (fun _ => y_move rfl) (fun _ => hS) ?_
      refine x_p 5 (.slice pa2 pn2 pc2) rfl (by kernel_rfl)  (fun _ => y_move rfl) (fun _ => hS) ?_
      refine x_p 6 (.int .i64 k23) rfl (by kernel_rfl)  (fun _ => y_move rfl) (fun _ => hS) ?_
      obtain ⟨x32, hx32, hs⟩ := bind_some hs
      obtain ⟨b33, o33, hp33, ha33⟩ := rs_idx Sl50 Sz22 h2 hx32
      refine x_p 7 (.pointer (some ⟨b33, o33, none⟩)) rfl (by kernel_rfl)  (fun _ => hp33 _ _ _ _ _ _ _ _ _ rfl rfl) (fun _ => hS) ?_
      obtain ⟨v34, hl34, hv34⟩ := at_load Ag22 Sz22 (fun _ => rfl) ha33
      obtain ⟨a34, n34, c34, rfl⟩ := rs_sl hv34
      refine x_l 8 (.slice a34 n34 c34) rfl (by kernel_rfl)  (fun w' hw' => y_load rfl (hl34 w' hw')) hS ?_
      refine x_one (i := 4) (by kernel_rfl) ?_
      obtain ⟨r37, hr37, hs⟩ := bind_some hs
      refine xk_call (b := false) rfl  Bd68 rfl (c_impl_valuesAt (M := M) n op.2 x27 h0 hv29 hO.fut hr37) rfl (by rintro _ _ _ ⟨a36x0, n36x0, c36x0, f36x0, rfl, hC36, hv36x0, hOc36⟩; exact hS.ext hC36) ?_
      rintro _ w36 ⟨a36x0, n36x0, c36x0, f36x0, rfl, hC36, hv36x0, hOc36⟩
      have h0 := h0.ext hC36
      have h1 := h1.ext hC36
      have h2 := h2.ext hC36
      have hb4 := hb4.chg hC36 (fun h => nomatch h)
      have hv29 := hv29.ext hC36
      have hv34 := hv34.ext hC36
      have hC := hC.ext hC36
      have hO := Own.join0 hO hC36 hOc36
      have hO := hO.perm (R := f36x0 ++ (([g4]) ++ ([]))) (by simp)
      have hS := hS.ext hC36
      refine x_one (i := 9) (by kernel_rfl) ?_
      obtain ⟨r40, hr40, hs⟩ := bind_some hs
      refine xk_call (b := false) rfl  Bd43 rfl (c_impl_sameList (M := (Less M f36x0)) r37 x32 (((Frz.os Frz.int)).val hv36x0 Less.sub Less.not) (hv34.sub Less.sub) hO.less.fut hr40) rfl (by rintro _ _ _ ⟨rfl, hC39⟩; exact hS.ext hC39) ?_
      rintro _ w39 ⟨rfl, hC39⟩
      have h0 := h0.ext hC39
      have h1 := h1.ext hC39
      have h2 := h2.ext hC39
      have hb4 := hb4.chg hC39 (fun h => nomatch h)
      have hv29 := hv29.ext hC39
      have hv34 := hv34.ext hC39
      have hv36x0 := hv36x0.ext hC39
      have hC := hC.ext hC39
      have hO := hO.ext hC39
      have hS := hS.ext hC39
      refine x_p 10 (.bool (!r40)) rfl (by kernel_rfl)  (fun _ => y_not rfl) (fun _ => hS) ?_
      refine x_end (by kernel_rfl) ?_
      clear hS
      rcases bif_some hs with ⟨hc41, hs⟩ | ⟨hc41, hs⟩
      · skip
        refine c_condT (congrArg Value.bool hc41) ?_
        refine c_seq ?_
        refine c_region ?_
        refine pl_val (.bool false) (y_assign rfl) ?_
        refine c_nil ?_
        refine wp_ret ?_
        cases hs
        exact ⟨_, fr_ovl 33 ⟨rfl, trivial⟩, hC⟩
      · skip
        refine c_condF (congrArg Value.bool hc41) ?_
        refine wp_skip ?_
        refine c_region ?_
        refine pl_val (.int .i64 (w64 (k23 + 1))) (y_add rfl rfl) ?_
        refine pl_val (.int .i64 (w64 (k23 + 1))) (y_move rfl) ?_
        refine c_nil ?_
        cases hs
        have hO := hO.drop
        exact ⟨_, fr_ovl 33 ⟨rfl, rfl, rfl, rfl, rfl, congrArg (Value.int .i64) hw, trivial⟩, hC, hO, h0, h1, h2, hb4⟩
    · skip
      exact ⟨_, fr_ovl 33 ⟨rfl, rfl, rfl, rfl, rfl, rfl, trivial⟩, hC, hO, h0, h1, h2, hb4⟩
    · cases o25 with
      | nx _ => exact True.intro
      | rt r_ =>
        have hs := after_rt hs
        intro a1 w1 hK
        cases hs
        exact hK
      | br s21 =>
        have hs := after_br hs
        rintro a1 w22 ⟨σ, rfl, hC, hO, h0, h1, h2, hb4⟩
        refine c_seq ?_
        refine c_region ?_
        refine pl_val (.bool true) (y_assign rfl) ?_
        refine c_nil ?_
        refine wp_ret ?_
        cases hs
        exact ⟨_, fr_ovl 33 ⟨rfl, trivial⟩, hC⟩

theorem Bd33 : Bodied Try.prog 33 := bodied Try.func33 (by kernel_rfl) rfl

theorem Bd42 : Bodied Try.prog 42 := bodied Try.func42 (by kernel_rfl) rfl

theorem Bd53 : Bodied Try.prog 53 := bodied Try.func53 (by kernel_rfl) rfl

theorem Bd55 : Bodied Try.prog 55 := bodied Try.func55 (by kernel_rfl) rfl

theorem Bd54 : Bodied Try.prog 54 := bodied Try.func54 (by kernel_rfl) rfl

def k_impl_IsPixleyOp (M : Nat → Prop) (w0 : World) (r : Bool × Bool) (a : Act) (w : World) : Prop :=
  ∃ (σ : Nat → Value) , a = fr 32 (ovl σ [(4, (.bool r.1)), (5, (.bool r.2))]) ∧ Chg [] w0 w
def s_impl_IsPixleyOp (n : Int) (op : Int × (List Int)) : Option (Bool × Bool) :=
  ((s_impl_isSize n).bind fun r7 =>
  (bif (!r7) then some true else (s_impl_isOp (op.1, op.2) n).bind fun r10 =>
  some (!r10))).bind fun s3 =>
  (bif s3 then some (false, false) else (s_impl_firsts n).bind fun r13 =>
  (s_impl_seconds n).bind fun r16 =>
  (s_impl_hasValuesAt n (op.1, op.2) ([[0, 1, 1], [0, 1, 0], [0, 0, 1]]) ([r13, r13, r16])).bind fun r31 =>
  some (r31, true))
set_option maxHeartbeats 4000000 in
theorem c_impl_IsPixleyOp {M : Nat → Prop} {w : World} {pa0 : Option Addr} {pn0 pc0 : Nat} (n : Int) (op : Int × (List Int)) (h0 : (RT.rs (RT.int .i64)).val M w (.slice pa0 pn0 pc0) op.2 ([])) (hM : ∀ g, w.heap.size ≤ g → M g) {r : Bool × Bool} (hs : s_impl_IsPixleyOp n op = some r) :
    Gives Try.prog 30 [(.int .i64 n), (.agg #[(.int .i64 op.1), (.slice pa0 pn0 pc0)])] w (fun v w' => v = (.tuple #[(.bool r.1), (.bool r.2)]) ∧ Chg [] w w') := by
  refine calls_fr Try.func30 rfl Try.ntmps30 (Nat.le_of_ble_eq_true rfl) ?_
  have hO := Own.start (N := Nw w []) hM Nw.fut
  have hC := Chg.refl [] w
  unfold s_impl_IsPixleyOp at hs
  refine wp_mono (Q := KPost (k_impl_IsPixleyOp M w r)) ?_ (fun e a w1 h => ?_)
  rotate_left
  · cases e
    case ret =>
      obtain ⟨σ, rfl, hrest⟩ := h
      exact ret2x Try.results30 (res_tmp rfl) (res_tmp rfl) ⟨rfl, hrest⟩
    all_goals exact (h : False).elim
  refine c_seq ?_
  refine c_region ?_
  obtain ⟨w2, g2, ew2, eg2, hC2, hb2⟩ := new_block w [(.int .i64 op.1), (.slice pa0 pn0 pc0)] 24
  refine pl_val (w' := w2) (.pointer (some ⟨g2, 0, none⟩)) (y_box rfl (by rw [ew2, eg2]; kernel_rfl)) ?_
  have h0 := h0.ext hC2
  have hC := hC.ext hC2
  have hO := hO.new (X' := [g2]) hC2 (fun q hq => by rw [List.mem_singleton.1 hq, eg2]; exact Nat.le_refl _) (List.nodup_cons.2 ⟨(fun h => nomatch h), List.nodup_nil⟩) (fun q hq => by rw [List.mem_singleton.1 hq]; exact hb2.lt)
  refine pl_val (.bool false) (y_assign rfl) ?_
  refine pl_val (.bool false) (y_assign rfl) ?_
  refine c_nil ?_
  refine c_seq ?_
  refine c_seq ?_
  obtain ⟨s3, hm5, hs⟩ := bind_some hs
  refine c_mid (I := fun a w4 => ∃ (σ : Nat → Value), a = fr 32 (ovl σ [(0, (.int .i64 n)), (3, (.pointer (some ⟨g2, 0, none⟩))), (4, (.bool false)), (5, (.bool false)), (16, (.bool s3))]) ∧ Chg [] w2 w4) ?_ ?_
  · replace hs := hm5
    have hMid := Chg.refl [] w2
    refine c_region ?_
    refine pl_val (.int .i64 n) (y_move rfl) ?_
    obtain ⟨r7, hr7, hs⟩ := bind_some hs
    refine pl_call Bd33 rfl (c_impl_isSize (M := M) n  hO.fut hr7) ?_
    rintro _ w6 ⟨rfl, hC6⟩
    have h0 := h0.ext hC6
    have hb2 := hb2.chg hC6 (fun h => nomatch h)
    have hMid := hMid.ext hC6
    have hC := hC.ext hC6
    have hO := hO.ext hC6
    refine pl_val (.bool (!r7)) (y_not rfl) ?_
    refine pl_val (.bool (!r7)) (y_move rfl) ?_
    rcases bif_some hs with ⟨hc8, hs⟩ | ⟨hc8, hs⟩
    · skip
      refine pl_not (tg := 11) (by kernel_rfl) (congrArg Value.bool hc8) ?_
      refine pl_not (tg := 11) (by kernel_rfl) (congrArg Value.bool hc8) ?_
      refine pl_not (tg := 11) (by kernel_rfl) (congrArg Value.bool hc8) ?_
      refine pl_not (tg := 11) (by kernel_rfl) (congrArg Value.bool hc8) ?_
      refine pl_val (.bool true) (y_pick_t (congrArg Value.bool hc8) rfl) ?_
      refine c_nil ?_
      cases hs
      exact ⟨_, fr_ovl 32 ⟨rfl, rfl, rfl, rfl, rfl, trivial⟩, hMid⟩
    · skip
      refine pl_yes (.agg #[(.int .i64 op.1), (.slice pa0 pn0 pc0)]) (tg := 11) (by kernel_rfl) (congrArg Value.bool hc8) (y_load rfl ((box_load Ag24 Sz24 hb2 [] [(.int .i64 op.1), (.slice pa0 pn0 pc0)] [] rfl rfl (fun h => nomatch h)) _ (Chg.refl _ _))) ?_
      refine pl_yes (.int .i64 n) (tg := 11) (by kernel_rfl) (congrArg Value.bool hc8) (y_move rfl) ?_
      obtain ⟨r10, hr10, hs⟩ := bind_some hs
      refine pl_cally (tg := 11) (by kernel_rfl) (congrArg Value.bool hc8) Bd42 rfl (c_impl_isOp (M := M) (op.1, op.2) n h0 hO.fut hr10) ?_
      rintro _ w9 ⟨rfl, hC9⟩
      have h0 := h0.ext hC9
      have hb2 := hb2.chg hC9 (fun h => nomatch h)
      have hMid := hMid.ext hC9
      have hC := hC.ext hC9
      have hO := hO.ext hC9
      refine pl_yes (.bool (!r10)) (tg := 11) (by kernel_rfl) (congrArg Value.bool hc8) (y_not rfl) ?_
      refine pl_val (.bool (!r10)) (y_pick_f (congrArg Value.bool hc8) rfl) ?_
      refine c_nil ?_
      cases hs
      exact ⟨_, fr_ovl 32 ⟨rfl, rfl, rfl, rfl, rfl, trivial⟩, hMid⟩
  · rintro a1 w4 ⟨σ, rfl, hCs3⟩
    have h0 := h0.ext hCs3
    have hb2 := hb2.chg hCs3 (fun h => nomatch h)
    have hC := hC.ext hCs3
    have hO := hO.ext hCs3
    rcases bif_some hs with ⟨hc11, hs⟩ | ⟨hc11, hs⟩
    · skip
      refine c_condT (congrArg Value.bool hc11) ?_
      refine c_seq ?_
      refine c_region ?_
      refine pl_val (.bool false) (y_assign rfl) ?_
      refine pl_val (.bool false) (y_assign rfl) ?_
      refine c_nil ?_
      refine wp_ret ?_
      cases hs
      exact ⟨_, fr_ovl 32 ⟨rfl, rfl, trivial⟩, hC⟩
    · skip
      refine c_condF (congrArg Value.bool hc11) ?_
      refine wp_skip ?_
      refine c_seq ?_
      refine c_region ?_
      refine pl_val (.int .i64 n) (y_move rfl) ?_
      obtain ⟨r13, hr13, hs⟩ := bind_some hs
      refine pl_call Bd53 rfl (c_impl_firsts (M := M) n  hO.fut hr13) ?_
      rintro _ w12 ⟨a12x0, n12x0, c12x0, f12x0, rfl, hC12, hv12x0, hOc12⟩
      have h0 := h0.ext hC12
      have hb2 := hb2.chg hC12 (fun h => nomatch h)
      have hC := hC.ext hC12
      have hO := Own.join0 hO hC12 hOc12
      have hO := hO.perm (R := f12x0 ++ (([g2]) ++ ([]))) (by simp)
      refine pl_val (.int .i64 n) (y_move rfl) ?_
      obtain ⟨r16, hr16, hs⟩ := bind_some hs
      refine pl_call Bd55 rfl (c_impl_seconds (M := M) n  hO.fut hr16) ?_
      rintro _ w15 ⟨a15x0, n15x0, c15x0, f15x0, rfl, hC15, hv15x0, hOc15⟩
      have h0 := h0.ext hC15
      have hb2 := hb2.chg hC15 (fun h => nomatch h)
      have hv12x0 := hv12x0.ext hC15
      have hC := hC.ext hC15
      have hO := Own.join0 hO hC15 hOc15
      have hO := hO.perm (R := f15x0 ++ (f12x0 ++ (([g2]) ++ ([])))) (by simp)
      refine pl_val (.slice a12x0 n12x0 c12x0) (y_assign rfl) ?_
      refine pl_val (.slice a15x0 n15x0 c15x0) (y_assign rfl) ?_
      refine c_nil ?_
      refine c_seq ?_
      refine c_region ?_
      refine pl_val (.int .i64 n) (y_move rfl) ?_
      refine pl_val (.agg #[(.int .i64 op.1), (.slice pa0 pn0 pc0)]) (y_load rfl ((box_load Ag24 Sz24 hb2 [] [(.int .i64 op.1), (.slice pa0 pn0 pc0)] [] rfl rfl (fun h => nomatch h)) _ (Chg.refl _ _))) ?_
      obtain ⟨w18, g18, ew18, eg18, hC18, hb18⟩ := new_block w15 [(.int .i64 0), (.int .i64 1), (.int .i64 1)] 3
      refine pl_val (w' := w18) (.slice (some ⟨g18, 0, none⟩) 3 3) (y_bslice rfl (by rw [ew18, eg18]; kernel_rfl)) ?_
      have h0 := h0.ext hC18
      have hb2 := hb2.chg hC18 (fun h => nomatch h)
      have hv12x0 := hv12x0.ext hC18
      have hv15x0 := hv15x0.ext hC18
      have hC := hC.ext hC18
      have hO := hO.new (X' := [g18]) hC18 (fun q hq => by rw [List.mem_singleton.1 hq, eg18]; exact Nat.le_refl _) (List.nodup_cons.2 ⟨(fun h => nomatch h), List.nodup_nil⟩) (fun q hq => by rw [List.mem_singleton.1 hq]; exact hb18.lt)
      have hv18 := os_of_box (r := (RT.int .i64)) (M := M) (css := [[(.int .i64 0)], [(.int .i64 1)], [(.int .i64 1)]]) (fps := [([] : List Nat), ([] : List Nat), ([] : List Nat)]) (xs := ([0, 1, 1] : List Int)) hb18 ⟨⟨rfl, rfl⟩, ⟨⟨rfl, rfl⟩, ⟨⟨rfl, rfl⟩, trivial⟩⟩⟩ (Nat.le_of_ble_eq_true rfl) (List.nodup_cons.2 ⟨(fun h => nomatch h), List.nodup_nil⟩)
      have hv18 : (RT.os 3 (RT.int .i64)).val M w18 (.slice (some ⟨g18, 0, none⟩) 3 3) [0, 1, 1] [g18] := hv18
      obtain ⟨w20, g20, ew20, eg20, hC20, hb20⟩ := new_block w18 [(.int .i64 0), (.int .i64 1), (.int .i64 0)] 3
      refine pl_val (w' := w20) (.slice (some ⟨g20, 0, none⟩) 3 3) (y_bslice rfl (by rw [ew20, eg20]; kernel_rfl)) ?_
      have h0 := h0.ext hC20
      have hb2 := hb2.chg hC20 (fun h => nomatch h)
      have hv12x0 := hv12x0.ext hC20
      have hv15x0 := hv15x0.ext hC20
      have hv18 := hv18.ext hC20
      have hC := hC.ext hC20
      have hO := hO.new (X' := [g20]) hC20 (fun q hq => by rw [List.mem_singleton.1 hq, eg20]; exact Nat.le_refl _) (List.nodup_cons.2 ⟨(fun h => nomatch h), List.nodup_nil⟩) (fun q hq => by rw [List.mem_singleton.1 hq]; exact hb20.lt)
      have hv20 := os_of_box (r := (RT.int .i64)) (M := M) (css := [[(.int .i64 0)], [(.int .i64 1)], [(.int .i64 0)]]) (fps := [([] : List Nat), ([] : List Nat), ([] : List Nat)]) (xs := ([0, 1, 0] : List Int)) hb20 ⟨⟨rfl, rfl⟩, ⟨⟨rfl, rfl⟩, ⟨⟨rfl, rfl⟩, trivial⟩⟩⟩ (Nat.le_of_ble_eq_true rfl) (List.nodup_cons.2 ⟨(fun h => nomatch h), List.nodup_nil⟩)
      have hv20 : (RT.os 3 (RT.int .i64)).val M w20 (.slice (some ⟨g20, 0, none⟩) 3 3) [0, 1, 0] [g20] := hv20
      obtain ⟨w22, g22, ew22, eg22, hC22, hb22⟩ := new_block w20 [(.int .i64 0), (.int .i64 0), (.int .i64 1)] 3
      refine pl_val (w' := w22) (.slice (some ⟨g22, 0, none⟩) 3 3) (y_bslice rfl (by rw [ew22, eg22]; kernel_rfl)) ?_
      have h0 := h0.ext hC22
      have hb2 := hb2.chg hC22 (fun h => nomatch h)
      have hv12x0 := hv12x0.ext hC22
      have hv15x0 := hv15x0.ext hC22
      have hv18 := hv18.ext hC22
      have hv20 := hv20.ext hC22
      have hC := hC.ext hC22
      have hO := hO.new (X' := [g22]) hC22 (fun q hq => by rw [List.mem_singleton.1 hq, eg22]; exact Nat.le_refl _) (List.nodup_cons.2 ⟨(fun h => nomatch h), List.nodup_nil⟩) (fun q hq => by rw [List.mem_singleton.1 hq]; exact hb22.lt)
      have hv22 := os_of_box (r := (RT.int .i64)) (M := M) (css := [[(.int .i64 0)], [(.int .i64 0)], [(.int .i64 1)]]) (fps := [([] : List Nat), ([] : List Nat), ([] : List Nat)]) (xs := ([0, 0, 1] : List Int)) hb22 ⟨⟨rfl, rfl⟩, ⟨⟨rfl, rfl⟩, ⟨⟨rfl, rfl⟩, trivial⟩⟩⟩ (Nat.le_of_ble_eq_true rfl) (List.nodup_cons.2 ⟨(fun h => nomatch h), List.nodup_nil⟩)
      have hv22 : (RT.os 3 (RT.int .i64)).val M w22 (.slice (some ⟨g22, 0, none⟩) 3 3) [0, 0, 1] [g22] := hv22
      obtain ⟨w24, g24, ew24, eg24, hC24, hb24⟩ := new_block w22 [(.slice (some ⟨g18, 0, none⟩) 3 3), (.slice (some ⟨g20, 0, none⟩) 3 3), (.slice (some ⟨g22, 0, none⟩) 3 3)] 22
      refine pl_val (w' := w24) (.slice (some ⟨g24, 0, none⟩) 3 3) (y_bslice rfl (by rw [ew24, eg24]; kernel_rfl)) ?_
      have h0 := h0.ext hC24
      have hb2 := hb2.chg hC24 (fun h => nomatch h)
      have hv12x0 := hv12x0.ext hC24
      have hv15x0 := hv15x0.ext hC24
      have hv18 := hv18.ext hC24
      have hv20 := hv20.ext hC24
      have hv22 := hv22.ext hC24
      have hC := hC.ext hC24
      have hO := hO.fr1
      have hO := hO.fr2
      have hO := hO.new (X' := [g24]) hC24 (fun q hq => by rw [List.mem_singleton.1 hq, eg24]; exact Nat.le_refl _) (List.nodup_cons.2 ⟨(fun h => nomatch h), List.nodup_nil⟩) (fun q hq => by rw [List.mem_singleton.1 hq]; exact hb24.lt)
      have hO := hO.perm (R := (g24 :: ((([g18])) ++ ((([g20])) ++ ((([g22])) ++ ([]))))) ++ (f15x0 ++ (f12x0 ++ (([g2]) ++ ([]))))) (by simp)
      have hnd24 := hO.nd
      have hv24 := os_of_box (r := (RT.os 3 (RT.int .i64))) (M := M) (css := [[(.slice (some ⟨g18, 0, none⟩) 3 3)], [(.slice (some ⟨g20, 0, none⟩) 3 3)], [(.slice (some ⟨g22, 0, none⟩) 3 3)]]) (fps := [([g18] : List Nat), ([g20] : List Nat), ([g22] : List Nat)]) (xs := ([[0, 1, 1], [0, 1, 0], [0, 0, 1]] : List (List Int))) hb24 ⟨(os_unval hv18), ⟨(os_unval hv20), ⟨(os_unval hv22), trivial⟩⟩⟩ (Nat.le_of_ble_eq_true rfl) hnd24
      have hv24 : (RT.os 22 (RT.os 3 (RT.int .i64))).val M w24 (.slice (some ⟨g24, 0, none⟩) 3 3) [[0, 1, 1], [0, 1, 0], [0, 0, 1]] (g24 :: ((([g18])) ++ ((([g20])) ++ ((([g22])) ++ ([]))))) := hv24
      refine pl_val (.slice a12x0 n12x0 c12x0) (y_move rfl) ?_
      refine pl_val (.slice a12x0 n12x0 c12x0) (y_move rfl) ?_
      refine pl_val (.slice a15x0 n15x0 c15x0) (y_move rfl) ?_
      have hO := hO.fr2
      obtain ⟨M27, eM27, hs27, hk27, hO, hv27⟩ := frz_own (Frz.os Frz.int) hv12x0 hO
      have h0 := h0.sub (M' := M27) hs27
      have hv15x0 := hv15x0.sub (M' := M27) hs27
      have hv24 := hv24.sub (M' := M27) hs27
      have hK := hk27
      have hO := hO.fr1
      obtain ⟨M28, eM28, hs28, hk28, hO, hv28⟩ := frz_own (Frz.os Frz.int) hv15x0 hO
      have h0 := h0.sub (M' := M28) hs28
      have hv27 := hv27.sub (M' := M28) hs28
      have hv24 := hv24.sub (M' := M28) hs28
      have hK := hK.trans hk28
      obtain ⟨w26, g26, ew26, eg26, hC26, hb26⟩ := new_block w24 [(.slice a12x0 n12x0 c12x0), (.slice a12x0 n12x0 c12x0), (.slice a15x0 n15x0 c15x0)] 22
      refine pl_val (w' := w26) (.slice (some ⟨g26, 0, none⟩) 3 3) (y_bslice rfl (by rw [ew26, eg26]; kernel_rfl)) ?_
      have h0 := h0.ext hC26
      have hb2 := hb2.chg hC26 (fun h => nomatch h)
      have hv27 := hv27.ext hC26
      have hv28 := hv28.ext hC26
      have hv24 := hv24.ext hC26
      have hC := hC.ext hC26
      have hO := hO.new (X' := [g26]) hC26 (fun q hq => by rw [List.mem_singleton.1 hq, eg26]; exact Nat.le_refl _) (List.nodup_cons.2 ⟨(fun h => nomatch h), List.nodup_nil⟩) (fun q hq => by rw [List.mem_singleton.1 hq]; exact hb26.lt)
      have hv26 := os_of_box (r := (RT.rs (RT.int .i64))) (M := M28) (css := [[(.slice a12x0 n12x0 c12x0)], [(.slice a12x0 n12x0 c12x0)], [(.slice a15x0 n15x0 c15x0)]]) (fps := [([] : List Nat), ([] : List Nat), ([] : List Nat)]) (xs := ([r13, r13, r16] : List (List Int))) hb26 ⟨(rs_unval hv27), ⟨(rs_unval hv27), ⟨(rs_unval hv28), trivial⟩⟩⟩ (Nat.le_of_ble_eq_true rfl) (List.nodup_cons.2 ⟨(fun h => nomatch h), List.nodup_nil⟩)
      have hv26 : (RT.os 22 (RT.rs (RT.int .i64))).val M28 w26 (.slice (some ⟨g26, 0, none⟩) 3 3) [r13, r13, r16] [g26] := hv26
      have hO := hO.fr1
      obtain ⟨r31, hr31, hs⟩ := bind_some hs
      refine pl_call Bd54 rfl (c_impl_hasValuesAt (M := (Less (Less M28 (g24 :: ((([g18])) ++ ((([g20])) ++ ((([g22])) ++ ([])))))) ([g26]))) n (op.1, op.2) ([[0, 1, 1], [0, 1, 0], [0, 0, 1]]) ([r13, r13, r16]) ((h0.sub Less.sub).sub Less.sub) ((((Frz.os (Frz.os Frz.int))).val hv24 Less.sub Less.not).sub Less.sub) (((Frz.os (Frz.rs Frz.int))).val (hv26.sub Less.sub) Less.sub Less.not) (hO.less).less.fut hr31) ?_
      rintro _ w30 ⟨rfl, hC30⟩
      have h0 := h0.ext hC30
      have hb2 := hb2.chg hC30 (fun h => nomatch h)
      have hv27 := hv27.ext hC30
      have hv28 := hv28.ext hC30
      have hv24 := hv24.ext hC30
      have hv26 := hv26.ext hC30
      have hC := hC.ext hC30
      have hO := hO.ext hC30
      refine pl_val (.bool r31) (y_assign rfl) ?_
      refine pl_val (.bool true) (y_assign rfl) ?_
      refine c_nil ?_
      refine wp_ret ?_
      cases hs
      exact ⟨_, fr_ovl 32 ⟨rfl, rfl, trivial⟩, hC⟩

def k_laws_eqIntS (M : Nat → Prop) (w0 : World) (r : Bool) (a : Act) (w : World) : Prop :=
  ∃ (σ : Nat → Value) , a = fr 26 (ovl σ [(4, (.bool r))]) ∧ Chg [] w0 w
def s_laws_eqIntS (a_ : List Int) (b : List Int) : Option (Bool) :=
  (bif ((a_.length : Int) != (b.length : Int)) then some false else (forC (S := Unit) (R := Bool) (fun k12 s10 =>
  (idx a_ k12).bind fun x17 =>
  (idx b k12).bind fun x19 =>
  (bif (x17 != x19) then some (.rt false) else some (.nx ()))) 0 (a_.length : Int) ()).bind fun o14 => after o14 (fun r_ => some r_) (fun s10 =>
  some true))
set_option maxHeartbeats 4000000 in
theorem c_laws_eqIntS {M : Nat → Prop} {w : World} {pa0 : Option Addr} {pn0 pc0 : Nat} {pa1 : Option Addr} {pn1 pc1 : Nat} (a_ : List Int) (b : List Int) (h0 : (RT.rs (RT.int .i64)).val M w (.slice pa0 pn0 pc0) a_ ([])) (h1 : (RT.rs (RT.int .i64)).val M w (.slice pa1 pn1 pc1) b ([])) (hM : ∀ g, w.heap.size ≤ g → M g) {r : Bool} (hs : s_laws_eqIntS a_ b = some r) :
    Gives Try.prog 26 [(.slice pa0 pn0 pc0), (.slice pa1 pn1 pc1)] w (fun v w' => v = (.bool r) ∧ Chg [] w w') := by
  refine calls_fr Try.func26 rfl Try.ntmps26 (Nat.le_of_ble_eq_true rfl) ?_
  have hO := Own.start (N := Nw w []) hM Nw.fut
  have hC := Chg.refl [] w
  unfold s_laws_eqIntS at hs
  refine wp_mono (Q := KPost (k_laws_eqIntS M w r)) ?_ (fun e a w1 h => ?_)
  rotate_left
  · cases e
    case ret =>
      obtain ⟨σ, rfl, hrest⟩ := h
      exact ret1x Try.results26 (res_tmp rfl) ⟨rfl, hrest⟩
    all_goals exact (h : False).elim
  refine c_seq ?_
  refine c_region ?_
  refine pl_val (.bool false) (y_assign rfl) ?_
  refine c_nil ?_
  refine c_seq ?_
  refine c_seq ?_
  refine c_region ?_
  refine pl_val (.slice pa0 pn0 pc0) (y_move rfl) ?_
  refine pl_val (.int .i64 (a_.length : Int)) (y_len' Sl22 (rs_len h0) rfl) ?_
  refine pl_val (.slice pa1 pn1 pc1) (y_move rfl) ?_
  refine pl_val (.int .i64 (b.length : Int)) (y_len' Sl22 (rs_len h1) rfl) ?_
  refine pl_val (.bool ((a_.length : Int) != (b.length : Int))) (y_neq rfl rfl) ?_
  refine c_nil ?_
  rcases bif_some hs with ⟨hc3, hs⟩ | ⟨hc3, hs⟩
  · skip
    refine c_condT (congrArg Value.bool hc3) ?_
    refine c_seq ?_
    refine c_region ?_
    refine pl_val (.bool false) (y_assign rfl) ?_
    refine c_nil ?_
    refine wp_ret ?_
    cases hs
    exact ⟨_, fr_ovl 26 ⟨rfl, trivial⟩, hC⟩
  · skip
    refine c_condF (congrArg Value.bool hc3) ?_
    refine wp_skip ?_
    refine c_seq ?_
    refine c_seq ?_
    refine c_region ?_
    refine pl_val (.int .i64 0) (y_assign rfl) ?_
    refine c_nil ?_
    obtain ⟨o14, hl15, hs⟩ := bind_some hs
    refine wp_block ?_
    refine wp_forC (id := 0) (a_.length : Int) (I := fun k12 s10 a w11 => ∃ (σ : Nat → Value), a = fr 26 (ovl σ [(0, (.slice pa0 pn0 pc0)), (1, (.slice pa1 pn1 pc1)), (5, (.int .i64 k12))]) ∧ Chg [] w w11 ∧ Own (Nw w []) M w11 ([]) ∧ (RT.rs (RT.int .i64)).val M w11 (.slice pa0 pn0 pc0) a_ ([]) ∧ (RT.rs (RT.int .i64)).val M w11 (.slice pa1 pn1 pc1) b ([])) (J := fun s10 a w11 => ∃ (σ : Nat → Value), a = fr 26 (ovl σ []) ∧ Chg [] w w11 ∧ Own (Nw w []) M w11 ([]) ∧ (RT.rs (RT.int .i64)).val M w11 (.slice pa0 pn0 pc0) a_ ([]) ∧ (RT.rs (RT.int .i64)).val M w11 (.slice pa1 pn1 pc1) b ([])) (K := (k_laws_eqIntS M w)) ?_ ?_ 0 () o14 _ _ ?_ hl15 ?_
    · rintro k12 s10 a w11 ⟨σ, rfl, hC, hO, h0, h1⟩ hlt
      refine c_seq ?_
      refine c_seq ?_
      refine c_region ?_
      refine pl_val (.int .i64 k12) (y_move rfl) ?_
      refine pl_val (.slice pa0 pn0 pc0) (y_move rfl) ?_
      refine pl_val (.int .i64 (a_.length : Int)) (y_len' Sl22 (rs_len h0) rfl) ?_
      refine pl_val (.bool (decide (k12 < (a_.length : Int)))) (y_lss rfl rfl) ?_
      refine c_nil ?_
      refine c_condF (congrArg Value.bool (decide_eq_false hlt)) ?_
      refine wp_exit ?_
      exact ⟨rfl, _, fr_ovl 26 trivial, hC, hO, h0, h1⟩
    · rintro k12 s10 o14 a w11 ⟨σ, rfl, hC, hO, h0, h1⟩ hlt hw hs
      refine c_seq ?_
      refine c_seq ?_
      refine c_region ?_
      refine pl_val (.int .i64 k12) (y_move rfl) ?_
      refine pl_val (.slice pa0 pn0 pc0) (y_move rfl) ?_
      refine pl_val (.int .i64 (a_.length : Int)) (y_len' Sl22 (rs_len h0) rfl) ?_
      refine pl_val (.bool (decide (k12 < (a_.length : Int)))) (y_lss rfl rfl) ?_
      refine c_nil ?_
      refine c_condT (congrArg Value.bool (decide_eq_true hlt)) ?_
      refine wp_skip ?_
      refine c_seq ?_
      refine wp_block ?_
      refine c_seq ?_
      refine x_start [] Mx rfl ?_
      have hCw16 := Chg.drew w11
      generalize World.drew w11 = w16 at hCw16 ⊢
      have h0 := h0.ext hCw16
      have h1 := h1.ext hCw16
      have hC := hC.ext hCw16
      have hO := hO.ext hCw16
      have hS := Chg.refl [] w16
      refine x_p 0 (.slice pa0 pn0 pc0) rfl (by kernel_rfl)  (fun _ => y_move rfl) (fun _ => hS) ?_
      refine x_p 1 (.int .i64 k12) rfl (by kernel_rfl)  (fun _ => y_move rfl) (fun _ => hS) ?_
      obtain ⟨x17, hx17, hs⟩ := bind_some hs
      obtain ⟨b18, o18, hp18, ha18⟩ := rs_idx Sl22 Sz3 h0 hx17
      refine x_p 2 (.pointer (some ⟨b18, o18, none⟩)) rfl (by kernel_rfl)  (fun _ => hp18 _ _ _ _ _ _ _ _ _ rfl rfl) (fun _ => hS) ?_
      refine x_l 3 (.int .i64 x17) rfl (by kernel_rfl)  (fun w' hw' => y_load rfl ((at_load_int Ag3 Sz3 ha18) w' hw')) hS ?_
      refine x_p 4 (.slice pa1 pn1 pc1) rfl (by kernel_rfl)  (fun _ => y_move rfl) (fun _ => hS) ?_
      refine x_p 5 (.int .i64 k12) rfl (by kernel_rfl)  (fun _ => y_move rfl) (fun _ => hS) ?_
      obtain ⟨x19, hx19, hs⟩ := bind_some hs
      obtain ⟨b20, o20, hp20, ha20⟩ := rs_idx Sl22 Sz3 h1 hx19
      refine x_p 6 (.pointer (some ⟨b20, o20, none⟩)) rfl (by kernel_rfl)  (fun _ => hp20 _ _ _ _ _ _ _ _ _ rfl rfl) (fun _ => hS) ?_
      refine x_l 7 (.int .i64 x19) rfl (by kernel_rfl)  (fun w' hw' => y_load rfl ((at_load_int Ag3 Sz3 ha20) w' hw')) hS ?_
      refine x_p 8 (.bool (x17 != x19)) rfl (by kernel_rfl)  (fun _ => y_neq rfl rfl) (fun _ => hS) ?_
      refine x_end (by kernel_rfl) ?_
      clear hS
      rcases bif_some hs with ⟨hc21, hs⟩ | ⟨hc21, hs⟩
      · skip
        refine c_condT (congrArg Value.bool hc21) ?_
        refine c_seq ?_
        refine c_region ?_
        refine pl_val (.bool false) (y_assign rfl) ?_
        refine c_nil ?_
        refine wp_ret ?_
        cases hs
        exact ⟨_, fr_ovl 26 ⟨rfl, trivial⟩, hC⟩
      · skip
        refine c_condF (congrArg Value.bool hc21) ?_
        refine wp_skip ?_
        refine c_region ?_
        refine pl_val (.int .i64 k12) (y_move rfl) ?_
        refine pl_val (.int .i64 (w64 (k12 + 1))) (y_add rfl rfl) ?_
        refine pl_val (.int .i64 (w64 (k12 + 1))) (y_assign rfl) ?_
        refine c_nil ?_
        cases hs
        exact ⟨_, fr_ovl 26 ⟨rfl, rfl, congrArg (Value.int .i64) hw, trivial⟩, hC, hO, h0, h1⟩
    · skip
      exact ⟨_, fr_ovl 26 ⟨rfl, rfl, rfl, trivial⟩, hC, hO, h0, h1⟩
    · cases o14 with
      | nx _ => exact True.intro
      | rt r_ =>
        have hs := after_rt hs
        intro a1 w1 hK
        cases hs
        exact hK
      | br s10 =>
        have hs := after_br hs
        rintro a1 w11 ⟨σ, rfl, hC, hO, h0, h1⟩
        refine c_seq ?_
        refine c_region ?_
        refine pl_val (.bool true) (y_assign rfl) ?_
        refine c_nil ?_
        refine wp_ret ?_
        cases hs
        exact ⟨_, fr_ovl 26 ⟨rfl, trivial⟩, hC⟩

theorem Bd26 : Bodied Try.prog 26 := bodied Try.func26 (by kernel_rfl) rfl

def k_laws_eqOp (M : Nat → Prop) (w0 : World) (r : Bool) (a : Act) (w : World) : Prop :=
  ∃ (σ : Nat → Value) , a = fr 16 (ovl σ [(4, (.bool r))]) ∧ Chg [] w0 w
def s_laws_eqOp (a_ : Int × (List Int)) (b : Int × (List Int)) : Option (Bool) :=
  (bif (a_.1 != b.1) then some false else (s_laws_eqIntS a_.2 b.2).bind fun r7 =>
  (bif (!r7) then some false else some true))
set_option maxHeartbeats 4000000 in
theorem c_laws_eqOp {M : Nat → Prop} {w : World} {pa0 : Option Addr} {pn0 pc0 : Nat} {pa1 : Option Addr} {pn1 pc1 : Nat} (a_ : Int × (List Int)) (b : Int × (List Int)) (h0 : (RT.rs (RT.int .i64)).val M w (.slice pa0 pn0 pc0) a_.2 ([])) (h1 : (RT.rs (RT.int .i64)).val M w (.slice pa1 pn1 pc1) b.2 ([])) (hM : ∀ g, w.heap.size ≤ g → M g) {r : Bool} (hs : s_laws_eqOp a_ b = some r) :
    Gives Try.prog 12 [(.agg #[(.int .i64 a_.1), (.slice pa0 pn0 pc0)]), (.agg #[(.int .i64 b.1), (.slice pa1 pn1 pc1)])] w (fun v w' => v = (.bool r) ∧ Chg [] w w') := by
  refine calls_fr Try.func12 rfl Try.ntmps12 (Nat.le_of_ble_eq_true rfl) ?_
  have hO := Own.start (N := Nw w []) hM Nw.fut
  have hC := Chg.refl [] w
  unfold s_laws_eqOp at hs
  refine wp_mono (Q := KPost (k_laws_eqOp M w r)) ?_ (fun e a w1 h => ?_)
  rotate_left
  · cases e
    case ret =>
      obtain ⟨σ, rfl, hrest⟩ := h
      exact ret1x Try.results12 (res_tmp rfl) ⟨rfl, hrest⟩
    all_goals exact (h : False).elim
  refine c_seq ?_
  refine c_region ?_
  obtain ⟨w3, g3, ew3, eg3, hC3, hb3⟩ := new_block w [(.int .i64 a_.1), (.slice pa0 pn0 pc0)] 24
  refine pl_val (w' := w3) (.pointer (some ⟨g3, 0, none⟩)) (y_box rfl (by rw [ew3, eg3]; kernel_rfl)) ?_
  have h0 := h0.ext hC3
  have h1 := h1.ext hC3
  have hC := hC.ext hC3
  have hO := hO.new (X' := [g3]) hC3 (fun q hq => by rw [List.mem_singleton.1 hq, eg3]; exact Nat.le_refl _) (List.nodup_cons.2 ⟨(fun h => nomatch h), List.nodup_nil⟩) (fun q hq => by rw [List.mem_singleton.1 hq]; exact hb3.lt)
  obtain ⟨w4, g4, ew4, eg4, hC4, hb4⟩ := new_block w3 [(.int .i64 b.1), (.slice pa1 pn1 pc1)] 24
  refine pl_val (w' := w4) (.pointer (some ⟨g4, 0, none⟩)) (y_box rfl (by rw [ew4, eg4]; kernel_rfl)) ?_
  have h0 := h0.ext hC4
  have h1 := h1.ext hC4
  have hb3 := hb3.chg hC4 (fun h => nomatch h)
  have hC := hC.ext hC4
  have hO := hO.new (X' := [g4]) hC4 (fun q hq => by rw [List.mem_singleton.1 hq, eg4]; exact Nat.le_refl _) (List.nodup_cons.2 ⟨(fun h => nomatch h), List.nodup_nil⟩) (fun q hq => by rw [List.mem_singleton.1 hq]; exact hb4.lt)
  refine pl_val (.bool false) (y_assign rfl) ?_
  refine c_nil ?_
  refine c_seq ?_
  refine c_seq ?_
  refine c_region ?_
  refine pl_val (.pointer (some ⟨g3, 0, none⟩)) (y_faddr rfl Fa24x0) ?_
  refine pl_val (.int .i64 a_.1) (y_load rfl ((box_load Ag3 Sz3 hb3 [] [(.int .i64 a_.1)] [(.slice pa0 pn0 pc0)] rfl rfl (fun _ => rfl)) _ (Chg.refl _ _))) ?_
  refine pl_val (.pointer (some ⟨g4, 0, none⟩)) (y_faddr rfl Fa24x0) ?_
  refine pl_val (.int .i64 b.1) (y_load rfl ((box_load Ag3 Sz3 hb4 [] [(.int .i64 b.1)] [(.slice pa1 pn1 pc1)] rfl rfl (fun _ => rfl)) _ (Chg.refl _ _))) ?_
  refine pl_val (.bool (a_.1 != b.1)) (y_neq rfl rfl) ?_
  refine c_nil ?_
  rcases bif_some hs with ⟨hc5, hs⟩ | ⟨hc5, hs⟩
  · skip
    refine c_condT (congrArg Value.bool hc5) ?_
    refine c_seq ?_
    refine c_region ?_
    refine pl_val (.bool false) (y_assign rfl) ?_
    refine c_nil ?_
    refine wp_ret ?_
    cases hs
    exact ⟨_, fr_ovl 16 ⟨rfl, trivial⟩, hC⟩
  · skip
    refine c_condF (congrArg Value.bool hc5) ?_
    refine wp_skip ?_
    refine c_seq ?_
    refine c_seq ?_
    refine c_region ?_
    refine pl_val (.pointer (some ⟨g3, 1, none⟩)) (y_faddr rfl Fa24x1) ?_
    refine pl_val (.slice pa0 pn0 pc0) (y_load rfl ((box_load Ag22 Sz22 hb3 [(.int .i64 a_.1)] [(.slice pa0 pn0 pc0)] [] rfl rfl (fun _ => rfl)) _ (Chg.refl _ _))) ?_
    refine pl_val (.pointer (some ⟨g4, 1, none⟩)) (y_faddr rfl Fa24x1) ?_
    refine pl_val (.slice pa1 pn1 pc1) (y_load rfl ((box_load Ag22 Sz22 hb4 [(.int .i64 b.1)] [(.slice pa1 pn1 pc1)] [] rfl rfl (fun _ => rfl)) _ (Chg.refl _ _))) ?_
    obtain ⟨r7, hr7, hs⟩ := bind_some hs
    refine pl_call Bd26 rfl (c_laws_eqIntS (M := M) a_.2 b.2 h0 h1 hO.fut hr7) ?_
    rintro _ w6 ⟨rfl, hC6⟩
    have h0 := h0.ext hC6
    have h1 := h1.ext hC6
    have hb3 := hb3.chg hC6 (fun h => nomatch h)
    have hb4 := hb4.chg hC6 (fun h => nomatch h)
    have hC := hC.ext hC6
    have hO := hO.ext hC6
    refine pl_val (.bool (!r7)) (y_not rfl) ?_
    refine c_nil ?_
    rcases bif_some hs with ⟨hc8, hs⟩ | ⟨hc8, hs⟩
    · skip
      refine c_condT (congrArg Value.bool hc8) ?_
      refine c_seq ?_
      refine c_region ?_
      refine pl_val (.bool false) (y_assign rfl) ?_
      refine c_nil ?_
      refine wp_ret ?_
      cases hs
      exact ⟨_, fr_ovl 16 ⟨rfl, trivial⟩, hC⟩
    · skip
      refine c_condF (congrArg Value.bool hc8) ?_
      refine wp_skip ?_
      refine c_seq ?_
      refine c_region ?_
      refine pl_val (.bool true) (y_assign rfl) ?_
      refine c_nil ?_
      refine wp_ret ?_
      cases hs
      exact ⟨_, fr_ovl 16 ⟨rfl, trivial⟩, hC⟩

theorem Ag30 : AggT Try.prog 30 true := fun _ => by kernel_rfl

theorem Sz30 : SzT Try.prog 30 2 := ⟨_, rfl, rfl⟩

theorem Bd17 : Bodied Try.prog 17 := bodied Try.func17 (by kernel_rfl) rfl

theorem Bd19 : Bodied Try.prog 19 := bodied Try.func19 (by kernel_rfl) rfl

theorem Bd29 : Bodied Try.prog 29 := bodied Try.func29 (by kernel_rfl) rfl

theorem Bd30 : Bodied Try.prog 30 := bodied Try.func30 (by kernel_rfl) rfl

theorem Bd12 : Bodied Try.prog 12 := bodied Try.func12 (by kernel_rfl) rfl

end Go.Proofs
