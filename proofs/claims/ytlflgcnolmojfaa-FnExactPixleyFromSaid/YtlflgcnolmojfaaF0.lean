/- What functions of the program compute, as plain functions, and that a call gives just that. Conditions: those named in each theorem. -/
import Derived.Test.YtlflgcnolmojfaaGSh
import Derived.Test.YtlflgcnolmojfaaRows
set_option linter.unusedVariables false
namespace Go.Proofs
open Go.G Go.RowKit
set_option maxRecDepth 100000

theorem Sl22 : SlT Try.prog 22 3 := Try.underlying22

def k_laws_szIntS (M : Nat → Prop) (w0 : World) (r : Int) (a : Act) (w : World) : Prop :=
  ∃ (σ : Nat → Value) , a = fr 12 (ovl σ [(4, (.int .i64 r))]) ∧ Chg [] w0 w
def s_laws_szIntS (a_ : List Int) (left : Int) : Option (Int) :=
  (bif (decide ((w64 (left - (a_.length : Int))) < 0)) then some (-1) else some (w64 (left - (a_.length : Int))))
set_option maxHeartbeats 4000000 in
theorem c_laws_szIntS {M : Nat → Prop} {w : World} {pa0 : Option Addr} {pn0 pc0 : Nat} (a_ : List Int) (left : Int) (h0 : (RT.rs (RT.int .i64)).val M w (.slice pa0 pn0 pc0) a_ ([])) (hM : ∀ g, w.heap.size ≤ g → M g) {r : Int} (hs : s_laws_szIntS a_ left = some r) :
    Gives Try.prog 39 [(.slice pa0 pn0 pc0), (.int .i64 left)] w (fun v w' => v = (.int .i64 r) ∧ Chg [] w w') := by
  refine calls_fr Try.func39 rfl Try.ntmps39 (Nat.le_of_ble_eq_true rfl) ?_
  have hO := Own.start (N := Nw w []) hM Nw.fut
  have hC := Chg.refl [] w
  unfold s_laws_szIntS at hs
  refine wp_mono (Q := KPost (k_laws_szIntS M w r)) ?_ (fun e a w1 h => ?_)
  rotate_left
  · cases e
    case ret =>
      obtain ⟨σ, rfl, hrest⟩ := h
      exact ret1x Try.results39 (res_tmp rfl) ⟨rfl, hrest⟩
    all_goals exact (h : False).elim
  refine c_seq ?_
  refine c_region ?_
  refine pl_val (.int .i64 0) (y_assign rfl) ?_
  refine c_nil ?_
  refine c_seq ?_
  refine c_region ?_
  refine pl_val (.int .i64 left) (y_move rfl) ?_
  refine pl_val (.slice pa0 pn0 pc0) (y_move rfl) ?_
  refine pl_val (.int .i64 (a_.length : Int)) (y_len' Sl22 (rs_len h0) rfl) ?_
  refine pl_val (.int .i64 (w64 (left - (a_.length : Int)))) (y_sub rfl rfl) ?_
  refine pl_val (.int .i64 (w64 (left - (a_.length : Int)))) (y_assign rfl) ?_
  refine c_nil ?_
  refine c_seq ?_
  refine c_seq ?_
  refine c_region ?_
  refine pl_val (.int .i64 (w64 (left - (a_.length : Int)))) (y_move rfl) ?_
  refine pl_val (.bool (decide ((w64 (left - (a_.length : Int))) < 0))) (y_lss rfl rfl) ?_
  refine c_nil ?_
  rcases bif_some hs with ⟨hc2, hs⟩ | ⟨hc2, hs⟩
  · skip
    refine c_condT (congrArg Value.bool hc2) ?_
    refine c_seq ?_
    refine c_region ?_
    refine pl_val (.int .i64 (-1)) (y_assign rfl) ?_
    refine c_nil ?_
    refine wp_ret ?_
    cases hs
    exact ⟨_, fr_ovl 12 ⟨rfl, trivial⟩, hC⟩
  · skip
    refine c_condF (congrArg Value.bool hc2) ?_
    refine wp_skip ?_
    refine c_seq ?_
    refine c_region ?_
    refine pl_val (.int .i64 (w64 (left - (a_.length : Int)))) (y_move rfl) ?_
    refine pl_val (.int .i64 (w64 (left - (a_.length : Int)))) (y_assign rfl) ?_
    refine c_nil ?_
    refine wp_ret ?_
    cases hs
    exact ⟨_, fr_ovl 12 ⟨rfl, trivial⟩, hC⟩

theorem Fa30x1 : ∀ (a : Addr) (w : World), (Instr.fieldAt 30 (.pointer (some a)) 1).run Try.prog w = .ok (.pointer (some (a.add 1))) w := fun _ _ => by kernel_rfl

theorem Ag22 : AggT Try.prog 22 false := fun _ => by kernel_rfl

theorem Sz22 : SzT Try.prog 22 1 := ⟨_, rfl, rfl⟩

theorem Bd39 : Bodied Try.prog 39 := bodied Try.func39 (by kernel_rfl) rfl

def k_laws_szOp (M : Nat → Prop) (w0 : World) (r : Int) (a : Act) (w : World) : Prop :=
  ∃ (σ : Nat → Value) , a = fr 12 (ovl σ [(4, (.int .i64 r))]) ∧ Chg [] w0 w
def s_laws_szOp (a_ : Int × (List Int)) (left : Int) : Option (Int) :=
  (s_laws_szIntS a_.2 left).bind fun r4 =>
  (bif (decide (r4 < 0)) then some (-1) else some r4)
set_option maxHeartbeats 4000000 in
theorem c_laws_szOp {M : Nat → Prop} {w : World} {pa0 : Option Addr} {pn0 pc0 : Nat} (a_ : Int × (List Int)) (left : Int) (h0 : (RT.rs (RT.int .i64)).val M w (.slice pa0 pn0 pc0) a_.2 ([])) (hM : ∀ g, w.heap.size ≤ g → M g) {r : Int} (hs : s_laws_szOp a_ left = some r) :
    Gives Try.prog 17 [(.agg #[(.int .i64 a_.1), (.slice pa0 pn0 pc0)]), (.int .i64 left)] w (fun v w' => v = (.int .i64 r) ∧ Chg [] w w') := by
  refine calls_fr Try.func17 rfl Try.ntmps17 (Nat.le_of_ble_eq_true rfl) ?_
  have hO := Own.start (N := Nw w []) hM Nw.fut
  have hC := Chg.refl [] w
  unfold s_laws_szOp at hs
  refine wp_mono (Q := KPost (k_laws_szOp M w r)) ?_ (fun e a w1 h => ?_)
  rotate_left
  · cases e
    case ret =>
      obtain ⟨σ, rfl, hrest⟩ := h
      exact ret1x Try.results17 (res_tmp rfl) ⟨rfl, hrest⟩
    all_goals exact (h : False).elim
  refine c_seq ?_
  refine c_region ?_
  obtain ⟨w2, g2, ew2, eg2, hC2, hb2⟩ := new_block w [(.int .i64 a_.1), (.slice pa0 pn0 pc0)] 30
  refine pl_val (w' := w2) (.pointer (some ⟨g2, 0, none⟩)) (y_box rfl (by rw [ew2, eg2]; kernel_rfl)) ?_
  have h0 := h0.ext hC2
  have hC := hC.ext hC2
  have hO := hO.new (X' := [g2]) hC2 (fun q hq => by rw [List.mem_singleton.1 hq, eg2]; exact Nat.le_refl _) (List.nodup_cons.2 ⟨(fun h => nomatch h), List.nodup_nil⟩) (fun q hq => by rw [List.mem_singleton.1 hq]; exact hb2.lt)
  refine pl_val (.int .i64 0) (y_assign rfl) ?_
  refine c_nil ?_
  refine c_seq ?_
  refine c_region ?_
  refine pl_val (.pointer (some ⟨g2, 1, none⟩)) (y_faddr rfl Fa30x1) ?_
  refine pl_val (.slice pa0 pn0 pc0) (y_load rfl ((box_load Ag22 Sz22 hb2 [(.int .i64 a_.1)] [(.slice pa0 pn0 pc0)] [] rfl rfl (fun _ => rfl)) _ (Chg.refl _ _))) ?_
  refine pl_val (.int .i64 left) (y_move rfl) ?_
  obtain ⟨r4, hr4, hs⟩ := bind_some hs
  refine pl_call Bd39 rfl (c_laws_szIntS (M := M) a_.2 left h0 hO.fut hr4) ?_
  rintro _ w3 ⟨rfl, hC3⟩
  have h0 := h0.ext hC3
  have hb2 := hb2.chg hC3 (fun h => nomatch h)
  have hC := hC.ext hC3
  have hO := hO.ext hC3
  refine pl_val (.int .i64 r4) (y_assign rfl) ?_
  refine c_nil ?_
  refine c_seq ?_
  refine c_seq ?_
  refine c_region ?_
  refine pl_val (.int .i64 r4) (y_move rfl) ?_
  refine pl_val (.bool (decide (r4 < 0))) (y_lss rfl rfl) ?_
  refine c_nil ?_
  rcases bif_some hs with ⟨hc5, hs⟩ | ⟨hc5, hs⟩
  · skip
    refine c_condT (congrArg Value.bool hc5) ?_
    refine c_seq ?_
    refine c_region ?_
    refine pl_val (.int .i64 (-1)) (y_assign rfl) ?_
    refine c_nil ?_
    refine wp_ret ?_
    cases hs
    exact ⟨_, fr_ovl 12 ⟨rfl, trivial⟩, hC⟩
  · skip
    refine c_condF (congrArg Value.bool hc5) ?_
    refine wp_skip ?_
    refine c_seq ?_
    refine c_region ?_
    refine pl_val (.int .i64 r4) (y_move rfl) ?_
    refine pl_val (.int .i64 r4) (y_assign rfl) ?_
    refine c_nil ?_
    refine wp_ret ?_
    cases hs
    exact ⟨_, fr_ovl 12 ⟨rfl, trivial⟩, hC⟩

theorem Rw22 : RowT Try.prog 22 3 1 [(.int .i64 0)] := ⟨Try.underlying22, ⟨_, _, rfl, rfl, rfl, rfl, by decide⟩, rfl, by decide⟩

theorem Sz3 : SzT Try.prog 3 1 := ⟨_, rfl, rfl⟩

theorem Ag3 : AggT Try.prog 3 false := fun _ => by kernel_rfl

def k_laws_toIntS (M : Nat → Prop) (w0 : World) (r : (List Int)) (a : Act) (w : World) : Prop :=
  ∃ (σ : Nat → Value) (ra0 : Option Addr) (rn0 rc0 : Nat) (rf0 : List Nat), a = fr 22 (ovl σ [(2, (.slice ra0 rn0 rc0))]) ∧ Chg [] w0 w ∧ (RT.os 3 (RT.int .i64)).val M w (.slice ra0 rn0 rc0) r rf0 ∧ Own (Nw w0 []) (fun _ => True) w (rf0 ++ ([]))
def s_laws_toIntS (a_ : List Int) : Option ((List Int)) :=
  (mks (a_.length : Int) (0 : Int)).bind fun y3 =>
  (forC (S := (List Int)) (R := (List Int)) (fun k18 s16 =>
  (idx a_ k18).bind fun x24 =>
  (idx s16 k18).bind fun x26 =>
  some (.nx (List.set s16 (Int.toNat k18) x24))) 0 (a_.length : Int) y3).bind fun o20 => after o20 (fun r_ => some r_) (fun s16 =>
  some s16)
set_option maxHeartbeats 4000000 in
theorem c_laws_toIntS {M : Nat → Prop} {w : World} {pa0 : Option Addr} {pn0 pc0 : Nat} (a_ : List Int) (h0 : (RT.rs (RT.int .i64)).val M w (.slice pa0 pn0 pc0) a_ ([])) (hM : ∀ g, w.heap.size ≤ g → M g) {r : (List Int)} (hs : s_laws_toIntS a_ = some r) :
    Gives Try.prog 24 [(.slice pa0 pn0 pc0)] w (fun v w' => ∃ (ra0 : Option Addr) (rn0 rc0 : Nat) (rf0 : List Nat), v = (.slice ra0 rn0 rc0) ∧ Chg [] w w' ∧ (RT.os 3 (RT.int .i64)).val M w' (.slice ra0 rn0 rc0) r rf0 ∧ Own (Nw w []) (fun _ => True) w' (rf0 ++ ([]))) := by
  refine calls_fr Try.func24 rfl Try.ntmps24 (Nat.le_of_ble_eq_true rfl) ?_
  have hO := Own.start (N := Nw w []) hM Nw.fut
  have hC := Chg.refl [] w
  unfold s_laws_toIntS at hs
  refine wp_mono (Q := KPost (k_laws_toIntS M w r)) ?_ (fun e a w1 h => ?_)
  rotate_left
  · cases e
    case ret =>
      obtain ⟨σ, ra0, rn0, rc0, rf0, rfl, hrest⟩ := h
      exact ret1x Try.results24 (res_tmp rfl) ⟨ra0, rn0, rc0, rf0, rfl, hrest⟩
    all_goals exact (h : False).elim
  refine c_seq ?_
  refine c_region ?_
  refine pl_val (.slice none 0 0) (y_assign rfl) ?_
  refine c_nil ?_
  refine c_seq ?_
  refine c_region ?_
  refine pl_val (.slice pa0 pn0 pc0) (y_move rfl) ?_
  refine pl_val (.int .i64 (a_.length : Int)) (y_len' Sl22 (rs_len h0) rfl) ?_
  obtain ⟨y3, hy3, hs⟩ := bind_some hs
  obtain ⟨a2, n2, c2, w2, f2, hm2, hC2, hfr2, hv2⟩ := mk_os (M := M) (w := w) (r := (RT.int .i64)) Rw22 hy3 (fun _ _ => ⟨rfl, rfl⟩)
  refine pl_val (w' := w2) (.slice a2 n2 c2) (y_make rfl rfl hm2) ?_
  have h0 := h0.ext hC2
  have hC := hC.ext hC2
  have hO := hO.new hC2 hfr2 (os_nodup hv2) hv2.fpl
  refine pl_val (.slice a2 n2 c2) (y_assign rfl) ?_
  refine c_nil ?_
  refine c_seq ?_
  refine c_seq ?_
  refine c_region ?_
  refine pl_val (.int .i64 0) (y_assign rfl) ?_
  refine c_nil ?_
  obtain ⟨o20, hl21, hs⟩ := bind_some hs
  refine wp_block ?_
  refine wp_forC (id := 0) (a_.length : Int) (I := fun k18 s16 a w17 => ∃ (σ : Nat → Value) (f22 : List Nat), a = fr 22 (ovl σ [(0, (.slice pa0 pn0 pc0)), (3, (.slice a2 n2 c2)), (4, (.int .i64 k18))]) ∧ Chg [] w w17 ∧ Own (Nw w []) M w17 (f22 ++ []) ∧ (RT.rs (RT.int .i64)).val M w17 (.slice pa0 pn0 pc0) a_ ([]) ∧ (RT.os 3 (RT.int .i64)).val M w17 (.slice a2 n2 c2) s16 f22) (J := fun s16 a w17 => ∃ (σ : Nat → Value) (f23 : List Nat), a = fr 22 (ovl σ [(3, (.slice a2 n2 c2))]) ∧ Chg [] w w17 ∧ Own (Nw w []) M w17 (f23 ++ []) ∧ (RT.rs (RT.int .i64)).val M w17 (.slice pa0 pn0 pc0) a_ ([]) ∧ (RT.os 3 (RT.int .i64)).val M w17 (.slice a2 n2 c2) s16 f23) (K := (k_laws_toIntS M w)) ?_ ?_ 0 y3 o20 _ _ ?_ hl21 ?_
  · rintro k18 s16 a w17 ⟨σ, f22, rfl, hC, hO, h0, hv22⟩ hlt
    refine c_seq ?_
    refine c_seq ?_
    refine c_region ?_
    refine pl_val (.int .i64 k18) (y_move rfl) ?_
    refine pl_val (.slice pa0 pn0 pc0) (y_move rfl) ?_
    refine pl_val (.int .i64 (a_.length : Int)) (y_len' Sl22 (rs_len h0) rfl) ?_
    refine pl_val (.bool (decide (k18 < (a_.length : Int)))) (y_lss rfl rfl) ?_
    refine c_nil ?_
    refine c_condF (congrArg Value.bool (decide_eq_false hlt)) ?_
    refine wp_exit ?_
    exact ⟨rfl, _, f22, fr_ovl 22 ⟨rfl, trivial⟩, hC, hO, h0, hv22⟩
  · rintro k18 s16 o20 a w17 ⟨σ, f22, rfl, hC, hO, h0, hv22⟩ hlt hw hs
    refine c_seq ?_
    refine c_seq ?_
    refine c_region ?_
    refine pl_val (.int .i64 k18) (y_move rfl) ?_
    refine pl_val (.slice pa0 pn0 pc0) (y_move rfl) ?_
    refine pl_val (.int .i64 (a_.length : Int)) (y_len' Sl22 (rs_len h0) rfl) ?_
    refine pl_val (.bool (decide (k18 < (a_.length : Int)))) (y_lss rfl rfl) ?_
    refine c_nil ?_
    refine c_condT (congrArg Value.bool (decide_eq_true hlt)) ?_
    refine wp_skip ?_
    refine c_seq ?_
    refine wp_block ?_
    refine c_region ?_
    refine pl_val (.slice a2 n2 c2) (y_move rfl) ?_
    refine pl_val (.int .i64 k18) (y_move rfl) ?_
    refine pl_val (.slice pa0 pn0 pc0) (y_move rfl) ?_
    refine pl_val (.int .i64 k18) (y_move rfl) ?_
    obtain ⟨x24, hx24, hs⟩ := bind_some hs
    obtain ⟨b25, o25, hp25, ha25⟩ := rs_idx Sl22 Sz3 h0 hx24
    refine pl_val (.pointer (some ⟨b25, o25, none⟩)) (hp25 _ _ _ _ _ _ _ _ _ rfl rfl) ?_
    refine pl_val (.int .i64 x24) (y_load rfl ((at_load_int Ag3 Sz3 ha25) _ (Chg.refl _ _))) ?_
    obtain ⟨x26, hx26, hs⟩ := bind_some hs
    obtain ⟨g27, f27, hg27, hk27, hp27, ha27, hf27⟩ := os_idx Sl22 Sz3 hv22 hx26
    refine pl_val (.pointer (some ⟨g27, 0 + Int.toNat k18 * 1, none⟩)) (hp27 _ _ _ _ _ _ _ _ _ rfl rfl) ?_
    obtain ⟨w28, f28, hst28, hC28, hf28, hv28⟩ := os_store (P := Try.prog) (c' := [(.int .i64 x24)]) hg27 hv22 hk27 (fun g hg => hO.inM g (os_block hv22 g (by simpa using hg))) ⟨rfl, rfl⟩ List.nodup_nil (fun _ h => nomatch h) (fun _ h => .inl h)
    have hG28 : ∀ q ∈ [g27], q ∈ f22 := fun q hq => os_block hv22 q (by rw [hg27]; exact hq)
    refine pl_skip (w' := w28) (ys_store rfl rfl (hst28 _ _ rfl Sz3)) ?_
    have h0 := h0.mut hC28 (fun g hg => hO.inM g (hG28 g hg)) (fun _ _ h => nomatch h)
    have hC := hC.step hC28 (fun g hg => hO.inN g (hG28 g hg))
    have hO := hO.grow hC28 (fun q hq => .inl ((hf28 q hq).resolve_right (fun h => nomatch h))) (os_nodup hv28) hv28.fpl
    refine c_nil ?_
    refine c_region ?_
    refine pl_val (.int .i64 k18) (y_move rfl) ?_
    refine pl_val (.int .i64 (w64 (k18 + 1))) (y_add rfl rfl) ?_
    refine pl_val (.int .i64 (w64 (k18 + 1))) (y_assign rfl) ?_
    refine c_nil ?_
    cases hs
    exact ⟨_, f28, fr_ovl 22 ⟨rfl, rfl, congrArg (Value.int .i64) hw, trivial⟩, hC, hO, h0, hv28⟩
  · skip
    exact ⟨_, f2, fr_ovl 22 ⟨rfl, rfl, rfl, trivial⟩, hC, hO, h0, hv2⟩
  · cases o20 with
    | nx _ => exact True.intro
    | rt r_ =>
      have hs := after_rt hs
      intro a1 w1 hK
      cases hs
      exact hK
    | br s16 =>
      have hs := after_br hs
      rintro a1 w17 ⟨σ, f23, rfl, hC, hO, h0, hv23⟩
      refine c_seq ?_
      refine c_region ?_
      refine pl_val (.slice a2 n2 c2) (y_move rfl) ?_
      refine pl_val (.slice a2 n2 c2) (y_assign rfl) ?_
      refine c_nil ?_
      refine wp_ret ?_
      cases hs
      exact ⟨_, a2, n2, c2, f23, fr_ovl 22 ⟨rfl, trivial⟩, hC, hv23, hO.top⟩

theorem Ag24 : AggT Try.prog 24 true := fun _ => by kernel_rfl

theorem Sz24 : SzT Try.prog 24 2 := ⟨_, rfl, rfl⟩

theorem Fa30x0 : ∀ (a : Addr) (w : World), (Instr.fieldAt 30 (.pointer (some a)) 0).run Try.prog w = .ok (.pointer (some (a.add 0))) w := fun _ _ => by kernel_rfl

theorem Fa24x0 : ∀ (a : Addr) (w : World), (Instr.fieldAt 24 (.pointer (some a)) 0).run Try.prog w = .ok (.pointer (some (a.add 0))) w := fun _ _ => by kernel_rfl

theorem Bd24 : Bodied Try.prog 24 := bodied Try.func24 (by kernel_rfl) rfl

theorem Fa24x1 : ∀ (a : Addr) (w : World), (Instr.fieldAt 24 (.pointer (some a)) 1).run Try.prog w = .ok (.pointer (some (a.add 1))) w := fun _ _ => by kernel_rfl

def k_laws_toOp (M : Nat → Prop) (w0 : World) (r : (Int × (List Int))) (a : Act) (w : World) : Prop :=
  ∃ (σ : Nat → Value) (rg2 : Nat) (ra0 : Option Addr) (rn0 rc0 : Nat) (rf0 : List Nat), a = fr 12 (ovl σ [(2, (.pointer (some ⟨rg2, 0, none⟩)))]) ∧ BoxV w rg2 24 [(.int .i64 r.1), (.slice ra0 rn0 rc0)] ∧ Chg [] w0 w ∧ (RT.os 3 (RT.int .i64)).val M w (.slice ra0 rn0 rc0) r.2 rf0 ∧ Own (Nw w0 []) (fun _ => True) w (rf0 ++ ([]))
def s_laws_toOp (a_ : Int × (List Int)) : Option ((Int × (List Int))) :=
  (s_laws_toIntS a_.2).bind fun r7 =>
  some (a_.1, r7)
set_option maxHeartbeats 4000000 in
theorem c_laws_toOp {M : Nat → Prop} {w : World} {pa0 : Option Addr} {pn0 pc0 : Nat} (a_ : Int × (List Int)) (h0 : (RT.rs (RT.int .i64)).val M w (.slice pa0 pn0 pc0) a_.2 ([])) (hM : ∀ g, w.heap.size ≤ g → M g) {r : (Int × (List Int))} (hs : s_laws_toOp a_ = some r) :
    Gives Try.prog 19 [(.agg #[(.int .i64 a_.1), (.slice pa0 pn0 pc0)])] w (fun v w' => ∃ (ra0 : Option Addr) (rn0 rc0 : Nat) (rf0 : List Nat), v = (.agg #[(.int .i64 r.1), (.slice ra0 rn0 rc0)]) ∧ Chg [] w w' ∧ (RT.os 3 (RT.int .i64)).val M w' (.slice ra0 rn0 rc0) r.2 rf0 ∧ Own (Nw w []) (fun _ => True) w' (rf0 ++ ([]))) := by
  refine calls_fr Try.func19 rfl Try.ntmps19 (Nat.le_of_ble_eq_true rfl) ?_
  have hO := Own.start (N := Nw w []) hM Nw.fut
  have hC := Chg.refl [] w
  unfold s_laws_toOp at hs
  refine wp_mono (Q := KPost (k_laws_toOp M w r)) ?_ (fun e a w1 h => ?_)
  rotate_left
  · cases e
    case ret =>
      obtain ⟨σ, rg2, ra0, rn0, rc0, rf0, rfl, hbrg2, hrest⟩ := h
      exact ret1x Try.results19 (res_cell rfl (box_load Ag24 Sz24 hbrg2 [] _ [] rfl rfl (fun h => nomatch h))) ⟨ra0, rn0, rc0, rf0, rfl, hrest⟩
    all_goals exact (h : False).elim
  refine c_seq ?_
  refine c_region ?_
  obtain ⟨w2, g2, ew2, eg2, hC2, hb2⟩ := new_block w [(.int .i64 a_.1), (.slice pa0 pn0 pc0)] 30
  refine pl_val (w' := w2) (.pointer (some ⟨g2, 0, none⟩)) (y_box rfl (by rw [ew2, eg2]; kernel_rfl)) ?_
  have h0 := h0.ext hC2
  have hC := hC.ext hC2
  have hO := hO.new (X' := [g2]) hC2 (fun q hq => by rw [List.mem_singleton.1 hq, eg2]; exact Nat.le_refl _) (List.nodup_cons.2 ⟨(fun h => nomatch h), List.nodup_nil⟩) (fun q hq => by rw [List.mem_singleton.1 hq]; exact hb2.lt)
  obtain ⟨w3, g3, ew3, eg3, hC3, hb3⟩ := new_block w2 [(.int .i64 0), (.slice none 0 0)] 24
  refine pl_val (w' := w3) (.pointer (some ⟨g3, 0, none⟩)) (y_alloc (by rw [ew3, eg3]; kernel_rfl)) ?_
  have h0 := h0.ext hC3
  have hb2 := hb2.chg hC3 (fun h => nomatch h)
  have hC := hC.ext hC3
  have hO := hO.new (X' := [g3]) hC3 (fun q hq => by rw [List.mem_singleton.1 hq, eg3]; exact Nat.le_refl _) (List.nodup_cons.2 ⟨(fun h => nomatch h), List.nodup_nil⟩) (fun q hq => by rw [List.mem_singleton.1 hq]; exact hb3.lt)
  refine c_nil ?_
  refine c_seq ?_
  refine c_region ?_
  obtain ⟨w4, g4, ew4, eg4, hC4, hb4⟩ := new_block w3 [(.int .i64 0), (.slice none 0 0)] 24
  refine pl_val (w' := w4) (.pointer (some ⟨g4, 0, none⟩)) (y_alloc (by rw [ew4, eg4]; kernel_rfl)) ?_
  have h0 := h0.ext hC4
  have hb2 := hb2.chg hC4 (fun h => nomatch h)
  have hb3 := hb3.chg hC4 (fun h => nomatch h)
  have hC := hC.ext hC4
  have hO := hO.new (X' := [g4]) hC4 (fun q hq => by rw [List.mem_singleton.1 hq, eg4]; exact Nat.le_refl _) (List.nodup_cons.2 ⟨(fun h => nomatch h), List.nodup_nil⟩) (fun q hq => by rw [List.mem_singleton.1 hq]; exact hb4.lt)
  refine c_nil ?_
  refine c_seq ?_
  refine c_region ?_
  refine pl_val (.pointer (some ⟨g2, 0, none⟩)) (y_faddr rfl Fa30x0) ?_
  refine pl_val (.int .i64 a_.1) (y_load rfl ((box_load Ag3 Sz3 hb2 [] [(.int .i64 a_.1)] [(.slice pa0 pn0 pc0)] rfl rfl (fun _ => rfl)) _ (Chg.refl _ _))) ?_
  refine pl_val (.pointer (some ⟨g4, 0, none⟩)) (y_faddr rfl Fa24x0) ?_
  obtain ⟨w5, hst5, hC5, hb5⟩ := box_store (P := Try.prog) hb4 [] [(.int .i64 0)] [(.slice none 0 0)] [(.int .i64 a_.1)] rfl rfl (by intro u hu; simp only [List.mem_cons, List.not_mem_nil, or_false] at hu; rcases hu with rfl <;> rfl)
  refine pl_skip (w' := w5) (ys_store rfl rfl (hst5 _ _ rfl Sz3)) ?_
  have h0 := h0.mut hC5 (fun g hg => hO.inM g ((fun _ h => h) g hg)) (fun _ _ h => nomatch h)
  have hb2 := hb2.chg hC5 (fun hg => hO.apart _ ((fun _ h => h) _ hg) (mem_r (mem_l (List.mem_singleton.2 rfl))))
  have hb3 := hb3.chg hC5 (fun hg => hO.apart _ ((fun _ h => h) _ hg) (mem_l (List.mem_singleton.2 rfl)))
  have hC := hC.step hC5 (fun g hg => hO.inN g ((fun _ h => h) g hg))
  have hO := hO.ext hC5
  have hb5 : BoxV w5 g4 24 [(.int .i64 a_.1), (.slice none 0 0)] := hb5
  refine c_nil ?_
  refine c_seq ?_
  refine c_region ?_
  refine pl_val (.pointer (some ⟨g2, 1, none⟩)) (y_faddr rfl Fa30x1) ?_
  refine pl_val (.slice pa0 pn0 pc0) (y_load rfl ((box_load Ag22 Sz22 hb2 [(.int .i64 a_.1)] [(.slice pa0 pn0 pc0)] [] rfl rfl (fun _ => rfl)) _ (Chg.refl _ _))) ?_
  obtain ⟨r7, hr7, hs⟩ := bind_some hs
  refine pl_call Bd24 rfl (c_laws_toIntS (M := M) a_.2 h0 hO.fut hr7) ?_
  rintro _ w6 ⟨a6x0, n6x0, c6x0, f6x0, rfl, hC6, hv6x0, hOc6⟩
  have h0 := h0.ext hC6
  have hb2 := hb2.chg hC6 (fun h => nomatch h)
  have hb3 := hb3.chg hC6 (fun h => nomatch h)
  have hb5 := hb5.chg hC6 (fun h => nomatch h)
  have hC := hC.ext hC6
  have hO := Own.join0 hO hC6 hOc6
  have hO := hO.perm (R := f6x0 ++ (([g4]) ++ (([g3]) ++ (([g2]) ++ ([]))))) (by simp)
  refine pl_val (.pointer (some ⟨g4, 1, none⟩)) (y_faddr rfl Fa24x1) ?_
  obtain ⟨w9, hst9, hC9, hb9⟩ := box_store (P := Try.prog) hb5 [(.int .i64 a_.1)] [(.slice none 0 0)] [] [(.slice a6x0 n6x0 c6x0)] rfl rfl (by intro u hu; simp only [List.mem_cons, List.not_mem_nil, or_false] at hu; rcases hu with rfl <;> rfl)
  refine pl_skip (w' := w9) (ys_store rfl rfl (hst9 _ _ rfl Sz22)) ?_
  have hO := hO.fr1
  have h0 := h0.mut hC9 (fun g hg => hO.inM g ((fun _ h => h) g hg)) (fun _ _ h => nomatch h)
  have hb2 := hb2.chg hC9 (fun hg => hO.apart _ ((fun _ h => h) _ hg) (mem_r (mem_r (mem_l (List.mem_singleton.2 rfl)))))
  have hb3 := hb3.chg hC9 (fun hg => hO.apart _ ((fun _ h => h) _ hg) (mem_r (mem_l (List.mem_singleton.2 rfl))))
  have hv6x0 := hv6x0.mut hC9 (fun g hg => hO.inM g ((fun _ h => h) g hg)) (fun g hg e => hO.apart g ((fun _ h => h) g hg) (mem_l (e)))
  have hC := hC.step hC9 (fun g hg => hO.inN g ((fun _ h => h) g hg))
  have hO := hO.ext hC9
  have hb9 : BoxV w9 g4 24 [(.int .i64 a_.1), (.slice a6x0 n6x0 c6x0)] := hb9
  refine c_nil ?_
  refine c_seq ?_
  refine c_region ?_
  refine pl_val (.agg #[(.int .i64 a_.1), (.slice a6x0 n6x0 c6x0)]) (y_load rfl ((box_load Ag24 Sz24 hb9 [] [(.int .i64 a_.1), (.slice a6x0 n6x0 c6x0)] [] rfl rfl (fun h => nomatch h)) _ (Chg.refl _ _))) ?_
  obtain ⟨w10, hst10, hC10, hb10⟩ := box_store (P := Try.prog) hb3 [] [(.int .i64 0), (.slice none 0 0)] [] [(.int .i64 a_.1), (.slice a6x0 n6x0 c6x0)] rfl rfl (by intro u hu; simp only [List.mem_cons, List.not_mem_nil, or_false] at hu; rcases hu with rfl | rfl <;> rfl)
  refine pl_skip (w' := w10) (ys_store rfl rfl (hst10 _ _ rfl Sz24)) ?_
  have hO := hO.fr2
  have hb2 := hb2.chg hC10 (fun hg => hO.apart _ ((fun _ h => h) _ hg) (mem_r (mem_r (mem_l (List.mem_singleton.2 rfl)))))
  have hb9 := hb9.chg hC10 (fun hg => hO.apart _ ((fun _ h => h) _ hg) (mem_l (List.mem_singleton.2 rfl)))
  have hv6x0 := hv6x0.mut hC10 (fun g hg => hO.inM g ((fun _ h => h) g hg)) (fun g hg e => hO.apart g ((fun _ h => h) g hg) (mem_r (mem_l (e))))
  have hC := hC.step hC10 (fun g hg => hO.inN g ((fun _ h => h) g hg))
  have hO := hO.ext hC10
  have hb10 : BoxV w10 g3 24 [(.int .i64 a_.1), (.slice a6x0 n6x0 c6x0)] := hb10
  refine c_nil ?_
  refine wp_ret ?_
  cases hs
  have hO := hO.drop
  have hO := hO.drop
  have hO := hO.fr1
  have hO := hO.drop
  exact ⟨_, g3, a6x0, n6x0, c6x0, f6x0, fr_ovl 12 ⟨rfl, trivial⟩, hb10, hC, hv6x0, hO.top⟩

def k_spec_l1In (M : Nat → Prop) (w0 : World) (r : Bool) (a : Act) (w : World) : Prop :=
  ∃ (σ : Nat → Value) , a = fr 15 (ovl σ [(6, (.bool r))]) ∧ Chg [] w0 w
def s_spec_l1In (x_ : Int) (a_ : Int) (b : Int) : Option (Bool) :=
  (bif (decide (a_ ≤ x_)) then some (decide (x_ ≤ b)) else some false)
set_option maxHeartbeats 4000000 in
theorem c_spec_l1In {M : Nat → Prop} {w : World}  (x_ : Int) (a_ : Int) (b : Int)  (hM : ∀ g, w.heap.size ≤ g → M g) {r : Bool} (hs : s_spec_l1In x_ a_ b = some r) :
    Gives Try.prog 56 [(.int .i64 x_), (.int .i64 a_), (.int .i64 b)] w (fun v w' => v = (.bool r) ∧ Chg [] w w') := by
  refine calls_fr Try.func56 rfl Try.ntmps56 (Nat.le_of_ble_eq_true rfl) ?_
  have hO := Own.start (N := Nw w []) hM Nw.fut
  have hC := Chg.refl [] w
  unfold s_spec_l1In at hs
  refine wp_mono (Q := KPost (k_spec_l1In M w r)) ?_ (fun e a w1 h => ?_)
  rotate_left
  · cases e
    case ret =>
      obtain ⟨σ, rfl, hrest⟩ := h
      exact ret1x Try.results56 (res_tmp rfl) ⟨rfl, hrest⟩
    all_goals exact (h : False).elim
  refine c_seq ?_
  refine c_region ?_
  refine pl_val (.bool false) (y_assign rfl) ?_
  refine c_nil ?_
  refine c_seq ?_
  refine c_region ?_
  refine pl_val (.int .i64 x_) (y_move rfl) ?_
  refine pl_val (.int .i64 a_) (y_move rfl) ?_
  refine pl_val (.bool (decide (a_ ≤ x_))) (y_geq rfl rfl) ?_
  refine pl_val (.bool (decide (a_ ≤ x_))) (y_move rfl) ?_
  rcases bif_some hs with ⟨hc1, hs⟩ | ⟨hc1, hs⟩
  · skip
    refine pl_yes (.int .i64 x_) (tg := 10) (by kernel_rfl) (congrArg Value.bool hc1) (y_move rfl) ?_
    refine pl_yes (.int .i64 b) (tg := 10) (by kernel_rfl) (congrArg Value.bool hc1) (y_move rfl) ?_
    refine pl_yes (.bool (decide (x_ ≤ b))) (tg := 10) (by kernel_rfl) (congrArg Value.bool hc1) (y_leq rfl rfl) ?_
    refine pl_val (.bool (decide (x_ ≤ b))) (y_pick_t (congrArg Value.bool hc1) rfl) ?_
    refine pl_val (.bool (decide (x_ ≤ b))) (y_assign rfl) ?_
    refine c_nil ?_
    refine wp_ret ?_
    cases hs
    exact ⟨_, fr_ovl 15 ⟨rfl, trivial⟩, hC⟩
  · skip
    refine pl_not (tg := 10) (by kernel_rfl) (congrArg Value.bool hc1) ?_
    refine pl_not (tg := 10) (by kernel_rfl) (congrArg Value.bool hc1) ?_
    refine pl_not (tg := 10) (by kernel_rfl) (congrArg Value.bool hc1) ?_
    refine pl_val (.bool false) (y_pick_f (congrArg Value.bool hc1) rfl) ?_
    refine pl_val (.bool false) (y_assign rfl) ?_
    refine c_nil ?_
    refine wp_ret ?_
    cases hs
    exact ⟨_, fr_ovl 15 ⟨rfl, trivial⟩, hC⟩

theorem Bd56 : Bodied Try.prog 56 := bodied Try.func56 (by kernel_rfl) rfl

def k_spec_l12Size (M : Nat → Prop) (w0 : World) (r : Bool) (a : Act) (w : World) : Prop :=
  ∃ (σ : Nat → Value) , a = fr 5 (ovl σ [(2, (.bool r))]) ∧ Chg [] w0 w
def s_spec_l12Size (n : Int) : Option (Bool) :=
  (s_spec_l1In n 1 8).bind fun r2 =>
  some r2
set_option maxHeartbeats 4000000 in
theorem c_spec_l12Size {M : Nat → Prop} {w : World}  (n : Int)  (hM : ∀ g, w.heap.size ≤ g → M g) {r : Bool} (hs : s_spec_l12Size n = some r) :
    Gives Try.prog 44 [(.int .i64 n)] w (fun v w' => v = (.bool r) ∧ Chg [] w w') := by
  refine calls_fr Try.func44 rfl Try.ntmps44 (Nat.le_of_ble_eq_true rfl) ?_
  have hO := Own.start (N := Nw w []) hM Nw.fut
  have hC := Chg.refl [] w
  unfold s_spec_l12Size at hs
  refine wp_mono (Q := KPost (k_spec_l12Size M w r)) ?_ (fun e a w1 h => ?_)
  rotate_left
  · cases e
    case ret =>
      obtain ⟨σ, rfl, hrest⟩ := h
      exact ret1x Try.results44 (res_tmp rfl) ⟨rfl, hrest⟩
    all_goals exact (h : False).elim
  refine c_seq ?_
  refine c_region ?_
  refine pl_val (.bool false) (y_assign rfl) ?_
  refine c_nil ?_
  refine c_seq ?_
  refine c_region ?_
  refine pl_val (.int .i64 n) (y_move rfl) ?_
  obtain ⟨r2, hr2, hs⟩ := bind_some hs
  refine pl_call Bd56 rfl (c_spec_l1In (M := M) n 1 8  hO.fut hr2) ?_
  rintro _ w1 ⟨rfl, hC1⟩
  have hC := hC.ext hC1
  have hO := hO.ext hC1
  refine pl_val (.bool r2) (y_assign rfl) ?_
  refine c_nil ?_
  refine wp_ret ?_
  cases hs
  exact ⟨_, fr_ovl 5 ⟨rfl, trivial⟩, hC⟩

def k_spec_l2Pow (M : Nat → Prop) (w0 : World) (r : Int) (a : Act) (w : World) : Prop :=
  ∃ (σ : Nat → Value) , a = fr 14 (ovl σ [(4, (.int .i64 r))]) ∧ Chg [] w0 w
def s_spec_l2Pow (n : Int) (k : Int) : Option (Int) :=
  (iter (S := Int × Int) (R := Int) (fun s2 =>
  (bif (decide (0 < s2.1)) then some (.nx (w64 (s2.1 - 1), w64 (s2.2 * n))) else some (.br (s2.1, s2.2)))) FU (k, 1)).bind fun o6 => after o6 (fun r_ => some r_) (fun s2 =>
  some s2.2)
set_option maxHeartbeats 4000000 in
theorem c_spec_l2Pow {M : Nat → Prop} {w : World}  (n : Int) (k : Int)  (hM : ∀ g, w.heap.size ≤ g → M g) {r : Int} (hs : s_spec_l2Pow n k = some r) :
    Gives Try.prog 61 [(.int .i64 n), (.int .i64 k)] w (fun v w' => v = (.int .i64 r) ∧ Chg [] w w') := by
  refine calls_fr Try.func61 rfl Try.ntmps61 (Nat.le_of_ble_eq_true rfl) ?_
  have hO := Own.start (N := Nw w []) hM Nw.fut
  have hC := Chg.refl [] w
  unfold s_spec_l2Pow at hs
  refine wp_mono (Q := KPost (k_spec_l2Pow M w r)) ?_ (fun e a w1 h => ?_)
  rotate_left
  · cases e
    case ret =>
      obtain ⟨σ, rfl, hrest⟩ := h
      exact ret1x Try.results61 (res_tmp rfl) ⟨rfl, hrest⟩
    all_goals exact (h : False).elim
  refine c_seq ?_
  refine c_region ?_
  refine pl_val (.int .i64 0) (y_assign rfl) ?_
  refine c_nil ?_
  refine c_seq ?_
  refine c_region ?_
  refine pl_val (.int .i64 1) (y_assign rfl) ?_
  refine c_nil ?_
  refine c_seq ?_
  obtain ⟨o6, hl7, hs⟩ := bind_some hs
  refine wp_block ?_
  refine wp_iter (id := 0) (I := fun s2 a w3 => ∃ (σ : Nat → Value), a = fr 14 (ovl σ [(0, (.int .i64 n)), (1, (.int .i64 s2.1)), (5, (.int .i64 s2.2))]) ∧ Chg [] w w3 ∧ Own (Nw w []) M w3 ([])) (J := fun s2 a w3 => ∃ (σ : Nat → Value), a = fr 14 (ovl σ [(5, (.int .i64 s2.2))]) ∧ Chg [] w w3 ∧ Own (Nw w []) M w3 ([])) (K := (k_spec_l2Pow M w)) ?_ FU (k, 1) o6 _ _ ?_ hl7 ?_
  · rintro s2 o6 a w3 ⟨σ, rfl, hC, hO⟩ hs
    refine c_seq ?_
    refine c_seq ?_
    refine c_region ?_
    refine pl_val (.int .i64 s2.1) (y_move rfl) ?_
    refine pl_val (.bool (decide (0 < s2.1))) (y_gtr rfl rfl) ?_
    refine c_nil ?_
    rcases bif_some hs with ⟨hc8, hs⟩ | ⟨hc8, hs⟩
    · skip
      refine c_condT (congrArg Value.bool hc8) ?_
      refine wp_skip ?_
      refine c_seq ?_
      refine wp_block ?_
      refine c_region ?_
      refine pl_val (.int .i64 s2.2) (y_move rfl) ?_
      refine pl_val (.int .i64 n) (y_move rfl) ?_
      refine pl_val (.int .i64 (w64 (s2.2 * n))) (y_mul rfl rfl) ?_
      refine pl_val (.int .i64 (w64 (s2.2 * n))) (y_assign rfl) ?_
      refine c_nil ?_
      refine c_region ?_
      refine pl_val (.int .i64 s2.1) (y_move rfl) ?_
      refine pl_val (.int .i64 (w64 (s2.1 - 1))) (y_sub rfl rfl) ?_
      refine pl_val (.int .i64 (w64 (s2.1 - 1))) (y_assign rfl) ?_
      refine c_nil ?_
      cases hs
      exact ⟨_, fr_ovl 14 ⟨rfl, rfl, rfl, trivial⟩, hC, hO⟩
    · skip
      refine c_condF (congrArg Value.bool hc8) ?_
      refine wp_exit ?_
      cases hs
      exact ⟨rfl, _, fr_ovl 14 ⟨rfl, trivial⟩, hC, hO⟩
  · skip
    exact ⟨_, fr_ovl 14 ⟨rfl, rfl, rfl, trivial⟩, hC, hO⟩
  · cases o6 with
    | nx _ => exact True.intro
    | rt r_ =>
      have hs := after_rt hs
      intro a1 w1 hK
      cases hs
      exact hK
    | br s2 =>
      have hs := after_br hs
      rintro a1 w3 ⟨σ, rfl, hC, hO⟩
      refine c_seq ?_
      refine c_region ?_
      refine pl_val (.int .i64 s2.2) (y_move rfl) ?_
      refine pl_val (.int .i64 s2.2) (y_assign rfl) ?_
      refine c_nil ?_
      refine wp_ret ?_
      cases hs
      exact ⟨_, fr_ovl 14 ⟨rfl, trivial⟩, hC⟩

theorem Mx : Try.prog.follows .mixedOrders = true := by kernel_rfl

theorem Bd61 : Bodied Try.prog 61 := bodied Try.func61 (by kernel_rfl) rfl

def k_spec_l2Op (M : Nat → Prop) (w0 : World) (r : Bool) (a : Act) (w : World) : Prop :=
  ∃ (σ : Nat → Value) , a = fr 36 (ovl σ [(4, (.bool r))]) ∧ Chg [] w0 w
def s_spec_l2Op (n : Int) (op : Int × (List Int)) : Option (Bool) :=
  ((s_spec_l1In op.1 0 3).bind fun r8 =>
  (bif (!r8) then some true else (s_spec_l2Pow n op.1).bind fun r11 =>
  some ((op.2.length : Int) != r11))).bind fun s3 =>
  (bif s3 then some false else (forC (S := Unit) (R := Bool) (fun k24 s22 =>
  (idx op.2 k24).bind fun x28 =>
  (s_spec_l1In x28 0 (w64 (n - 1))).bind fun r31 =>
  (bif (!r31) then some (.rt false) else some (.nx ()))) 0 (op.2.length : Int) ()).bind fun o26 => after o26 (fun r_ => some r_) (fun s22 =>
  some true))
set_option maxHeartbeats 4000000 in
theorem c_spec_l2Op {M : Nat → Prop} {w : World} {pa0 : Option Addr} {pn0 pc0 : Nat} (n : Int) (op : Int × (List Int)) (h0 : (RT.rs (RT.int .i64)).val M w (.slice pa0 pn0 pc0) op.2 ([])) (hM : ∀ g, w.heap.size ≤ g → M g) {r : Bool} (hs : s_spec_l2Op n op = some r) :
    Gives Try.prog 45 [(.int .i64 n), (.agg #[(.int .i64 op.1), (.slice pa0 pn0 pc0)])] w (fun v w' => v = (.bool r) ∧ Chg [] w w') := by
  refine calls_fr Try.func45 rfl Try.ntmps45 (Nat.le_of_ble_eq_true rfl) ?_
  have hO := Own.start (N := Nw w []) hM Nw.fut
  have hC := Chg.refl [] w
  unfold s_spec_l2Op at hs
  refine wp_mono (Q := KPost (k_spec_l2Op M w r)) ?_ (fun e a w1 h => ?_)
  rotate_left
  · cases e
    case ret =>
      obtain ⟨σ, rfl, hrest⟩ := h
      exact ret1x Try.results45 (res_tmp rfl) ⟨rfl, hrest⟩
    all_goals exact (h : False).elim
  refine c_seq ?_
  refine c_region ?_
  obtain ⟨w2, g2, ew2, eg2, hC2, hb2⟩ := new_block w [(.int .i64 op.1), (.slice pa0 pn0 pc0)] 24
  refine pl_val (w' := w2) (.pointer (some ⟨g2, 0, none⟩)) (y_box rfl (by rw [ew2, eg2]; kernel_rfl)) ?_
  have h0 := h0.ext hC2
  have hC := hC.ext hC2
  have hO := hO.new (X' := [g2]) hC2 (fun q hq => by rw [List.mem_singleton.1 hq, eg2]; exact Nat.le_refl _) (List.nodup_cons.2 ⟨(fun h => nomatch h), List.nodup_nil⟩) (fun q hq => by rw [List.mem_singleton.1 hq]; exact hb2.lt)
  refine pl_val (.bool false) (y_assign rfl) ?_
  refine c_nil ?_
  refine c_seq ?_
  refine c_seq ?_
  obtain ⟨s3, hm5, hs⟩ := bind_some hs
  refine c_mid (I := fun a w4 => ∃ (σ : Nat → Value), a = fr 36 (ovl σ [(0, (.int .i64 n)), (3, (.pointer (some ⟨g2, 0, none⟩))), (4, (.bool false)), (19, (.bool s3))]) ∧ Chg [] w2 w4) ?_ ?_
  · replace hs := hm5
    have hMid := Chg.refl [] w2
    refine x_start [] Mx rfl ?_
    have hCw6 := Chg.drew w2
    generalize World.drew w2 = w6 at hCw6 ⊢
    have h0 := h0.ext hCw6
    have hb2 := hb2.chg hCw6 (fun h => nomatch h)
    have hMid := hMid.ext hCw6
    have hC := hC.ext hCw6
    have hO := hO.ext hCw6
    have hS := Chg.refl [] w6
    refine x_p 0 (.pointer (some ⟨g2, 0, none⟩)) rfl (by kernel_rfl)  (fun _ => y_faddr rfl Fa24x0) (fun _ => hS) ?_
    refine x_l 1 (.int .i64 op.1) rfl (by kernel_rfl)  (fun w' hw' => y_load rfl ((box_load Ag3 Sz3 hb2 [] [(.int .i64 op.1)] [(.slice pa0 pn0 pc0)] rfl rfl (fun _ => rfl)) w' hw')) hS ?_
    refine x_one (i := 2) (by kernel_rfl) ?_
    obtain ⟨r8, hr8, hs⟩ := bind_some hs
    refine xk_call (b := false) rfl  Bd56 rfl (c_spec_l1In (M := M) op.1 0 3  hO.fut hr8) rfl (by rintro _ _ _ ⟨rfl, hC7⟩; exact hS.ext hC7) ?_
    rintro _ w7 ⟨rfl, hC7⟩
    have h0 := h0.ext hC7
    have hb2 := hb2.chg hC7 (fun h => nomatch h)
    have hMid := hMid.ext hC7
    have hC := hC.ext hC7
    have hO := hO.ext hC7
    have hS := hS.ext hC7
    refine x_p 3 (.bool (!r8)) rfl (by kernel_rfl)  (fun _ => y_not rfl) (fun _ => hS) ?_
    refine x_p 4 (.bool (!r8)) rfl (by kernel_rfl)  (fun _ => y_move rfl) (fun _ => hS) ?_
    rcases bif_some hs with ⟨hc9, hs⟩ | ⟨hc9, hs⟩
    · skip
      refine x_pn 5 rfl (by kernel_rfl) (tg := 10) (by kernel_rfl) (congrArg Value.bool hc9) (fun _ => hS) ?_
      refine x_pn 6 rfl (by kernel_rfl) (tg := 10) (by kernel_rfl) (congrArg Value.bool hc9) (fun _ => hS) ?_
      refine x_pn 7 rfl (by kernel_rfl) (tg := 10) (by kernel_rfl) (congrArg Value.bool hc9) (fun _ => hS) ?_
      refine x_pn 8 rfl (by kernel_rfl) (tg := 10) (by kernel_rfl) (congrArg Value.bool hc9) (fun _ => hS) ?_
      refine x_pn 9 rfl (by kernel_rfl) (tg := 10) (by kernel_rfl) (congrArg Value.bool hc9) (fun _ => hS) ?_
      refine x_pn 10 rfl (by kernel_rfl) (tg := 10) (by kernel_rfl) (congrArg Value.bool hc9) (fun _ => hS) ?_
      refine x_pn 11 rfl (by kernel_rfl) (tg := 10) (by kernel_rfl) (congrArg Value.bool hc9) (fun _ => hS) ?_
      refine x_pn 12 rfl (by kernel_rfl) (tg := 10) (by kernel_rfl) (congrArg Value.bool hc9) (fun _ => hS) ?_
      refine x_p 13 (.bool true) rfl (by kernel_rfl)  (fun _ => y_pick_t (congrArg Value.bool hc9) rfl) (fun _ => hS) ?_
      refine x_end (by kernel_rfl) ?_
      clear hS
      cases hs
      exact ⟨_, fr_ovl 36 ⟨rfl, rfl, rfl, rfl, trivial⟩, hMid⟩
    · skip
      refine x_py 5 (.pointer (some ⟨g2, 1, none⟩)) rfl (by kernel_rfl) (tg := 10) (by kernel_rfl) (congrArg Value.bool hc9) (fun _ => y_faddr rfl Fa24x1) (fun _ => hS) ?_
      refine x_py 8 (.int .i64 n) rfl (by kernel_rfl) (tg := 10) (by kernel_rfl) (congrArg Value.bool hc9) (fun _ => y_move rfl) (fun _ => hS) ?_
      refine x_py 9 (.pointer (some ⟨g2, 0, none⟩)) rfl (by kernel_rfl) (tg := 10) (by kernel_rfl) (congrArg Value.bool hc9) (fun _ => y_faddr rfl Fa24x0) (fun _ => hS) ?_
      refine x_two (i := 6) (j := 10) (by kernel_rfl) ?_ ?_
      · skip
        refine xk_valy (b := false) (.slice pa0 pn0 pc0) rfl (tg := 10) (by kernel_rfl) (congrArg Value.bool hc9) (y_load rfl ((box_load Ag22 Sz22 hb2 [(.int .i64 op.1)] [(.slice pa0 pn0 pc0)] [] rfl rfl (fun _ => rfl)) _ (Chg.refl _ _))) rfl (fun _ => hS) ?_
        refine x_py 7 (.int .i64 (op.2.length : Int)) rfl (by kernel_rfl) (tg := 10) (by kernel_rfl) (congrArg Value.bool hc9) (fun _ => y_len' Sl22 (rs_len h0) rfl) (fun _ => hS) ?_
        refine x_one (i := 10) (by kernel_rfl) ?_
        refine xk_valy (b := false) (.int .i64 op.1) rfl (tg := 10) (by kernel_rfl) (congrArg Value.bool hc9) (y_load rfl ((box_load Ag3 Sz3 hb2 [] [(.int .i64 op.1)] [(.slice pa0 pn0 pc0)] rfl rfl (fun _ => rfl)) _ (Chg.refl _ _))) rfl (fun _ => hS) ?_
        refine x_one (i := 11) (by kernel_rfl) ?_
        obtain ⟨r11, hr11, hs⟩ := bind_some hs
        refine xk_cally (b := false) rfl (tg := 10) (by kernel_rfl) (congrArg Value.bool hc9) Bd61 rfl (c_spec_l2Pow (M := M) n op.1  hO.fut hr11) rfl (by rintro _ _ _ ⟨rfl, hC10⟩; exact hS.ext hC10) ?_
        rintro _ w10 ⟨rfl, hC10⟩
        have h0 := h0.ext hC10
        have hb2 := hb2.chg hC10 (fun h => nomatch h)
        have hMid := hMid.ext hC10
        have hC := hC.ext hC10
        have hO := hO.ext hC10
        have hS := hS.ext hC10
        refine x_py 12 (.bool ((op.2.length : Int) != r11)) rfl (by kernel_rfl) (tg := 10) (by kernel_rfl) (congrArg Value.bool hc9) (fun _ => y_neq rfl rfl) (fun _ => hS) ?_
        refine x_p 13 (.bool ((op.2.length : Int) != r11)) rfl (by kernel_rfl)  (fun _ => y_pick_f (congrArg Value.bool hc9) rfl) (fun _ => hS) ?_
        refine x_end (by kernel_rfl) ?_
        clear hS
        cases hs
        exact ⟨_, fr_ovl 36 ⟨rfl, rfl, rfl, rfl, trivial⟩, hMid⟩
      · skip
        refine xk_valy (b := false) (.int .i64 op.1) rfl (tg := 10) (by kernel_rfl) (congrArg Value.bool hc9) (y_load rfl ((box_load Ag3 Sz3 hb2 [] [(.int .i64 op.1)] [(.slice pa0 pn0 pc0)] rfl rfl (fun _ => rfl)) _ (Chg.refl _ _))) rfl (fun _ => hS) ?_
        refine x_two (i := 6) (j := 11) (by kernel_rfl) ?_ ?_
        · skip
          refine xk_valy (b := false) (.slice pa0 pn0 pc0) rfl (tg := 10) (by kernel_rfl) (congrArg Value.bool hc9) (y_load rfl ((box_load Ag22 Sz22 hb2 [(.int .i64 op.1)] [(.slice pa0 pn0 pc0)] [] rfl rfl (fun _ => rfl)) _ (Chg.refl _ _))) rfl (fun _ => hS) ?_
          refine x_py 7 (.int .i64 (op.2.length : Int)) rfl (by kernel_rfl) (tg := 10) (by kernel_rfl) (congrArg Value.bool hc9) (fun _ => y_len' Sl22 (rs_len h0) rfl) (fun _ => hS) ?_
          refine x_one (i := 11) (by kernel_rfl) ?_
          obtain ⟨r11, hr11, hs⟩ := bind_some hs
          refine xk_cally (b := false) rfl (tg := 10) (by kernel_rfl) (congrArg Value.bool hc9) Bd61 rfl (c_spec_l2Pow (M := M) n op.1  hO.fut hr11) rfl (by rintro _ _ _ ⟨rfl, hC12⟩; exact hS.ext hC12) ?_
          rintro _ w12 ⟨rfl, hC12⟩
          have h0 := h0.ext hC12
          have hb2 := hb2.chg hC12 (fun h => nomatch h)
          have hMid := hMid.ext hC12
          have hC := hC.ext hC12
          have hO := hO.ext hC12
          have hS := hS.ext hC12
          refine x_py 12 (.bool ((op.2.length : Int) != r11)) rfl (by kernel_rfl) (tg := 10) (by kernel_rfl) (congrArg Value.bool hc9) (fun _ => y_neq rfl rfl) (fun _ => hS) ?_
          refine x_p 13 (.bool ((op.2.length : Int) != r11)) rfl (by kernel_rfl)  (fun _ => y_pick_f (congrArg Value.bool hc9) rfl) (fun _ => hS) ?_
          refine x_end (by kernel_rfl) ?_
          clear hS
          cases hs
          exact ⟨_, fr_ovl 36 ⟨rfl, rfl, rfl, rfl, trivial⟩, hMid⟩
        · skip
          obtain ⟨r11, hr11, hs⟩ := bind_some hs
          refine xk_cally (b := false) rfl (tg := 10) (by kernel_rfl) (congrArg Value.bool hc9) Bd61 rfl (c_spec_l2Pow (M := M) n op.1  hO.fut hr11) rfl (by rintro _ _ _ ⟨rfl, hC14⟩; exact hS.ext hC14) ?_
          rintro _ w14 ⟨rfl, hC14⟩
          have h0 := h0.ext hC14
          have hb2 := hb2.chg hC14 (fun h => nomatch h)
          have hMid := hMid.ext hC14
          have hC := hC.ext hC14
          have hO := hO.ext hC14
          have hS := hS.ext hC14
          refine x_one (i := 6) (by kernel_rfl) ?_
          refine xk_valy (b := false) (.slice pa0 pn0 pc0) rfl (tg := 10) (by kernel_rfl) (congrArg Value.bool hc9) (y_load rfl ((box_load Ag22 Sz22 hb2 [(.int .i64 op.1)] [(.slice pa0 pn0 pc0)] [] rfl rfl (fun _ => rfl)) _ (Chg.refl _ _))) rfl (fun _ => hS) ?_
          refine x_py 7 (.int .i64 (op.2.length : Int)) rfl (by kernel_rfl) (tg := 10) (by kernel_rfl) (congrArg Value.bool hc9) (fun _ => y_len' Sl22 (rs_len h0) rfl) (fun _ => hS) ?_
          refine x_py 12 (.bool ((op.2.length : Int) != r11)) rfl (by kernel_rfl) (tg := 10) (by kernel_rfl) (congrArg Value.bool hc9) (fun _ => y_neq rfl rfl) (fun _ => hS) ?_
          refine x_p 13 (.bool ((op.2.length : Int) != r11)) rfl (by kernel_rfl)  (fun _ => y_pick_f (congrArg Value.bool hc9) rfl) (fun _ => hS) ?_
          refine x_end (by kernel_rfl) ?_
          clear hS
          cases hs
          exact ⟨_, fr_ovl 36 ⟨rfl, rfl, rfl, rfl, trivial⟩, hMid⟩
  · rintro a1 w4 ⟨σ, rfl, hCs3⟩
    have h0 := h0.ext hCs3
    have hb2 := hb2.chg hCs3 (fun h => nomatch h)
    have hC := hC.ext hCs3
    have hO := hO.ext hCs3
    rcases bif_some hs with ⟨hc16, hs⟩ | ⟨hc16, hs⟩
    · skip
      refine c_condT (congrArg Value.bool hc16) ?_
      refine c_seq ?_
      refine c_region ?_
      refine pl_val (.bool false) (y_assign rfl) ?_
      refine c_nil ?_
      refine wp_ret ?_
      cases hs
      exact ⟨_, fr_ovl 36 ⟨rfl, trivial⟩, hC⟩
    · skip
      refine c_condF (congrArg Value.bool hc16) ?_
      refine wp_skip ?_
      refine c_seq ?_
      refine c_seq ?_
      refine c_region ?_
      refine pl_val (.int .i64 0) (y_assign rfl) ?_
      refine c_nil ?_
      obtain ⟨o26, hl27, hs⟩ := bind_some hs
      refine wp_block ?_
      refine wp_forC (id := 0) (op.2.length : Int) (I := fun k24 s22 a w23 => ∃ (σ : Nat → Value), a = fr 36 (ovl σ [(0, (.int .i64 n)), (3, (.pointer (some ⟨g2, 0, none⟩))), (5, (.int .i64 k24))]) ∧ Chg [] w w23 ∧ Own (Nw w []) M w23 (([g2]) ++ []) ∧ (RT.rs (RT.int .i64)).val M w23 (.slice pa0 pn0 pc0) op.2 ([]) ∧ BoxV w23 g2 24 [(.int .i64 op.1), (.slice pa0 pn0 pc0)]) (J := fun s22 a w23 => ∃ (σ : Nat → Value), a = fr 36 (ovl σ []) ∧ Chg [] w w23 ∧ Own (Nw w []) M w23 (([g2]) ++ []) ∧ (RT.rs (RT.int .i64)).val M w23 (.slice pa0 pn0 pc0) op.2 ([]) ∧ BoxV w23 g2 24 [(.int .i64 op.1), (.slice pa0 pn0 pc0)]) (K := (k_spec_l2Op M w)) ?_ ?_ 0 () o26 _ _ ?_ hl27 ?_
      · rintro k24 s22 a w23 ⟨σ, rfl, hC, hO, h0, hb2⟩ hlt
        refine c_seq ?_
        refine c_seq ?_
        refine c_region ?_
        refine pl_val (.int .i64 k24) (y_move rfl) ?_
        refine pl_val (.pointer (some ⟨g2, 1, none⟩)) (y_faddr rfl Fa24x1) ?_
        refine pl_val (.slice pa0 pn0 pc0) (y_load rfl ((box_load Ag22 Sz22 hb2 [(.int .i64 op.1)] [(.slice pa0 pn0 pc0)] [] rfl rfl (fun _ => rfl)) _ (Chg.refl _ _))) ?_
        refine pl_val (.int .i64 (op.2.length : Int)) (y_len' Sl22 (rs_len h0) rfl) ?_
        refine pl_val (.bool (decide (k24 < (op.2.length : Int)))) (y_lss rfl rfl) ?_
        refine c_nil ?_
        refine c_condF (congrArg Value.bool (decide_eq_false hlt)) ?_
        refine wp_exit ?_
        exact ⟨rfl, _, fr_ovl 36 trivial, hC, hO, h0, hb2⟩
      · rintro k24 s22 o26 a w23 ⟨σ, rfl, hC, hO, h0, hb2⟩ hlt hw hs
        refine c_seq ?_
        refine c_seq ?_
        refine c_region ?_
        refine pl_val (.int .i64 k24) (y_move rfl) ?_
        refine pl_val (.pointer (some ⟨g2, 1, none⟩)) (y_faddr rfl Fa24x1) ?_
        refine pl_val (.slice pa0 pn0 pc0) (y_load rfl ((box_load Ag22 Sz22 hb2 [(.int .i64 op.1)] [(.slice pa0 pn0 pc0)] [] rfl rfl (fun _ => rfl)) _ (Chg.refl _ _))) ?_
        refine pl_val (.int .i64 (op.2.length : Int)) (y_len' Sl22 (rs_len h0) rfl) ?_
        refine pl_val (.bool (decide (k24 < (op.2.length : Int)))) (y_lss rfl rfl) ?_
        refine c_nil ?_
        refine c_condT (congrArg Value.bool (decide_eq_true hlt)) ?_
        refine wp_skip ?_
        refine c_seq ?_
        refine wp_block ?_
        refine c_seq ?_
        refine c_region ?_
        refine pl_val (.pointer (some ⟨g2, 1, none⟩)) (y_faddr rfl Fa24x1) ?_
        refine pl_val (.slice pa0 pn0 pc0) (y_load rfl ((box_load Ag22 Sz22 hb2 [(.int .i64 op.1)] [(.slice pa0 pn0 pc0)] [] rfl rfl (fun _ => rfl)) _ (Chg.refl _ _))) ?_
        refine pl_val (.int .i64 k24) (y_move rfl) ?_
        obtain ⟨x28, hx28, hs⟩ := bind_some hs
        obtain ⟨b29, o29, hp29, ha29⟩ := rs_idx Sl22 Sz3 h0 hx28
        refine pl_val (.pointer (some ⟨b29, o29, none⟩)) (hp29 _ _ _ _ _ _ _ _ _ rfl rfl) ?_
        refine pl_val (.int .i64 x28) (y_load rfl ((at_load_int Ag3 Sz3 ha29) _ (Chg.refl _ _))) ?_
        refine pl_val (.int .i64 n) (y_move rfl) ?_
        refine pl_val (.int .i64 (w64 (n - 1))) (y_sub rfl rfl) ?_
        obtain ⟨r31, hr31, hs⟩ := bind_some hs
        refine pl_call Bd56 rfl (c_spec_l1In (M := M) x28 0 (w64 (n - 1))  hO.fut hr31) ?_
        rintro _ w30 ⟨rfl, hC30⟩
        have h0 := h0.ext hC30
        have hb2 := hb2.chg hC30 (fun h => nomatch h)
        have hC := hC.ext hC30
        have hO := hO.ext hC30
        refine pl_val (.bool (!r31)) (y_not rfl) ?_
        refine c_nil ?_
        rcases bif_some hs with ⟨hc32, hs⟩ | ⟨hc32, hs⟩
        · skip
          refine c_condT (congrArg Value.bool hc32) ?_
          refine c_seq ?_
          refine c_region ?_
          refine pl_val (.bool false) (y_assign rfl) ?_
          refine c_nil ?_
          refine wp_ret ?_
          cases hs
          exact ⟨_, fr_ovl 36 ⟨rfl, trivial⟩, hC⟩
        · skip
          refine c_condF (congrArg Value.bool hc32) ?_
          refine wp_skip ?_
          refine c_region ?_
          refine pl_val (.int .i64 k24) (y_move rfl) ?_
          refine pl_val (.int .i64 (w64 (k24 + 1))) (y_add rfl rfl) ?_
          refine pl_val (.int .i64 (w64 (k24 + 1))) (y_assign rfl) ?_
          refine c_nil ?_
          cases hs
          exact ⟨_, fr_ovl 36 ⟨rfl, rfl, congrArg (Value.int .i64) hw, trivial⟩, hC, hO, h0, hb2⟩
      · skip
        exact ⟨_, fr_ovl 36 ⟨rfl, rfl, rfl, trivial⟩, hC, hO, h0, hb2⟩
      · cases o26 with
        | nx _ => exact True.intro
        | rt r_ =>
          have hs := after_rt hs
          intro a1 w1 hK
          cases hs
          exact hK
        | br s22 =>
          have hs := after_br hs
          rintro a1 w23 ⟨σ, rfl, hC, hO, h0, hb2⟩
          refine c_seq ?_
          refine c_region ?_
          refine pl_val (.bool true) (y_assign rfl) ?_
          refine c_nil ?_
          refine wp_ret ?_
          cases hs
          exact ⟨_, fr_ovl 36 ⟨rfl, trivial⟩, hC⟩

def k_spec_l2Args (M : Nat → Prop) (w0 : World) (r : (List Int)) (a : Act) (w : World) : Prop :=
  ∃ (σ : Nat → Value) (ra0 : Option Addr) (rn0 rc0 : Nat) (rf0 : List Nat), a = fr 27 (ovl σ [(6, (.slice ra0 rn0 rc0))]) ∧ Chg [] w0 w ∧ (RT.os 3 (RT.int .i64)).val M w (.slice ra0 rn0 rc0) r rf0 ∧ Own (Nw w0 []) (fun _ => True) w (rf0 ++ ([]))
def s_spec_l2Args (n : Int) (arity : Int) (at_ : Int) : Option ((List Int)) :=
  (mks arity (0 : Int)).bind fun y2 =>
  (iter (S := Int × Int × (List Int)) (R := (List Int)) (fun s17 =>
  (bif (decide (0 ≤ s17.2.1)) then (nz n).bind fun u26 =>
  (idx s17.2.2 s17.2.1).bind fun x27 =>
  (nz n).bind fun u30 =>
  some (.nx (w64 (Int.tdiv s17.1 n), w64 (s17.2.1 - 1), List.set s17.2.2 (Int.toNat s17.2.1) (Int.tmod s17.1 n))) else some (.br (s17.1, s17.2.1, s17.2.2)))) FU (at_, w64 (arity - 1), y2)).bind fun o21 => after o21 (fun r_ => some r_) (fun s17 =>
  some s17.2.2)
set_option maxHeartbeats 4000000 in
theorem c_spec_l2Args {M : Nat → Prop} {w : World}  (n : Int) (arity : Int) (at_ : Int)  (hM : ∀ g, w.heap.size ≤ g → M g) {r : (List Int)} (hs : s_spec_l2Args n arity at_ = some r) :
    Gives Try.prog 57 [(.int .i64 n), (.int .i64 arity), (.int .i64 at_)] w (fun v w' => ∃ (ra0 : Option Addr) (rn0 rc0 : Nat) (rf0 : List Nat), v = (.slice ra0 rn0 rc0) ∧ Chg [] w w' ∧ (RT.os 3 (RT.int .i64)).val M w' (.slice ra0 rn0 rc0) r rf0 ∧ Own (Nw w []) (fun _ => True) w' (rf0 ++ ([]))) := by
  refine calls_fr Try.func57 rfl Try.ntmps57 (Nat.le_of_ble_eq_true rfl) ?_
  have hO := Own.start (N := Nw w []) hM Nw.fut
  have hC := Chg.refl [] w
  unfold s_spec_l2Args at hs
  refine wp_mono (Q := KPost (k_spec_l2Args M w r)) ?_ (fun e a w1 h => ?_)
  rotate_left
  · cases e
    case ret =>
      obtain ⟨σ, ra0, rn0, rc0, rf0, rfl, hrest⟩ := h
      exact ret1x Try.results57 (res_tmp rfl) ⟨ra0, rn0, rc0, rf0, rfl, hrest⟩
    all_goals exact (h : False).elim
  refine c_seq ?_
  refine c_region ?_
  refine pl_val (.slice none 0 0) (y_assign rfl) ?_
  refine c_nil ?_
  refine c_seq ?_
  refine c_region ?_
  refine pl_val (.int .i64 arity) (y_move rfl) ?_
  obtain ⟨y2, hy2, hs⟩ := bind_some hs
  obtain ⟨a1, n1, c1, w1, f1, hm1, hC1, hfr1, hv1⟩ := mk_os (M := M) (w := w) (r := (RT.int .i64)) Rw22 hy2 (fun _ _ => ⟨rfl, rfl⟩)
  refine pl_val (w' := w1) (.slice a1 n1 c1) (y_make rfl rfl hm1) ?_
  have hC := hC.ext hC1
  have hO := hO.new hC1 hfr1 (os_nodup hv1) hv1.fpl
  refine pl_val (.slice a1 n1 c1) (y_assign rfl) ?_
  refine c_nil ?_
  refine c_seq ?_
  refine c_seq ?_
  refine c_region ?_
  refine pl_val (.int .i64 arity) (y_move rfl) ?_
  refine pl_val (.int .i64 (w64 (arity - 1))) (y_sub rfl rfl) ?_
  refine pl_val (.int .i64 (w64 (arity - 1))) (y_assign rfl) ?_
  refine c_nil ?_
  obtain ⟨o21, hl22, hs⟩ := bind_some hs
  refine wp_block ?_
  refine wp_iter (id := 0) (I := fun s17 a w18 => ∃ (σ : Nat → Value) (f23 : List Nat), a = fr 27 (ovl σ [(0, (.int .i64 n)), (2, (.int .i64 s17.1)), (7, (.slice a1 n1 c1)), (8, (.int .i64 s17.2.1))]) ∧ Chg [] w w18 ∧ Own (Nw w []) M w18 (f23 ++ []) ∧ (RT.os 3 (RT.int .i64)).val M w18 (.slice a1 n1 c1) s17.2.2 f23) (J := fun s17 a w18 => ∃ (σ : Nat → Value) (f24 : List Nat), a = fr 27 (ovl σ [(7, (.slice a1 n1 c1))]) ∧ Chg [] w w18 ∧ Own (Nw w []) M w18 (f24 ++ []) ∧ (RT.os 3 (RT.int .i64)).val M w18 (.slice a1 n1 c1) s17.2.2 f24) (K := (k_spec_l2Args M w)) ?_ FU (at_, w64 (arity - 1), y2) o21 _ _ ?_ hl22 ?_
  · rintro s17 o21 a w18 ⟨σ, f23, rfl, hC, hO, hv23⟩ hs
    refine c_seq ?_
    refine c_seq ?_
    refine c_region ?_
    refine pl_val (.int .i64 s17.2.1) (y_move rfl) ?_
    refine pl_val (.bool (decide (0 ≤ s17.2.1))) (y_geq rfl rfl) ?_
    refine c_nil ?_
    rcases bif_some hs with ⟨hc25, hs⟩ | ⟨hc25, hs⟩
    · skip
      refine c_condT (congrArg Value.bool hc25) ?_
      refine wp_skip ?_
      refine c_seq ?_
      refine wp_block ?_
      refine c_seq ?_
      refine c_region ?_
      refine pl_val (.slice a1 n1 c1) (y_move rfl) ?_
      refine pl_val (.int .i64 s17.2.1) (y_move rfl) ?_
      refine pl_val (.int .i64 s17.1) (y_move rfl) ?_
      refine pl_val (.int .i64 n) (y_move rfl) ?_
      obtain ⟨u26, hu26, hs⟩ := bind_some hs
      refine pl_val (.int .i64 (Int.tmod s17.1 n)) (y_rem rfl rfl (nz_ne hu26)) ?_
      obtain ⟨x27, hx27, hs⟩ := bind_some hs
      obtain ⟨g28, f28, hg28, hk28, hp28, ha28, hf28⟩ := os_idx Sl22 Sz3 hv23 hx27
      refine pl_val (.pointer (some ⟨g28, 0 + Int.toNat s17.2.1 * 1, none⟩)) (hp28 _ _ _ _ _ _ _ _ _ rfl rfl) ?_
      obtain ⟨w29, f29, hst29, hC29, hf29, hv29⟩ := os_store (P := Try.prog) (c' := [(.int .i64 (Int.tmod s17.1 n))]) hg28 hv23 hk28 (fun g hg => hO.inM g (os_block hv23 g (by simpa using hg))) ⟨rfl, rfl⟩ List.nodup_nil (fun _ h => nomatch h) (fun _ h => .inl h)
      have hG29 : ∀ q ∈ [g28], q ∈ f23 := fun q hq => os_block hv23 q (by rw [hg28]; exact hq)
      refine pl_skip (w' := w29) (ys_store rfl rfl (hst29 _ _ rfl Sz3)) ?_
      have hC := hC.step hC29 (fun g hg => hO.inN g (hG29 g hg))
      have hO := hO.grow hC29 (fun q hq => .inl ((hf29 q hq).resolve_right (fun h => nomatch h))) (os_nodup hv29) hv29.fpl
      refine c_nil ?_
      refine c_region ?_
      refine pl_val (.int .i64 s17.1) (y_move rfl) ?_
      refine pl_val (.int .i64 n) (y_move rfl) ?_
      obtain ⟨u30, hu30, hs⟩ := bind_some hs
      refine pl_val (.int .i64 (w64 (Int.tdiv s17.1 n))) (y_quo rfl rfl (nz_ne hu30)) ?_
      refine pl_val (.int .i64 (w64 (Int.tdiv s17.1 n))) (y_assign rfl) ?_
      refine c_nil ?_
      refine c_region ?_
      refine pl_val (.int .i64 s17.2.1) (y_move rfl) ?_
      refine pl_val (.int .i64 (w64 (s17.2.1 - 1))) (y_sub rfl rfl) ?_
      refine pl_val (.int .i64 (w64 (s17.2.1 - 1))) (y_assign rfl) ?_
      refine c_nil ?_
      cases hs
      exact ⟨_, f29, fr_ovl 27 ⟨rfl, rfl, rfl, rfl, trivial⟩, hC, hO, hv29⟩
    · skip
      refine c_condF (congrArg Value.bool hc25) ?_
      refine wp_exit ?_
      cases hs
      exact ⟨rfl, _, f23, fr_ovl 27 ⟨rfl, trivial⟩, hC, hO, hv23⟩
  · skip
    exact ⟨_, f1, fr_ovl 27 ⟨rfl, rfl, rfl, rfl, trivial⟩, hC, hO, hv1⟩
  · cases o21 with
    | nx _ => exact True.intro
    | rt r_ =>
      have hs := after_rt hs
      intro a1 w1 hK
      cases hs
      exact hK
    | br s17 =>
      have hs := after_br hs
      rintro a1 w18 ⟨σ, f24, rfl, hC, hO, hv24⟩
      refine c_seq ?_
      refine c_region ?_
      refine pl_val (.slice a1 n1 c1) (y_move rfl) ?_
      refine pl_val (.slice a1 n1 c1) (y_assign rfl) ?_
      refine c_nil ?_
      refine wp_ret ?_
      cases hs
      exact ⟨_, a1, n1, c1, f24, fr_ovl 27 ⟨rfl, trivial⟩, hC, hv24, hO.top⟩

theorem Bd57 : Bodied Try.prog 57 := bodied Try.func57 (by kernel_rfl) rfl

def k_spec_l12Projection (M : Nat → Prop) (w0 : World) (r : (List Int)) (a : Act) (w : World) : Prop :=
  ∃ (σ : Nat → Value) (ra0 : Option Addr) (rn0 rc0 : Nat) (rf0 : List Nat), a = fr 28 (ovl σ [(6, (.slice ra0 rn0 rc0))]) ∧ Chg [] w0 w ∧ (RT.os 3 (RT.int .i64)).val M w (.slice ra0 rn0 rc0) r rf0 ∧ Own (Nw w0 []) (fun _ => True) w (rf0 ++ ([]))
def s_spec_l12Projection (n : Int) (k : Int) (place : Int) : Option ((List Int)) :=
  (iter (S := (List Int) × Int) (R := (List Int)) (fun s18 =>
  (s_spec_l2Pow n k).bind fun r29 =>
  (bif (decide (s18.2 < r29)) then (s_spec_l2Args n k s18.2).bind fun r32 =>
  (idx r32 place).bind fun x34 =>
  (app s18.1 ([x34])).bind fun y39 =>
  some (.nx (y39, w64 (s18.2 + 1))) else some (.br (s18.1, s18.2)))) FU ([], 0)).bind fun o22 => after o22 (fun r_ => some r_) (fun s18 =>
  some s18.1)
set_option maxHeartbeats 4000000 in
theorem c_spec_l12Projection {M : Nat → Prop} {w : World}  (n : Int) (k : Int) (place : Int)  (hM : ∀ g, w.heap.size ≤ g → M g) {r : (List Int)} (hs : s_spec_l12Projection n k place = some r) :
    Gives Try.prog 46 [(.int .i64 n), (.int .i64 k), (.int .i64 place)] w (fun v w' => ∃ (ra0 : Option Addr) (rn0 rc0 : Nat) (rf0 : List Nat), v = (.slice ra0 rn0 rc0) ∧ Chg [] w w' ∧ (RT.os 3 (RT.int .i64)).val M w' (.slice ra0 rn0 rc0) r rf0 ∧ Own (Nw w []) (fun _ => True) w' (rf0 ++ ([]))) := by
  refine calls_fr Try.func46 rfl Try.ntmps46 (Nat.le_of_ble_eq_true rfl) ?_
  have hO := Own.start (N := Nw w []) hM Nw.fut
  have hC := Chg.refl [] w
  unfold s_spec_l12Projection at hs
  refine wp_mono (Q := KPost (k_spec_l12Projection M w r)) ?_ (fun e a w1 h => ?_)
  rotate_left
  · cases e
    case ret =>
      obtain ⟨σ, ra0, rn0, rc0, rf0, rfl, hrest⟩ := h
      exact ret1x Try.results46 (res_tmp rfl) ⟨ra0, rn0, rc0, rf0, rfl, hrest⟩
    all_goals exact (h : False).elim
  refine c_seq ?_
  refine c_region ?_
  refine pl_val (.slice none 0 0) (y_assign rfl) ?_
  refine c_nil ?_
  refine c_seq ?_
  refine c_region ?_
  obtain ⟨w1, g1, ew1, eg1, hC1, hb1⟩ := new_block w [] 3
  refine pl_val (w' := w1) (.slice (some ⟨g1, 0, none⟩) 0 0) (y_bslice rfl (by rw [ew1, eg1]; kernel_rfl)) ?_
  have hC := hC.ext hC1
  have hO := hO.new (X' := [g1]) hC1 (fun q hq => by rw [List.mem_singleton.1 hq, eg1]; exact Nat.le_refl _) (List.nodup_cons.2 ⟨(fun h => nomatch h), List.nodup_nil⟩) (fun q hq => by rw [List.mem_singleton.1 hq]; exact hb1.lt)
  have hv1 := os_of_box (r := (RT.int .i64)) (M := M) (css := []) (fps := []) (xs := ([] : List Int)) hb1 trivial (Nat.zero_le _) (List.nodup_cons.2 ⟨(fun h => nomatch h), List.nodup_nil⟩)
  have hv1 : (RT.os 3 (RT.int .i64)).val M w1 (.slice (some ⟨g1, 0, none⟩) 0 0) [] [g1] := hv1
  refine pl_val (.slice (some ⟨g1, 0, none⟩) 0 0) (y_assign rfl) ?_
  refine c_nil ?_
  refine c_seq ?_
  refine c_seq ?_
  refine c_region ?_
  refine pl_val (.int .i64 0) (y_assign rfl) ?_
  refine c_nil ?_
  obtain ⟨o22, hl23, hs⟩ := bind_some hs
  refine wp_block ?_
  refine wp_iter (id := 0) (I := fun s18 a w19 => ∃ (σ : Nat → Value) (a24 : Option Addr) (n24 : Nat) (c24 : Nat) (f24 : List Nat), a = fr 28 (ovl σ [(0, (.int .i64 n)), (1, (.int .i64 k)), (2, (.int .i64 place)), (7, (.slice a24 n24 c24)), (8, (.int .i64 s18.2))]) ∧ Chg [] w w19 ∧ Own (Nw w []) M w19 (f24 ++ []) ∧ (RT.os 3 (RT.int .i64)).val M w19 (.slice a24 n24 c24) s18.1 f24) (J := fun s18 a w19 => ∃ (σ : Nat → Value) (a26 : Option Addr) (n26 : Nat) (c26 : Nat) (f26 : List Nat), a = fr 28 (ovl σ [(7, (.slice a26 n26 c26))]) ∧ Chg [] w w19 ∧ Own (Nw w []) M w19 (f26 ++ []) ∧ (RT.os 3 (RT.int .i64)).val M w19 (.slice a26 n26 c26) s18.1 f26) (K := (k_spec_l12Projection M w)) ?_ FU ([], 0) o22 _ _ ?_ hl23 ?_
  · rintro s18 o22 a w19 ⟨σ, a24, n24, c24, f24, rfl, hC, hO, hv24⟩ hs
    refine c_seq ?_
    refine c_seq ?_
    refine c_region ?_
    refine pl_val (.int .i64 s18.2) (y_move rfl) ?_
    refine pl_val (.int .i64 n) (y_move rfl) ?_
    refine pl_val (.int .i64 k) (y_move rfl) ?_
    obtain ⟨r29, hr29, hs⟩ := bind_some hs
    refine pl_call Bd61 rfl (c_spec_l2Pow (M := M) n k  hO.fut hr29) ?_
    rintro _ w28 ⟨rfl, hC28⟩
    have hv24 := hv24.ext hC28
    have hC := hC.ext hC28
    have hO := hO.ext hC28
    refine pl_val (.bool (decide (s18.2 < r29))) (y_lss rfl rfl) ?_
    refine c_nil ?_
    rcases bif_some hs with ⟨hc30, hs⟩ | ⟨hc30, hs⟩
    · skip
      refine c_condT (congrArg Value.bool hc30) ?_
      refine wp_skip ?_
      refine c_seq ?_
      refine wp_block ?_
      refine c_region ?_
      refine pl_val (.slice a24 n24 c24) (y_move rfl) ?_
      refine pl_val (.int .i64 n) (y_move rfl) ?_
      refine pl_val (.int .i64 k) (y_move rfl) ?_
      refine pl_val (.int .i64 s18.2) (y_move rfl) ?_
      obtain ⟨r32, hr32, hs⟩ := bind_some hs
      refine pl_call Bd57 rfl (c_spec_l2Args (M := M) n k s18.2  hO.fut hr32) ?_
      rintro _ w31 ⟨a31x0, n31x0, c31x0, f31x0, rfl, hC31, hv31x0, hOc31⟩
      have hv24 := hv24.ext hC31
      have hC := hC.ext hC31
      have hO := Own.join0 hO hC31 hOc31
      have hO := hO.perm (R := f31x0 ++ (f24 ++ ([]))) (by simp)
      refine pl_val (.int .i64 place) (y_move rfl) ?_
      obtain ⟨x34, hx34, hs⟩ := bind_some hs
      obtain ⟨g35, f35, hg35, hk35, hp35, ha35, hf35⟩ := os_idx Sl22 Sz3 hv31x0 hx34
      refine pl_val (.pointer (some ⟨g35, 0 + Int.toNat place * 1, none⟩)) (hp35 _ _ _ _ _ _ _ _ _ rfl rfl) ?_
      refine pl_val (.int .i64 x34) (y_load rfl ((at_load_int Ag3 Sz3 ha35) _ (Chg.refl _ _))) ?_
      obtain ⟨w36, g36, ew36, eg36, hC36, hb36⟩ := new_block w31 [(.int .i64 x34)] 3
      refine pl_val (w' := w36) (.slice (some ⟨g36, 0, none⟩) 1 1) (y_bslice rfl (by rw [ew36, eg36]; kernel_rfl)) ?_
      have hv24 := hv24.ext hC36
      have hv31x0 := hv31x0.ext hC36
      have hC := hC.ext hC36
      have hO := hO.new (X' := [g36]) hC36 (fun q hq => by rw [List.mem_singleton.1 hq, eg36]; exact Nat.le_refl _) (List.nodup_cons.2 ⟨(fun h => nomatch h), List.nodup_nil⟩) (fun q hq => by rw [List.mem_singleton.1 hq]; exact hb36.lt)
      have hv36 := os_of_box (r := (RT.int .i64)) (M := M) (css := [[(.int .i64 x34)]]) (fps := [([] : List Nat)]) (xs := ([x34] : List Int)) hb36 ⟨⟨rfl, rfl⟩, trivial⟩ (Nat.le_of_ble_eq_true rfl) (List.nodup_cons.2 ⟨(fun h => nomatch h), List.nodup_nil⟩)
      have hv36 : (RT.os 3 (RT.int .i64)).val M w36 (.slice (some ⟨g36, 0, none⟩) 1 1) [x34] [g36] := hv36
      obtain ⟨y39, hy39, hs⟩ := bind_some hs
      have hO := hO.fr2
      obtain ⟨a38, n38, c38, w38, f38, hr38, hC38, hf38, hv38⟩ := app_os Rw22 hy39 hv24 hv36 hO.inM (fun g hg hq => hO.apart g hq (mem_l hg))
      have hG38 := os_block hv24
      refine pl_val (w' := w38) (.slice a38 n38 c38) (y_append rfl rfl (hr38 _)) ?_
      have hO := hO.fr1
      have hO := hO.fr1
      have hv31x0 := hv31x0.mut hC38 (fun g hg => hO.inM g (hG38 g hg)) (fun g hg e => hO.apart g (hG38 g hg) (mem_r (mem_l (e))))
      have hC := hC.step hC38 (fun g hg => hO.inN g (hG38 g hg))
      have hO := hO.eat hC38 hf38 (os_nodup hv38) hv38.fpl
      refine pl_val (.slice a38 n38 c38) (y_assign rfl) ?_
      refine c_nil ?_
      refine c_region ?_
      refine pl_val (.int .i64 s18.2) (y_move rfl) ?_
      refine pl_val (.int .i64 (w64 (s18.2 + 1))) (y_add rfl rfl) ?_
      refine pl_val (.int .i64 (w64 (s18.2 + 1))) (y_assign rfl) ?_
      refine c_nil ?_
      cases hs
      have hO := hO.fr1
      have hO := hO.drop
      exact ⟨_, a38, n38, c38, f38, fr_ovl 28 ⟨rfl, rfl, rfl, rfl, rfl, trivial⟩, hC, hO, hv38⟩
    · skip
      refine c_condF (congrArg Value.bool hc30) ?_
      refine wp_exit ?_
      cases hs
      exact ⟨rfl, _, a24, n24, c24, f24, fr_ovl 28 ⟨rfl, trivial⟩, hC, hO, hv24⟩
  · skip
    exact ⟨_, (some ⟨g1, 0, none⟩), 0, 0, ([g1]), fr_ovl 28 ⟨rfl, rfl, rfl, rfl, rfl, trivial⟩, hC, hO, hv1⟩
  · cases o22 with
    | nx _ => exact True.intro
    | rt r_ =>
      have hs := after_rt hs
      intro a1 w1 hK
      cases hs
      exact hK
    | br s18 =>
      have hs := after_br hs
      rintro a1 w19 ⟨σ, a26, n26, c26, f26, rfl, hC, hO, hv26⟩
      refine c_seq ?_
      refine c_region ?_
      refine pl_val (.slice a26 n26 c26) (y_move rfl) ?_
      refine pl_val (.slice a26 n26 c26) (y_assign rfl) ?_
      refine c_nil ?_
      refine wp_ret ?_
      cases hs
      exact ⟨_, a26, n26, c26, f26, fr_ovl 28 ⟨rfl, trivial⟩, hC, hv26, hO.top⟩

theorem Sl50 : SlT Try.prog 50 22 := Try.underlying50

def k_spec_l12Compose (M : Nat → Prop) (w0 : World) (r : (List Int)) (a : Act) (w : World) : Prop :=
  ∃ (σ : Nat → Value) (ra0 : Option Addr) (rn0 rc0 : Nat) (rf0 : List Nat), a = fr 45 (ovl σ [(8, (.slice ra0 rn0 rc0))]) ∧ Chg [] w0 w ∧ (RT.os 3 (RT.int .i64)).val M w (.slice ra0 rn0 rc0) r rf0 ∧ Own (Nw w0 []) (fun _ => True) w (rf0 ++ ([]))
def s_spec_l12Compose (n : Int) (f : Int × (List Int)) (tables : List (List Int)) (size : Int) : Option ((List Int)) :=
  (forC (S := (List Int)) (R := (List Int)) (fun k35 s33 =>
  (forC (S := Int) (R := (List Int)) (fun k51 s49 =>
  (idx tables k51).bind fun x55 =>
  (idx x55 k35).bind fun x59 =>
  some (.nx (w64 ((w64 (s49 * n)) + x59)))) 0 (tables.length : Int) 0).bind fun o53 => after o53 (fun r_ => some (.rt r_)) (fun s49 =>
  (idx f.2 s49).bind fun x61 =>
  (app s33 ([x61])).bind fun y66 =>
  some (.nx y66))) 0 size ([])).bind fun o37 => after o37 (fun r_ => some r_) (fun s33 =>
  some s33)
set_option maxHeartbeats 4000000 in
theorem c_spec_l12Compose {M : Nat → Prop} {w : World} {pa0 : Option Addr} {pn0 pc0 : Nat} {pa1 : Option Addr} {pn1 pc1 : Nat} (n : Int) (f : Int × (List Int)) (tables : List (List Int)) (size : Int) (h0 : (RT.rs (RT.int .i64)).val M w (.slice pa0 pn0 pc0) f.2 ([])) (h1 : (RT.rs (RT.rs (RT.int .i64))).val M w (.slice pa1 pn1 pc1) tables ([])) (hM : ∀ g, w.heap.size ≤ g → M g) {r : (List Int)} (hs : s_spec_l12Compose n f tables size = some r) :
    Gives Try.prog 47 [(.int .i64 n), (.agg #[(.int .i64 f.1), (.slice pa0 pn0 pc0)]), (.slice pa1 pn1 pc1), (.int .i64 size)] w (fun v w' => ∃ (ra0 : Option Addr) (rn0 rc0 : Nat) (rf0 : List Nat), v = (.slice ra0 rn0 rc0) ∧ Chg [] w w' ∧ (RT.os 3 (RT.int .i64)).val M w' (.slice ra0 rn0 rc0) r rf0 ∧ Own (Nw w []) (fun _ => True) w' (rf0 ++ ([]))) := by
  refine calls_fr Try.func47 rfl Try.ntmps47 (Nat.le_of_ble_eq_true rfl) ?_
  have hO := Own.start (N := Nw w []) hM Nw.fut
  have hC := Chg.refl [] w
  unfold s_spec_l12Compose at hs
  refine wp_mono (Q := KPost (k_spec_l12Compose M w r)) ?_ (fun e a w1 h => ?_)
  rotate_left
  · cases e
    case ret =>
      obtain ⟨σ, ra0, rn0, rc0, rf0, rfl, hrest⟩ := h
      exact ret1x Try.results47 (res_tmp rfl) ⟨ra0, rn0, rc0, rf0, rfl, hrest⟩
    all_goals exact (h : False).elim
  refine c_seq ?_
  refine c_region ?_
  obtain ⟨w3, g3, ew3, eg3, hC3, hb3⟩ := new_block w [(.int .i64 f.1), (.slice pa0 pn0 pc0)] 24
  refine pl_val (w' := w3) (.pointer (some ⟨g3, 0, none⟩)) (y_box rfl (by rw [ew3, eg3]; kernel_rfl)) ?_
  have h0 := h0.ext hC3
  have h1 := h1.ext hC3
  have hC := hC.ext hC3
  have hO := hO.new (X' := [g3]) hC3 (fun q hq => by rw [List.mem_singleton.1 hq, eg3]; exact Nat.le_refl _) (List.nodup_cons.2 ⟨(fun h => nomatch h), List.nodup_nil⟩) (fun q hq => by rw [List.mem_singleton.1 hq]; exact hb3.lt)
  refine pl_val (.slice none 0 0) (y_assign rfl) ?_
  refine c_nil ?_
  refine c_seq ?_
  refine c_region ?_
  obtain ⟨w4, g4, ew4, eg4, hC4, hb4⟩ := new_block w3 [] 3
  refine pl_val (w' := w4) (.slice (some ⟨g4, 0, none⟩) 0 0) (y_bslice rfl (by rw [ew4, eg4]; kernel_rfl)) ?_
  have h0 := h0.ext hC4
  have h1 := h1.ext hC4
  have hb3 := hb3.chg hC4 (fun h => nomatch h)
  have hC := hC.ext hC4
  have hO := hO.new (X' := [g4]) hC4 (fun q hq => by rw [List.mem_singleton.1 hq, eg4]; exact Nat.le_refl _) (List.nodup_cons.2 ⟨(fun h => nomatch h), List.nodup_nil⟩) (fun q hq => by rw [List.mem_singleton.1 hq]; exact hb4.lt)
  have hv4 := os_of_box (r := (RT.int .i64)) (M := M) (css := []) (fps := []) (xs := ([] : List Int)) hb4 trivial (Nat.zero_le _) (List.nodup_cons.2 ⟨(fun h => nomatch h), List.nodup_nil⟩)
  have hv4 : (RT.os 3 (RT.int .i64)).val M w4 (.slice (some ⟨g4, 0, none⟩) 0 0) [] [g4] := hv4
  refine pl_val (.slice (some ⟨g4, 0, none⟩) 0 0) (y_assign rfl) ?_
  refine c_nil ?_
  refine c_seq ?_
  refine c_seq ?_
  refine c_region ?_
  refine pl_val (.int .i64 0) (y_assign rfl) ?_
  refine c_nil ?_
  obtain ⟨o37, hl38, hs⟩ := bind_some hs
  refine wp_block ?_
  refine wp_forC (id := 0) size (I := fun k35 s33 a w34 => ∃ (σ : Nat → Value) (a39 : Option Addr) (n39 : Nat) (c39 : Nat) (f39 : List Nat), a = fr 45 (ovl σ [(0, (.int .i64 n)), (2, (.slice pa1 pn1 pc1)), (3, (.int .i64 size)), (5, (.pointer (some ⟨g3, 0, none⟩))), (9, (.slice a39 n39 c39)), (10, (.int .i64 k35))]) ∧ Chg [] w w34 ∧ Own (Nw w []) M w34 (f39 ++ (([g3]) ++ [])) ∧ (RT.rs (RT.int .i64)).val M w34 (.slice pa0 pn0 pc0) f.2 ([]) ∧ (RT.rs (RT.rs (RT.int .i64))).val M w34 (.slice pa1 pn1 pc1) tables ([]) ∧ BoxV w34 g3 24 [(.int .i64 f.1), (.slice pa0 pn0 pc0)] ∧ (RT.os 3 (RT.int .i64)).val M w34 (.slice a39 n39 c39) s33 f39) (J := fun s33 a w34 => ∃ (σ : Nat → Value) (a41 : Option Addr) (n41 : Nat) (c41 : Nat) (f41 : List Nat), a = fr 45 (ovl σ [(9, (.slice a41 n41 c41))]) ∧ Chg [] w w34 ∧ Own (Nw w []) M w34 (f41 ++ (([g3]) ++ [])) ∧ (RT.rs (RT.int .i64)).val M w34 (.slice pa0 pn0 pc0) f.2 ([]) ∧ (RT.rs (RT.rs (RT.int .i64))).val M w34 (.slice pa1 pn1 pc1) tables ([]) ∧ BoxV w34 g3 24 [(.int .i64 f.1), (.slice pa0 pn0 pc0)] ∧ (RT.os 3 (RT.int .i64)).val M w34 (.slice a41 n41 c41) s33 f41) (K := (k_spec_l12Compose M w)) ?_ ?_ 0 ([]) o37 _ _ ?_ hl38 ?_
  · rintro k35 s33 a w34 ⟨σ, a39, n39, c39, f39, rfl, hC, hO, h0, h1, hb3, hv39⟩ hlt
    refine c_seq ?_
    refine c_seq ?_
    refine c_region ?_
    refine pl_val (.int .i64 k35) (y_move rfl) ?_
    refine pl_val (.int .i64 size) (y_move rfl) ?_
    refine pl_val (.bool (decide (k35 < size))) (y_lss rfl rfl) ?_
    refine c_nil ?_
    refine c_condF (congrArg Value.bool (decide_eq_false hlt)) ?_
    refine wp_exit ?_
    have hO := hO.fr1
    have hO := hO.fr1
    exact ⟨rfl, _, a39, n39, c39, f39, fr_ovl 45 ⟨rfl, trivial⟩, hC, hO, h0, h1, hb3, hv39⟩
  · rintro k35 s33 o37 a w34 ⟨σ, a39, n39, c39, f39, rfl, hC, hO, h0, h1, hb3, hv39⟩ hlt hw hs
    refine c_seq ?_
    refine c_seq ?_
    refine c_region ?_
    refine pl_val (.int .i64 k35) (y_move rfl) ?_
    refine pl_val (.int .i64 size) (y_move rfl) ?_
    refine pl_val (.bool (decide (k35 < size))) (y_lss rfl rfl) ?_
    refine c_nil ?_
    refine c_condT (congrArg Value.bool (decide_eq_true hlt)) ?_
    refine wp_skip ?_
    refine c_seq ?_
    refine wp_block ?_
    refine c_seq ?_
    refine c_region ?_
    refine pl_val (.int .i64 0) (y_assign rfl) ?_
    refine c_nil ?_
    refine c_seq ?_
    refine c_seq ?_
    refine c_region ?_
    refine pl_val (.int .i64 0) (y_assign rfl) ?_
    refine c_nil ?_
    obtain ⟨o53, hl54, hs⟩ := bind_some hs
    refine wp_block ?_
    refine wp_forC (id := 2) (tables.length : Int) (I := fun k51 s49 a w50 => ∃ (σ : Nat → Value), a = fr 45 (ovl σ [(0, (.int .i64 n)), (2, (.slice pa1 pn1 pc1)), (3, (.int .i64 size)), (5, (.pointer (some ⟨g3, 0, none⟩))), (9, (.slice a39 n39 c39)), (10, (.int .i64 k35)), (11, (.int .i64 s49)), (12, (.int .i64 k51))]) ∧ Chg [] w w50 ∧ Own (Nw w []) M w50 (f39 ++ (([g3]) ++ [])) ∧ (RT.rs (RT.int .i64)).val M w50 (.slice pa0 pn0 pc0) f.2 ([]) ∧ (RT.rs (RT.rs (RT.int .i64))).val M w50 (.slice pa1 pn1 pc1) tables ([]) ∧ BoxV w50 g3 24 [(.int .i64 f.1), (.slice pa0 pn0 pc0)] ∧ (RT.os 3 (RT.int .i64)).val M w50 (.slice a39 n39 c39) s33 f39) (J := fun s49 a w50 => ∃ (σ : Nat → Value), a = fr 45 (ovl σ [(0, (.int .i64 n)), (2, (.slice pa1 pn1 pc1)), (3, (.int .i64 size)), (5, (.pointer (some ⟨g3, 0, none⟩))), (9, (.slice a39 n39 c39)), (10, (.int .i64 k35)), (11, (.int .i64 s49))]) ∧ Chg [] w w50 ∧ Own (Nw w []) M w50 (f39 ++ (([g3]) ++ [])) ∧ (RT.rs (RT.int .i64)).val M w50 (.slice pa0 pn0 pc0) f.2 ([]) ∧ (RT.rs (RT.rs (RT.int .i64))).val M w50 (.slice pa1 pn1 pc1) tables ([]) ∧ BoxV w50 g3 24 [(.int .i64 f.1), (.slice pa0 pn0 pc0)] ∧ (RT.os 3 (RT.int .i64)).val M w50 (.slice a39 n39 c39) s33 f39) (K := (k_spec_l12Compose M w)) ?_ ?_ 0 0 o53 _ _ ?_ hl54 ?_
    · rintro k51 s49 a w50 ⟨σ, rfl, hC, hO, h0, h1, hb3, hv39⟩ hlt
      refine c_seq ?_
      refine c_seq ?_
      refine c_region ?_
      refine pl_val (.int .i64 k51) (y_move rfl) ?_
      refine pl_val (.slice pa1 pn1 pc1) (y_move rfl) ?_
      refine pl_val (.int .i64 (tables.length : Int)) (y_len' Sl50 (rs_len h1) rfl) ?_
      refine pl_val (.bool (decide (k51 < (tables.length : Int)))) (y_lss rfl rfl) ?_
      refine c_nil ?_
      refine c_condF (congrArg Value.bool (decide_eq_false hlt)) ?_
      refine wp_exit ?_
      have hO := hO.fr1
      have hO := hO.fr1
      exact ⟨rfl, _, fr_ovl 45 ⟨rfl, rfl, rfl, rfl, rfl, rfl, rfl, trivial⟩, hC, hO, h0, h1, hb3, hv39⟩
    · rintro k51 s49 o53 a w50 ⟨σ, rfl, hC, hO, h0, h1, hb3, hv39⟩ hlt hw hs
      refine c_seq ?_
      refine c_seq ?_
      refine c_region ?_
      refine pl_val (.int .i64 k51) (y_move rfl) ?_
      refine pl_val (.slice pa1 pn1 pc1) (y_move rfl) ?_
      refine pl_val (.int .i64 (tables.length : Int)) (y_len' Sl50 (rs_len h1) rfl) ?_
      refine pl_val (.bool (decide (k51 < (tables.length : Int)))) (y_lss rfl rfl) ?_
      refine c_nil ?_
      refine c_condT (congrArg Value.bool (decide_eq_true hlt)) ?_
      refine wp_skip ?_
      refine c_seq ?_
      refine wp_block ?_
      refine c_region ?_
      refine pl_val (.int .i64 s49) (y_move rfl) ?_
      refine pl_val (.int .i64 n) (y_move rfl) ?_
      refine pl_val (.int .i64 (w64 (s49 * n))) (y_mul rfl rfl) ?_
      refine pl_val (.slice pa1 pn1 pc1) (y_move rfl) ?_
      refine pl_val (.int .i64 k51) (y_move rfl) ?_
      obtain ⟨x55, hx55, hs⟩ := bind_some hs
      obtain ⟨b56, o56, hp56, ha56⟩ := rs_idx Sl50 Sz22 h1 hx55
      refine pl_val (.pointer (some ⟨b56, o56, none⟩)) (hp56 _ _ _ _ _ _ _ _ _ rfl rfl) ?_
      obtain ⟨v57, hl57, hv57⟩ := at_load Ag22 Sz22 (fun _ => rfl) ha56
      obtain ⟨a57, n57, c57, rfl⟩ := rs_sl hv57
      refine pl_val (.slice a57 n57 c57) (y_load rfl (hl57 _ (Chg.refl _ _))) ?_
      refine pl_val (.int .i64 k35) (y_move rfl) ?_
      obtain ⟨x59, hx59, hs⟩ := bind_some hs
      obtain ⟨b60, o60, hp60, ha60⟩ := rs_idx Sl22 Sz3 hv57 hx59
      refine pl_val (.pointer (some ⟨b60, o60, none⟩)) (hp60 _ _ _ _ _ _ _ _ _ rfl rfl) ?_
      refine pl_val (.int .i64 x59) (y_load rfl ((at_load_int Ag3 Sz3 ha60) _ (Chg.refl _ _))) ?_
      refine pl_val (.int .i64 (w64 ((w64 (s49 * n)) + x59))) (y_add rfl rfl) ?_
      refine pl_val (.int .i64 (w64 ((w64 (s49 * n)) + x59))) (y_assign rfl) ?_
      refine c_nil ?_
      refine c_region ?_
      refine pl_val (.int .i64 k51) (y_move rfl) ?_
      refine pl_val (.int .i64 (w64 (k51 + 1))) (y_add rfl rfl) ?_
      refine pl_val (.int .i64 (w64 (k51 + 1))) (y_assign rfl) ?_
      refine c_nil ?_
      cases hs
      have hO := hO.fr1
      have hO := hO.fr1
      exact ⟨_, fr_ovl 45 ⟨rfl, rfl, rfl, rfl, rfl, rfl, rfl, congrArg (Value.int .i64) hw, trivial⟩, hC, hO, h0, h1, hb3, hv39⟩
    · skip
      have hO := hO.fr1
      have hO := hO.fr1
      exact ⟨_, fr_ovl 45 ⟨rfl, rfl, rfl, rfl, rfl, rfl, rfl, rfl, trivial⟩, hC, hO, h0, h1, hb3, hv39⟩
    · cases o53 with
      | nx _ => exact True.intro
      | rt r_ =>
        have hs := after_rt hs
        intro a1 w1 hK
        cases hs
        exact hK
      | br s49 =>
        have hs := after_br hs
        rintro a1 w50 ⟨σ, rfl, hC, hO, h0, h1, hb3, hv39⟩
        refine c_region ?_
        refine pl_val (.slice a39 n39 c39) (y_move rfl) ?_
        refine pl_val (.pointer (some ⟨g3, 1, none⟩)) (y_faddr rfl Fa24x1) ?_
        refine pl_val (.slice pa0 pn0 pc0) (y_load rfl ((box_load Ag22 Sz22 hb3 [(.int .i64 f.1)] [(.slice pa0 pn0 pc0)] [] rfl rfl (fun _ => rfl)) _ (Chg.refl _ _))) ?_
        refine pl_val (.int .i64 s49) (y_move rfl) ?_
        obtain ⟨x61, hx61, hs⟩ := bind_some hs
        obtain ⟨b62, o62, hp62, ha62⟩ := rs_idx Sl22 Sz3 h0 hx61
        refine pl_val (.pointer (some ⟨b62, o62, none⟩)) (hp62 _ _ _ _ _ _ _ _ _ rfl rfl) ?_
        refine pl_val (.int .i64 x61) (y_load rfl ((at_load_int Ag3 Sz3 ha62) _ (Chg.refl _ _))) ?_
        obtain ⟨w63, g63, ew63, eg63, hC63, hb63⟩ := new_block w50 [(.int .i64 x61)] 3
        refine pl_val (w' := w63) (.slice (some ⟨g63, 0, none⟩) 1 1) (y_bslice rfl (by rw [ew63, eg63]; kernel_rfl)) ?_
        have h0 := h0.ext hC63
        have h1 := h1.ext hC63
        have hb3 := hb3.chg hC63 (fun h => nomatch h)
        have hv39 := hv39.ext hC63
        have hC := hC.ext hC63
        have hO := hO.new (X' := [g63]) hC63 (fun q hq => by rw [List.mem_singleton.1 hq, eg63]; exact Nat.le_refl _) (List.nodup_cons.2 ⟨(fun h => nomatch h), List.nodup_nil⟩) (fun q hq => by rw [List.mem_singleton.1 hq]; exact hb63.lt)
        have hv63 := os_of_box (r := (RT.int .i64)) (M := M) (css := [[(.int .i64 x61)]]) (fps := [([] : List Nat)]) (xs := ([x61] : List Int)) hb63 ⟨⟨rfl, rfl⟩, trivial⟩ (Nat.le_of_ble_eq_true rfl) (List.nodup_cons.2 ⟨(fun h => nomatch h), List.nodup_nil⟩)
        have hv63 : (RT.os 3 (RT.int .i64)).val M w63 (.slice (some ⟨g63, 0, none⟩) 1 1) [x61] [g63] := hv63
        obtain ⟨y66, hy66, hs⟩ := bind_some hs
        have hO := hO.fr1
        obtain ⟨a65, n65, c65, w65, f65, hr65, hC65, hf65, hv65⟩ := app_os Rw22 hy66 hv39 hv63 hO.inM (fun g hg hq => hO.apart g hq (mem_l hg))
        have hG65 := os_block hv39
        refine pl_val (w' := w65) (.slice a65 n65 c65) (y_append rfl rfl (hr65 _)) ?_
        have hO := hO.fr1
        have hO := hO.fr1
        have h0 := h0.mut hC65 (fun g hg => hO.inM g (hG65 g hg)) (fun _ _ h => nomatch h)
        have h1 := h1.mut hC65 (fun g hg => hO.inM g (hG65 g hg)) (fun _ _ h => nomatch h)
        have hb3 := hb3.chg hC65 (fun hg => hO.apart _ (hG65 _ hg) (mem_r (mem_l (List.mem_singleton.2 rfl))))
        have hC := hC.step hC65 (fun g hg => hO.inN g (hG65 g hg))
        have hO := hO.eat hC65 hf65 (os_nodup hv65) hv65.fpl
        refine pl_val (.slice a65 n65 c65) (y_assign rfl) ?_
        refine c_nil ?_
        refine c_region ?_
        refine pl_val (.int .i64 k35) (y_move rfl) ?_
        refine pl_val (.int .i64 (w64 (k35 + 1))) (y_add rfl rfl) ?_
        refine pl_val (.int .i64 (w64 (k35 + 1))) (y_assign rfl) ?_
        refine c_nil ?_
        cases hs
        have hO := hO.fr1
        have hO := hO.fr1
        exact ⟨_, a65, n65, c65, f65, fr_ovl 45 ⟨rfl, rfl, rfl, rfl, rfl, congrArg (Value.int .i64) hw, trivial⟩, hC, hO, h0, h1, hb3, hv65⟩
  · skip
    have hO := hO.fr1
    have hO := hO.fr1
    exact ⟨_, (some ⟨g4, 0, none⟩), 0, 0, ([g4]), fr_ovl 45 ⟨rfl, rfl, rfl, rfl, rfl, rfl, trivial⟩, hC, hO, h0, h1, hb3, hv4⟩
  · cases o37 with
    | nx _ => exact True.intro
    | rt r_ =>
      have hs := after_rt hs
      intro a1 w1 hK
      cases hs
      exact hK
    | br s33 =>
      have hs := after_br hs
      rintro a1 w34 ⟨σ, a41, n41, c41, f41, rfl, hC, hO, h0, h1, hb3, hv41⟩
      refine c_seq ?_
      refine c_region ?_
      refine pl_val (.slice a41 n41 c41) (y_move rfl) ?_
      refine pl_val (.slice a41 n41 c41) (y_assign rfl) ?_
      refine c_nil ?_
      refine wp_ret ?_
      cases hs
      have hO := hO.fr1
      have hO := hO.drop
      exact ⟨_, a41, n41, c41, f41, fr_ovl 45 ⟨rfl, trivial⟩, hC, hv41, hO.top⟩

theorem Bd44 : Bodied Try.prog 44 := bodied Try.func44 (by kernel_rfl) rfl

theorem Bd45 : Bodied Try.prog 45 := bodied Try.func45 (by kernel_rfl) rfl

theorem Bd46 : Bodied Try.prog 46 := bodied Try.func46 (by kernel_rfl) rfl

theorem Bd47 : Bodied Try.prog 47 := bodied Try.func47 (by kernel_rfl) rfl

def k_spec_PixleyFrom (M : Nat → Prop) (w0 : World) (r : (Int × (List Int)) × Bool) (a : Act) (w : World) : Prop :=
  ∃ (σ : Nat → Value) (rg6 : Nat) (ra0 : Option Addr) (rn0 rc0 : Nat) (rf0 : List Nat), a = fr 52 (ovl σ [(6, (.pointer (some ⟨rg6, 0, none⟩))), (7, (.bool r.2))]) ∧ BoxV w rg6 24 [(.int .i64 r.1.1), (.slice ra0 rn0 rc0)] ∧ Chg [] w0 w ∧ (RT.os 3 (RT.int .i64)).val M w (.slice ra0 rn0 rc0) r.1.2 rf0 ∧ Own (Nw w0 []) (fun _ => True) w (rf0 ++ ([]))
def s_spec_PixleyFrom (n : Int) (m : Int × (List Int)) (j : Int × (List Int)) : Option ((Int × (List Int)) × Bool) :=
  ((s_spec_l12Size n).bind fun r10 =>
  (bif (!r10) then some true else (bif (m.1 != 3) then some true else (bif (j.1 != 3) then some true else (s_spec_l2Op n (m.1, m.2)).bind fun r15 =>
  (bif (!r15) then some true else (s_spec_l2Op n (j.1, j.2)).bind fun r18 =>
  some (!r18)))))).bind fun s6 =>
  (bif s6 then some ((0, []), false) else (s_spec_l12Projection n 3 0).bind fun r34 =>
  (s_spec_l12Projection n 3 2).bind fun r37 =>
  (s_spec_l12Compose n (j.1, j.2) ([r34, m.2, r37]) (w64 ((w64 (n * n)) * n))).bind fun r44 =>
  some ((3, r44), true))
set_option maxHeartbeats 4000000 in
theorem c_spec_PixleyFrom {M : Nat → Prop} {w : World} {pa0 : Option Addr} {pn0 pc0 : Nat} {pa1 : Option Addr} {pn1 pc1 : Nat} (n : Int) (m : Int × (List Int)) (j : Int × (List Int)) (h0 : (RT.rs (RT.int .i64)).val M w (.slice pa0 pn0 pc0) m.2 ([])) (h1 : (RT.rs (RT.int .i64)).val M w (.slice pa1 pn1 pc1) j.2 ([])) (hM : ∀ g, w.heap.size ≤ g → M g) {r : (Int × (List Int)) × Bool} (hs : s_spec_PixleyFrom n m j = some r) :
    Gives Try.prog 21 [(.int .i64 n), (.agg #[(.int .i64 m.1), (.slice pa0 pn0 pc0)]), (.agg #[(.int .i64 j.1), (.slice pa1 pn1 pc1)])] w (fun v w' => ∃ (ra0 : Option Addr) (rn0 rc0 : Nat) (rf0 : List Nat), v = (.tuple #[(.agg #[(.int .i64 r.1.1), (.slice ra0 rn0 rc0)]), (.bool r.2)]) ∧ Chg [] w w' ∧ (RT.os 3 (RT.int .i64)).val M w' (.slice ra0 rn0 rc0) r.1.2 rf0 ∧ Own (Nw w []) (fun _ => True) w' (rf0 ++ ([]))) := by
  refine calls_fr Try.func21 rfl Try.ntmps21 (Nat.le_of_ble_eq_true rfl) ?_
  have hO := Own.start (N := Nw w []) hM Nw.fut
  have hC := Chg.refl [] w
  unfold s_spec_PixleyFrom at hs
  refine wp_mono (Q := KPost (k_spec_PixleyFrom M w r)) ?_ (fun e a w1 h => ?_)
  rotate_left
  · cases e
    case ret =>
      obtain ⟨σ, rg6, ra0, rn0, rc0, rf0, rfl, hbrg6, hrest⟩ := h
      exact ret2x Try.results21 (res_cell rfl (box_load Ag24 Sz24 hbrg6 [] _ [] rfl rfl (fun h => nomatch h))) (res_tmp rfl) ⟨ra0, rn0, rc0, rf0, rfl, hrest⟩
    all_goals exact (h : False).elim
  refine c_seq ?_
  refine c_region ?_
  obtain ⟨w3, g3, ew3, eg3, hC3, hb3⟩ := new_block w [(.int .i64 m.1), (.slice pa0 pn0 pc0)] 24
  refine pl_val (w' := w3) (.pointer (some ⟨g3, 0, none⟩)) (y_box rfl (by rw [ew3, eg3]; kernel_rfl)) ?_
  have h0 := h0.ext hC3
  have h1 := h1.ext hC3
  have hC := hC.ext hC3
  have hO := hO.new (X' := [g3]) hC3 (fun q hq => by rw [List.mem_singleton.1 hq, eg3]; exact Nat.le_refl _) (List.nodup_cons.2 ⟨(fun h => nomatch h), List.nodup_nil⟩) (fun q hq => by rw [List.mem_singleton.1 hq]; exact hb3.lt)
  obtain ⟨w4, g4, ew4, eg4, hC4, hb4⟩ := new_block w3 [(.int .i64 j.1), (.slice pa1 pn1 pc1)] 24
  refine pl_val (w' := w4) (.pointer (some ⟨g4, 0, none⟩)) (y_box rfl (by rw [ew4, eg4]; kernel_rfl)) ?_
  have h0 := h0.ext hC4
  have h1 := h1.ext hC4
  have hb3 := hb3.chg hC4 (fun h => nomatch h)
  have hC := hC.ext hC4
  have hO := hO.new (X' := [g4]) hC4 (fun q hq => by rw [List.mem_singleton.1 hq, eg4]; exact Nat.le_refl _) (List.nodup_cons.2 ⟨(fun h => nomatch h), List.nodup_nil⟩) (fun q hq => by rw [List.mem_singleton.1 hq]; exact hb4.lt)
  obtain ⟨w5, g5, ew5, eg5, hC5, hb5⟩ := new_block w4 [(.int .i64 0), (.slice none 0 0)] 24
  refine pl_val (w' := w5) (.pointer (some ⟨g5, 0, none⟩)) (y_alloc (by rw [ew5, eg5]; kernel_rfl)) ?_
  have h0 := h0.ext hC5
  have h1 := h1.ext hC5
  have hb3 := hb3.chg hC5 (fun h => nomatch h)
  have hb4 := hb4.chg hC5 (fun h => nomatch h)
  have hC := hC.ext hC5
  have hO := hO.new (X' := [g5]) hC5 (fun q hq => by rw [List.mem_singleton.1 hq, eg5]; exact Nat.le_refl _) (List.nodup_cons.2 ⟨(fun h => nomatch h), List.nodup_nil⟩) (fun q hq => by rw [List.mem_singleton.1 hq]; exact hb5.lt)
  refine pl_val (.bool false) (y_assign rfl) ?_
  refine c_nil ?_
  refine c_seq ?_
  refine c_seq ?_
  obtain ⟨s6, hm8, hs⟩ := bind_some hs
  refine c_mid (I := fun a w7 => ∃ (σ : Nat → Value), a = fr 52 (ovl σ [(0, (.int .i64 n)), (4, (.pointer (some ⟨g3, 0, none⟩))), (5, (.pointer (some ⟨g4, 0, none⟩))), (6, (.pointer (some ⟨g5, 0, none⟩))), (7, (.bool false)), (33, (.bool s6))]) ∧ Chg [] w5 w7) ?_ ?_
  · replace hs := hm8
    have hMid := Chg.refl [] w5
    refine c_region ?_
    refine pl_val (.int .i64 n) (y_move rfl) ?_
    obtain ⟨r10, hr10, hs⟩ := bind_some hs
    refine pl_call Bd44 rfl (c_spec_l12Size (M := M) n  hO.fut hr10) ?_
    rintro _ w9 ⟨rfl, hC9⟩
    have h0 := h0.ext hC9
    have h1 := h1.ext hC9
    have hb3 := hb3.chg hC9 (fun h => nomatch h)
    have hb4 := hb4.chg hC9 (fun h => nomatch h)
    have hb5 := hb5.chg hC9 (fun h => nomatch h)
    have hMid := hMid.ext hC9
    have hC := hC.ext hC9
    have hO := hO.ext hC9
    refine pl_val (.bool (!r10)) (y_not rfl) ?_
    refine pl_val (.bool (!r10)) (y_move rfl) ?_
    rcases bif_some hs with ⟨hc11, hs⟩ | ⟨hc11, hs⟩
    · skip
      refine pl_not (tg := 12) (by kernel_rfl) (congrArg Value.bool hc11) ?_
      refine pl_not (tg := 12) (by kernel_rfl) (congrArg Value.bool hc11) ?_
      refine pl_not (tg := 12) (by kernel_rfl) (congrArg Value.bool hc11) ?_
      refine pl_val (.bool true) (y_pick_t (congrArg Value.bool hc11) rfl) ?_
      refine pl_val (.bool true) (y_move rfl) ?_
      refine pl_not (tg := 17) (by kernel_rfl) (by rfl) ?_
      refine pl_not (tg := 17) (by kernel_rfl) (by rfl) ?_
      refine pl_not (tg := 17) (by kernel_rfl) (by rfl) ?_
      refine pl_val (.bool true) (y_pick_t (by rfl) rfl) ?_
      refine pl_val (.bool true) (y_move rfl) ?_
      refine pl_not (tg := 22) (by kernel_rfl) (by rfl) ?_
      refine pl_not (tg := 22) (by kernel_rfl) (by rfl) ?_
      refine pl_not (tg := 22) (by kernel_rfl) (by rfl) ?_
      refine pl_not (tg := 22) (by kernel_rfl) (by rfl) ?_
      refine pl_val (.bool true) (y_pick_t (by rfl) rfl) ?_
      refine pl_val (.bool true) (y_move rfl) ?_
      refine pl_not (tg := 28) (by kernel_rfl) (by rfl) ?_
      refine pl_not (tg := 28) (by kernel_rfl) (by rfl) ?_
      refine pl_not (tg := 28) (by kernel_rfl) (by rfl) ?_
      refine pl_not (tg := 28) (by kernel_rfl) (by rfl) ?_
      refine pl_val (.bool true) (y_pick_t (by rfl) rfl) ?_
      refine c_nil ?_
      cases hs
      exact ⟨_, fr_ovl 52 ⟨rfl, rfl, rfl, rfl, rfl, rfl, trivial⟩, hMid⟩
    · skip
      refine pl_yes (.pointer (some ⟨g3, 0, none⟩)) (tg := 12) (by kernel_rfl) (congrArg Value.bool hc11) (y_faddr rfl Fa24x0) ?_
      refine pl_yes (.int .i64 m.1) (tg := 12) (by kernel_rfl) (congrArg Value.bool hc11) (y_load rfl ((box_load Ag3 Sz3 hb3 [] [(.int .i64 m.1)] [(.slice pa0 pn0 pc0)] rfl rfl (fun _ => rfl)) _ (Chg.refl _ _))) ?_
      refine pl_yes (.bool (m.1 != 3)) (tg := 12) (by kernel_rfl) (congrArg Value.bool hc11) (y_neq rfl rfl) ?_
      refine pl_val (.bool (m.1 != 3)) (y_pick_f (congrArg Value.bool hc11) rfl) ?_
      refine pl_val (.bool (m.1 != 3)) (y_move rfl) ?_
      rcases bif_some hs with ⟨hc12, hs⟩ | ⟨hc12, hs⟩
      · skip
        refine pl_not (tg := 17) (by kernel_rfl) (congrArg Value.bool hc12) ?_
        refine pl_not (tg := 17) (by kernel_rfl) (congrArg Value.bool hc12) ?_
        refine pl_not (tg := 17) (by kernel_rfl) (congrArg Value.bool hc12) ?_
        refine pl_val (.bool true) (y_pick_t (congrArg Value.bool hc12) rfl) ?_
        refine pl_val (.bool true) (y_move rfl) ?_
        refine pl_not (tg := 22) (by kernel_rfl) (by rfl) ?_
        refine pl_not (tg := 22) (by kernel_rfl) (by rfl) ?_
        refine pl_not (tg := 22) (by kernel_rfl) (by rfl) ?_
        refine pl_not (tg := 22) (by kernel_rfl) (by rfl) ?_
        refine pl_val (.bool true) (y_pick_t (by rfl) rfl) ?_
        refine pl_val (.bool true) (y_move rfl) ?_
        refine pl_not (tg := 28) (by kernel_rfl) (by rfl) ?_
        refine pl_not (tg := 28) (by kernel_rfl) (by rfl) ?_
        refine pl_not (tg := 28) (by kernel_rfl) (by rfl) ?_
        refine pl_not (tg := 28) (by kernel_rfl) (by rfl) ?_
        refine pl_val (.bool true) (y_pick_t (by rfl) rfl) ?_
        refine c_nil ?_
        cases hs
        exact ⟨_, fr_ovl 52 ⟨rfl, rfl, rfl, rfl, rfl, rfl, trivial⟩, hMid⟩
      · skip
        refine pl_yes (.pointer (some ⟨g4, 0, none⟩)) (tg := 17) (by kernel_rfl) (congrArg Value.bool hc12) (y_faddr rfl Fa24x0) ?_
        refine pl_yes (.int .i64 j.1) (tg := 17) (by kernel_rfl) (congrArg Value.bool hc12) (y_load rfl ((box_load Ag3 Sz3 hb4 [] [(.int .i64 j.1)] [(.slice pa1 pn1 pc1)] rfl rfl (fun _ => rfl)) _ (Chg.refl _ _))) ?_
        refine pl_yes (.bool (j.1 != 3)) (tg := 17) (by kernel_rfl) (congrArg Value.bool hc12) (y_neq rfl rfl) ?_
        refine pl_val (.bool (j.1 != 3)) (y_pick_f (congrArg Value.bool hc12) rfl) ?_
        refine pl_val (.bool (j.1 != 3)) (y_move rfl) ?_
        rcases bif_some hs with ⟨hc13, hs⟩ | ⟨hc13, hs⟩
        · skip
          refine pl_not (tg := 22) (by kernel_rfl) (congrArg Value.bool hc13) ?_
          refine pl_not (tg := 22) (by kernel_rfl) (congrArg Value.bool hc13) ?_
          refine pl_not (tg := 22) (by kernel_rfl) (congrArg Value.bool hc13) ?_
          refine pl_not (tg := 22) (by kernel_rfl) (congrArg Value.bool hc13) ?_
          refine pl_val (.bool true) (y_pick_t (congrArg Value.bool hc13) rfl) ?_
          refine pl_val (.bool true) (y_move rfl) ?_
          refine pl_not (tg := 28) (by kernel_rfl) (by rfl) ?_
          refine pl_not (tg := 28) (by kernel_rfl) (by rfl) ?_
          refine pl_not (tg := 28) (by kernel_rfl) (by rfl) ?_
          refine pl_not (tg := 28) (by kernel_rfl) (by rfl) ?_
          refine pl_val (.bool true) (y_pick_t (by rfl) rfl) ?_
          refine c_nil ?_
          cases hs
          exact ⟨_, fr_ovl 52 ⟨rfl, rfl, rfl, rfl, rfl, rfl, trivial⟩, hMid⟩
        · skip
          refine pl_yes (.int .i64 n) (tg := 22) (by kernel_rfl) (congrArg Value.bool hc13) (y_move rfl) ?_
          refine pl_yes (.agg #[(.int .i64 m.1), (.slice pa0 pn0 pc0)]) (tg := 22) (by kernel_rfl) (congrArg Value.bool hc13) (y_load rfl ((box_load Ag24 Sz24 hb3 [] [(.int .i64 m.1), (.slice pa0 pn0 pc0)] [] rfl rfl (fun h => nomatch h)) _ (Chg.refl _ _))) ?_
          obtain ⟨r15, hr15, hs⟩ := bind_some hs
          refine pl_cally (tg := 22) (by kernel_rfl) (congrArg Value.bool hc13) Bd45 rfl (c_spec_l2Op (M := M) n (m.1, m.2) h0 hO.fut hr15) ?_
          rintro _ w14 ⟨rfl, hC14⟩
          have h0 := h0.ext hC14
          have h1 := h1.ext hC14
          have hb3 := hb3.chg hC14 (fun h => nomatch h)
          have hb4 := hb4.chg hC14 (fun h => nomatch h)
          have hb5 := hb5.chg hC14 (fun h => nomatch h)
          have hMid := hMid.ext hC14
          have hC := hC.ext hC14
          have hO := hO.ext hC14
          refine pl_yes (.bool (!r15)) (tg := 22) (by kernel_rfl) (congrArg Value.bool hc13) (y_not rfl) ?_
          refine pl_val (.bool (!r15)) (y_pick_f (congrArg Value.bool hc13) rfl) ?_
          refine pl_val (.bool (!r15)) (y_move rfl) ?_
          rcases bif_some hs with ⟨hc16, hs⟩ | ⟨hc16, hs⟩
          · skip
            refine pl_not (tg := 28) (by kernel_rfl) (congrArg Value.bool hc16) ?_
            refine pl_not (tg := 28) (by kernel_rfl) (congrArg Value.bool hc16) ?_
            refine pl_not (tg := 28) (by kernel_rfl) (congrArg Value.bool hc16) ?_
            refine pl_not (tg := 28) (by kernel_rfl) (congrArg Value.bool hc16) ?_
            refine pl_val (.bool true) (y_pick_t (congrArg Value.bool hc16) rfl) ?_
            refine c_nil ?_
            cases hs
            exact ⟨_, fr_ovl 52 ⟨rfl, rfl, rfl, rfl, rfl, rfl, trivial⟩, hMid⟩
          · skip
            refine pl_yes (.int .i64 n) (tg := 28) (by kernel_rfl) (congrArg Value.bool hc16) (y_move rfl) ?_
            refine pl_yes (.agg #[(.int .i64 j.1), (.slice pa1 pn1 pc1)]) (tg := 28) (by kernel_rfl) (congrArg Value.bool hc16) (y_load rfl ((box_load Ag24 Sz24 hb4 [] [(.int .i64 j.1), (.slice pa1 pn1 pc1)] [] rfl rfl (fun h => nomatch h)) _ (Chg.refl _ _))) ?_
            obtain ⟨r18, hr18, hs⟩ := bind_some hs
            refine pl_cally (tg := 28) (by kernel_rfl) (congrArg Value.bool hc16) Bd45 rfl (c_spec_l2Op (M := M) n (j.1, j.2) h1 hO.fut hr18) ?_
            rintro _ w17 ⟨rfl, hC17⟩
            have h0 := h0.ext hC17
            have h1 := h1.ext hC17
            have hb3 := hb3.chg hC17 (fun h => nomatch h)
            have hb4 := hb4.chg hC17 (fun h => nomatch h)
            have hb5 := hb5.chg hC17 (fun h => nomatch h)
            have hMid := hMid.ext hC17
            have hC := hC.ext hC17
            have hO := hO.ext hC17
            refine pl_yes (.bool (!r18)) (tg := 28) (by kernel_rfl) (congrArg Value.bool hc16) (y_not rfl) ?_
            refine pl_val (.bool (!r18)) (y_pick_f (congrArg Value.bool hc16) rfl) ?_
            refine c_nil ?_
            cases hs
            exact ⟨_, fr_ovl 52 ⟨rfl, rfl, rfl, rfl, rfl, rfl, trivial⟩, hMid⟩
  · rintro a1 w7 ⟨σ, rfl, hCs6⟩
    have h0 := h0.ext hCs6
    have h1 := h1.ext hCs6
    have hb3 := hb3.chg hCs6 (fun h => nomatch h)
    have hb4 := hb4.chg hCs6 (fun h => nomatch h)
    have hb5 := hb5.chg hCs6 (fun h => nomatch h)
    have hC := hC.ext hCs6
    have hO := hO.ext hCs6
    rcases bif_some hs with ⟨hc19, hs⟩ | ⟨hc19, hs⟩
    · skip
      refine c_condT (congrArg Value.bool hc19) ?_
      refine c_seq ?_
      refine c_region ?_
      refine pl_val (.agg #[(.int .i64 0), (.slice none 0 0)]) (y_build rfl (by kernel_rfl)) ?_
      obtain ⟨w20, hst20, hC20, hb20⟩ := box_store (P := Try.prog) hb5 [] [(.int .i64 0), (.slice none 0 0)] [] [(.int .i64 0), (.slice none 0 0)] rfl rfl (by intro u hu; simp only [List.mem_cons, List.not_mem_nil, or_false] at hu; rcases hu with rfl | rfl <;> rfl)
      refine pl_skip (w' := w20) (ys_store rfl rfl (hst20 _ _ rfl Sz24)) ?_
      have h0 := h0.mut hC20 (fun g hg => hO.inM g ((fun _ h => h) g hg)) (fun _ _ h => nomatch h)
      have h1 := h1.mut hC20 (fun g hg => hO.inM g ((fun _ h => h) g hg)) (fun _ _ h => nomatch h)
      have hb3 := hb3.chg hC20 (fun hg => hO.apart _ ((fun _ h => h) _ hg) (mem_r (mem_l (List.mem_singleton.2 rfl))))
      have hb4 := hb4.chg hC20 (fun hg => hO.apart _ ((fun _ h => h) _ hg) (mem_l (List.mem_singleton.2 rfl)))
      have hC := hC.step hC20 (fun g hg => hO.inN g ((fun _ h => h) g hg))
      have hO := hO.ext hC20
      have hb20 : BoxV w20 g5 24 [(.int .i64 0), (.slice none 0 0)] := hb20
      refine pl_val (.bool false) (y_assign rfl) ?_
      refine c_nil ?_
      refine wp_ret ?_
      cases hs
      have hO := hO.drop
      have hO := hO.drop
      have hO := hO.drop
      have hO := hO.nil
      exact ⟨_, g5, none, 0, 0, [], fr_ovl 52 ⟨rfl, rfl, trivial⟩, hb20, hC, os_nil, hO.top⟩
    · skip
      refine c_condF (congrArg Value.bool hc19) ?_
      refine wp_skip ?_
      refine c_seq ?_
      refine x_start [] Mx rfl ?_
      have hCw32 := Chg.drew w7
      generalize World.drew w7 = w32 at hCw32 ⊢
      have h0 := h0.ext hCw32
      have h1 := h1.ext hCw32
      have hb3 := hb3.chg hCw32 (fun h => nomatch h)
      have hb4 := hb4.chg hCw32 (fun h => nomatch h)
      have hb5 := hb5.chg hCw32 (fun h => nomatch h)
      have hC := hC.ext hCw32
      have hO := hO.ext hCw32
      have hS := Chg.refl [] w32
      refine x_p 0 (.int .i64 n) rfl (by kernel_rfl)  (fun _ => y_move rfl) (fun _ => hS) ?_
      refine x_p 2 (.pointer (some ⟨g3, 1, none⟩)) rfl (by kernel_rfl)  (fun _ => y_faddr rfl Fa24x1) (fun _ => hS) ?_
      refine x_l 3 (.slice pa0 pn0 pc0) rfl (by kernel_rfl)  (fun w' hw' => y_load rfl ((box_load Ag22 Sz22 hb3 [(.int .i64 m.1)] [(.slice pa0 pn0 pc0)] [] rfl rfl (fun _ => rfl)) w' hw')) hS ?_
      refine x_p 4 (.int .i64 n) rfl (by kernel_rfl)  (fun _ => y_move rfl) (fun _ => hS) ?_
      refine x_one (i := 1) (by kernel_rfl) ?_
      obtain ⟨r34, hr34, hs⟩ := bind_some hs
      refine xk_call (b := false) rfl  Bd46 rfl (c_spec_l12Projection (M := M) n 3 0  hO.fut hr34) rfl (by rintro _ _ _ ⟨a33x0, n33x0, c33x0, f33x0, rfl, hC33, hv33x0, hOc33⟩; exact hS.ext hC33) ?_
      rintro _ w33 ⟨a33x0, n33x0, c33x0, f33x0, rfl, hC33, hv33x0, hOc33⟩
      have h0 := h0.ext hC33
      have h1 := h1.ext hC33
      have hb3 := hb3.chg hC33 (fun h => nomatch h)
      have hb4 := hb4.chg hC33 (fun h => nomatch h)
      have hb5 := hb5.chg hC33 (fun h => nomatch h)
      have hC := hC.ext hC33
      have hO := Own.join0 hO hC33 hOc33
      have hO := hO.perm (R := f33x0 ++ (([g5]) ++ (([g4]) ++ (([g3]) ++ ([]))))) (by simp)
      have hS := hS.ext hC33
      refine x_one (i := 5) (by kernel_rfl) ?_
      obtain ⟨r37, hr37, hs⟩ := bind_some hs
      refine xk_call (b := false) rfl  Bd46 rfl (c_spec_l12Projection (M := M) n 3 2  hO.fut hr37) rfl (by rintro _ _ _ ⟨a36x0, n36x0, c36x0, f36x0, rfl, hC36, hv36x0, hOc36⟩; exact hS.ext hC36) ?_
      rintro _ w36 ⟨a36x0, n36x0, c36x0, f36x0, rfl, hC36, hv36x0, hOc36⟩
      have h0 := h0.ext hC36
      have h1 := h1.ext hC36
      have hb3 := hb3.chg hC36 (fun h => nomatch h)
      have hb4 := hb4.chg hC36 (fun h => nomatch h)
      have hb5 := hb5.chg hC36 (fun h => nomatch h)
      have hv33x0 := hv33x0.ext hC36
      have hC := hC.ext hC36
      have hO := Own.join0 hO hC36 hOc36
      have hO := hO.perm (R := f36x0 ++ (f33x0 ++ (([g5]) ++ (([g4]) ++ (([g3]) ++ ([])))))) (by simp)
      have hS := hS.ext hC36
      refine x_one (i := 6) (by kernel_rfl) ?_
      have hO := hO.fr1
      obtain ⟨M40, eM40, hs40, hk40, hO, hv40⟩ := frz_own (Frz.os Frz.int) hv33x0 hO
      have h0 := h0.sub (M' := M40) hs40
      have h1 := h1.sub (M' := M40) hs40
      have hv36x0 := hv36x0.sub (M' := M40) hs40
      have hK := hk40
      obtain ⟨M41, eM41, hs41, hk41, hO, hv41⟩ := frz_own (Frz.os Frz.int) hv36x0 hO
      have h0 := h0.sub (M' := M41) hs41
      have h1 := h1.sub (M' := M41) hs41
      have hv40 := hv40.sub (M' := M41) hs41
      have hK := hK.trans hk41
      obtain ⟨w39, g39, ew39, eg39, hC39, hb39⟩ := new_block w36 [(.slice a33x0 n33x0 c33x0), (.slice pa0 pn0 pc0), (.slice a36x0 n36x0 c36x0)] 22
      refine xk_val (w' := w39) (b := false) (.slice (some ⟨g39, 0, none⟩) 3 3) rfl  (y_bslice rfl (by rw [ew39, eg39]; kernel_rfl)) rfl (fun _ => hS.ext hC39) ?_
      have h0 := h0.ext hC39
      have h1 := h1.ext hC39
      have hb3 := hb3.chg hC39 (fun h => nomatch h)
      have hb4 := hb4.chg hC39 (fun h => nomatch h)
      have hb5 := hb5.chg hC39 (fun h => nomatch h)
      have hv40 := hv40.ext hC39
      have hv41 := hv41.ext hC39
      have hC := hC.ext hC39
      have hO := hO.new (X' := [g39]) hC39 (fun q hq => by rw [List.mem_singleton.1 hq, eg39]; exact Nat.le_refl _) (List.nodup_cons.2 ⟨(fun h => nomatch h), List.nodup_nil⟩) (fun q hq => by rw [List.mem_singleton.1 hq]; exact hb39.lt)
      have hv39 := os_of_box (r := (RT.rs (RT.int .i64))) (M := M41) (css := [[(.slice a33x0 n33x0 c33x0)], [(.slice pa0 pn0 pc0)], [(.slice a36x0 n36x0 c36x0)]]) (fps := [([] : List Nat), ([] : List Nat), ([] : List Nat)]) (xs := ([r34, m.2, r37] : List (List Int))) hb39 ⟨(rs_unval hv40), ⟨(rs_unval h0), ⟨(rs_unval hv41), trivial⟩⟩⟩ (Nat.le_of_ble_eq_true rfl) (List.nodup_cons.2 ⟨(fun h => nomatch h), List.nodup_nil⟩)
      have hv39 : (RT.os 22 (RT.rs (RT.int .i64))).val M41 w39 (.slice (some ⟨g39, 0, none⟩) 3 3) [r34, m.2, r37] [g39] := hv39
      have hS := hS.ext hC39
      refine x_p 7 (.slice (some ⟨g39, 0, none⟩) 3 3) rfl (by kernel_rfl)  (fun _ => y_assign rfl) (fun _ => hS) ?_
      refine x_end (by kernel_rfl) ?_
      clear hS
      refine c_seq ?_
      refine c_region ?_
      refine pl_val (.int .i64 n) (y_move rfl) ?_
      refine pl_val (.agg #[(.int .i64 j.1), (.slice pa1 pn1 pc1)]) (y_load rfl ((box_load Ag24 Sz24 hb4 [] [(.int .i64 j.1), (.slice pa1 pn1 pc1)] [] rfl rfl (fun h => nomatch h)) _ (Chg.refl _ _))) ?_
      refine pl_val (.slice (some ⟨g39, 0, none⟩) 3 3) (y_move rfl) ?_
      refine pl_val (.int .i64 n) (y_move rfl) ?_
      refine pl_val (.int .i64 n) (y_move rfl) ?_
      refine pl_val (.int .i64 (w64 (n * n))) (y_mul rfl rfl) ?_
      refine pl_val (.int .i64 n) (y_move rfl) ?_
      refine pl_val (.int .i64 (w64 ((w64 (n * n)) * n))) (y_mul rfl rfl) ?_
      obtain ⟨r44, hr44, hs⟩ := bind_some hs
      refine pl_call Bd47 rfl (c_spec_l12Compose (M := (Less M41 ([g39]))) n (j.1, j.2) ([r34, m.2, r37]) (w64 ((w64 (n * n)) * n)) (h1.sub Less.sub) (((Frz.os (Frz.rs Frz.int))).val hv39 Less.sub Less.not) hO.less.fut hr44) ?_
      rintro _ w43 ⟨a43x0, n43x0, c43x0, f43x0, rfl, hC43, hv43x0, hOc43⟩
      have h0 := h0.ext hC43
      have h1 := h1.ext hC43
      have hb3 := hb3.chg hC43 (fun h => nomatch h)
      have hb4 := hb4.chg hC43 (fun h => nomatch h)
      have hb5 := hb5.chg hC43 (fun h => nomatch h)
      have hv40 := hv40.ext hC43
      have hv41 := hv41.ext hC43
      have hv39 := hv39.ext hC43
      have hC := hC.ext hC43
      have hO := Own.join0 hO hC43 hOc43
      have hO := hO.perm (R := f43x0 ++ (([g39]) ++ (([g5]) ++ (([g4]) ++ (([g3]) ++ ([])))))) (by simp)
      have hv43x0 := hv43x0.free (M' := M41) (Free.os Free.int)
      refine pl_val (.agg #[(.int .i64 3), (.slice a43x0 n43x0 c43x0)]) (y_build rfl (by kernel_rfl)) ?_
      obtain ⟨w46, hst46, hC46, hb46⟩ := box_store (P := Try.prog) hb5 [] [(.int .i64 0), (.slice none 0 0)] [] [(.int .i64 3), (.slice a43x0 n43x0 c43x0)] rfl rfl (by intro u hu; simp only [List.mem_cons, List.not_mem_nil, or_false] at hu; rcases hu with rfl | rfl <;> rfl)
      refine pl_skip (w' := w46) (ys_store rfl rfl (hst46 _ _ rfl Sz24)) ?_
      have hO := hO.fr2
      have h0 := h0.mut hC46 (fun g hg => hO.inM g ((fun _ h => h) g hg)) (fun _ _ h => nomatch h)
      have h1 := h1.mut hC46 (fun g hg => hO.inM g ((fun _ h => h) g hg)) (fun _ _ h => nomatch h)
      have hb3 := hb3.chg hC46 (fun hg => hO.apart _ ((fun _ h => h) _ hg) (mem_r (mem_r (mem_r (mem_l (List.mem_singleton.2 rfl))))))
      have hb4 := hb4.chg hC46 (fun hg => hO.apart _ ((fun _ h => h) _ hg) (mem_r (mem_r (mem_l (List.mem_singleton.2 rfl)))))
      have hv40 := hv40.mut hC46 (fun g hg => hO.inM g ((fun _ h => h) g hg)) (fun _ _ h => nomatch h)
      have hv41 := hv41.mut hC46 (fun g hg => hO.inM g ((fun _ h => h) g hg)) (fun _ _ h => nomatch h)
      have hv39 := hv39.mut hC46 (fun g hg => hO.inM g ((fun _ h => h) g hg)) (fun g hg e => hO.apart g ((fun _ h => h) g hg) (mem_r (mem_l (e))))
      have hv43x0 := hv43x0.mut hC46 (fun g hg => hO.inM g ((fun _ h => h) g hg)) (fun g hg e => hO.apart g ((fun _ h => h) g hg) (mem_l (e)))
      have hC := hC.step hC46 (fun g hg => hO.inN g ((fun _ h => h) g hg))
      have hO := hO.ext hC46
      have hb46 : BoxV w46 g5 24 [(.int .i64 3), (.slice a43x0 n43x0 c43x0)] := hb46
      refine pl_val (.bool true) (y_assign rfl) ?_
      refine c_nil ?_
      refine wp_ret ?_
      cases hs
      have hO := hO.drop
      have hO := hO.fr1
      have hO := hO.drop
      have hO := hO.fr1
      have hO := hO.drop
      have hO := hO.fr1
      have hO := hO.drop
      exact ⟨_, g5, a43x0, n43x0, c43x0, f43x0, fr_ovl 52 ⟨rfl, rfl, trivial⟩, hb46, hC, (hv43x0.free (Free.os Free.int)), hO.top⟩

def k_impl_isSize (M : Nat → Prop) (w0 : World) (r : Bool) (a : Act) (w : World) : Prop :=
  ∃ (σ : Nat → Value) , a = fr 9 (ovl σ [(2, (.bool r))]) ∧ Chg [] w0 w
def s_impl_isSize (n : Int) : Option (Bool) :=
  (bif (decide (1 ≤ n)) then some (decide (n ≤ 8)) else some false)
set_option maxHeartbeats 4000000 in
theorem c_impl_isSize {M : Nat → Prop} {w : World}  (n : Int)  (hM : ∀ g, w.heap.size ≤ g → M g) {r : Bool} (hs : s_impl_isSize n = some r) :
    Gives Try.prog 33 [(.int .i64 n)] w (fun v w' => v = (.bool r) ∧ Chg [] w w') := by
  refine calls_fr Try.func33 rfl Try.ntmps33 (Nat.le_of_ble_eq_true rfl) ?_
  have hO := Own.start (N := Nw w []) hM Nw.fut
  have hC := Chg.refl [] w
  unfold s_impl_isSize at hs
  refine wp_mono (Q := KPost (k_impl_isSize M w r)) ?_ (fun e a w1 h => ?_)
  rotate_left
  · cases e
    case ret =>
      obtain ⟨σ, rfl, hrest⟩ := h
      exact ret1x Try.results33 (res_tmp rfl) ⟨rfl, hrest⟩
    all_goals exact (h : False).elim
  refine c_seq ?_
  refine c_region ?_
  refine pl_val (.bool false) (y_assign rfl) ?_
  refine c_nil ?_
  refine c_seq ?_
  refine c_region ?_
  refine pl_val (.int .i64 n) (y_move rfl) ?_
  refine pl_val (.bool (decide (1 ≤ n))) (y_geq rfl rfl) ?_
  refine pl_val (.bool (decide (1 ≤ n))) (y_move rfl) ?_
  rcases bif_some hs with ⟨hc1, hs⟩ | ⟨hc1, hs⟩
  · skip
    refine pl_yes (.int .i64 n) (tg := 5) (by kernel_rfl) (congrArg Value.bool hc1) (y_move rfl) ?_
    refine pl_yes (.bool (decide (n ≤ 8))) (tg := 5) (by kernel_rfl) (congrArg Value.bool hc1) (y_leq rfl rfl) ?_
    refine pl_val (.bool (decide (n ≤ 8))) (y_pick_t (congrArg Value.bool hc1) rfl) ?_
    refine pl_val (.bool (decide (n ≤ 8))) (y_assign rfl) ?_
    refine c_nil ?_
    refine wp_ret ?_
    cases hs
    exact ⟨_, fr_ovl 9 ⟨rfl, trivial⟩, hC⟩
  · skip
    refine pl_not (tg := 5) (by kernel_rfl) (congrArg Value.bool hc1) ?_
    refine pl_not (tg := 5) (by kernel_rfl) (congrArg Value.bool hc1) ?_
    refine pl_val (.bool false) (y_pick_f (congrArg Value.bool hc1) rfl) ?_
    refine pl_val (.bool false) (y_assign rfl) ?_
    refine c_nil ?_
    refine wp_ret ?_
    cases hs
    exact ⟨_, fr_ovl 9 ⟨rfl, trivial⟩, hC⟩

def k_impl_power (M : Nat → Prop) (w0 : World) (r : Int) (a : Act) (w : World) : Prop :=
  ∃ (σ : Nat → Value) , a = fr 14 (ovl σ [(4, (.int .i64 r))]) ∧ Chg [] w0 w
def s_impl_power (n : Int) (k : Int) : Option (Int) :=
  (iter (S := Int × Int) (R := Int) (fun s2 =>
  (bif (decide (0 < s2.1)) then some (.nx (w64 (s2.1 - 1), w64 (s2.2 * n))) else some (.br (s2.1, s2.2)))) FU (k, 1)).bind fun o6 => after o6 (fun r_ => some r_) (fun s2 =>
  some s2.2)
set_option maxHeartbeats 4000000 in
theorem c_impl_power {M : Nat → Prop} {w : World}  (n : Int) (k : Int)  (hM : ∀ g, w.heap.size ≤ g → M g) {r : Int} (hs : s_impl_power n k = some r) :
    Gives Try.prog 59 [(.int .i64 n), (.int .i64 k)] w (fun v w' => v = (.int .i64 r) ∧ Chg [] w w') := by
  refine calls_fr Try.func59 rfl Try.ntmps59 (Nat.le_of_ble_eq_true rfl) ?_
  have hO := Own.start (N := Nw w []) hM Nw.fut
  have hC := Chg.refl [] w
  unfold s_impl_power at hs
  refine wp_mono (Q := KPost (k_impl_power M w r)) ?_ (fun e a w1 h => ?_)
  rotate_left
  · cases e
    case ret =>
      obtain ⟨σ, rfl, hrest⟩ := h
      exact ret1x Try.results59 (res_tmp rfl) ⟨rfl, hrest⟩
    all_goals exact (h : False).elim
  refine c_seq ?_
  refine c_region ?_
  refine pl_val (.int .i64 0) (y_assign rfl) ?_
  refine c_nil ?_
  refine c_seq ?_
  refine c_region ?_
  refine pl_val (.int .i64 1) (y_assign rfl) ?_
  refine c_nil ?_
  refine c_seq ?_
  obtain ⟨o6, hl7, hs⟩ := bind_some hs
  refine wp_block ?_
  refine wp_iter (id := 0) (I := fun s2 a w3 => ∃ (σ : Nat → Value), a = fr 14 (ovl σ [(0, (.int .i64 n)), (1, (.int .i64 s2.1)), (5, (.int .i64 s2.2))]) ∧ Chg [] w w3 ∧ Own (Nw w []) M w3 ([])) (J := fun s2 a w3 => ∃ (σ : Nat → Value), a = fr 14 (ovl σ [(5, (.int .i64 s2.2))]) ∧ Chg [] w w3 ∧ Own (Nw w []) M w3 ([])) (K := (k_impl_power M w)) ?_ FU (k, 1) o6 _ _ ?_ hl7 ?_
  · rintro s2 o6 a w3 ⟨σ, rfl, hC, hO⟩ hs
    refine c_seq ?_
    refine c_seq ?_
    refine c_region ?_
    refine pl_val (.int .i64 s2.1) (y_move rfl) ?_
    refine pl_val (.bool (decide (0 < s2.1))) (y_gtr rfl rfl) ?_
    refine c_nil ?_
    rcases bif_some hs with ⟨hc8, hs⟩ | ⟨hc8, hs⟩
    · skip
      refine c_condT (congrArg Value.bool hc8) ?_
      refine wp_skip ?_
      refine c_seq ?_
      refine wp_block ?_
      refine c_region ?_
      refine pl_val (.int .i64 s2.2) (y_move rfl) ?_
      refine pl_val (.int .i64 n) (y_move rfl) ?_
      refine pl_val (.int .i64 (w64 (s2.2 * n))) (y_mul rfl rfl) ?_
      refine pl_val (.int .i64 (w64 (s2.2 * n))) (y_assign rfl) ?_
      refine c_nil ?_
      refine c_region ?_
      refine pl_val (.int .i64 s2.1) (y_move rfl) ?_
      refine pl_val (.int .i64 (w64 (s2.1 - 1))) (y_sub rfl rfl) ?_
      refine pl_val (.int .i64 (w64 (s2.1 - 1))) (y_assign rfl) ?_
      refine c_nil ?_
      cases hs
      exact ⟨_, fr_ovl 14 ⟨rfl, rfl, rfl, trivial⟩, hC, hO⟩
    · skip
      refine c_condF (congrArg Value.bool hc8) ?_
      refine wp_exit ?_
      cases hs
      exact ⟨rfl, _, fr_ovl 14 ⟨rfl, trivial⟩, hC, hO⟩
  · skip
    exact ⟨_, fr_ovl 14 ⟨rfl, rfl, rfl, trivial⟩, hC, hO⟩
  · cases o6 with
    | nx _ => exact True.intro
    | rt r_ =>
      have hs := after_rt hs
      intro a1 w1 hK
      cases hs
      exact hK
    | br s2 =>
      have hs := after_br hs
      rintro a1 w3 ⟨σ, rfl, hC, hO⟩
      refine c_seq ?_
      refine c_region ?_
      refine pl_val (.int .i64 s2.2) (y_move rfl) ?_
      refine pl_val (.int .i64 s2.2) (y_assign rfl) ?_
      refine c_nil ?_
      refine wp_ret ?_
      cases hs
      exact ⟨_, fr_ovl 14 ⟨rfl, trivial⟩, hC⟩

def k_impl_inSize (M : Nat → Prop) (w0 : World) (r : Bool) (a : Act) (w : World) : Prop :=
  ∃ (σ : Nat → Value) , a = fr 21 (ovl σ [(4, (.bool r))]) ∧ Chg [] w0 w
def s_impl_inSize (list : List Int) (n : Int) : Option (Bool) :=
  (forR (S := Unit) (R := Bool) (fun _ x8 s5 =>
  (bif (decide (x8 < 0)) then some (.rt false) else (bif (decide (n ≤ x8)) then some (.rt false) else some (.nx ())))) 0 list ()).bind fun o9 => after o9 (fun r_ => some r_) (fun s5 =>
  some true)
set_option maxHeartbeats 4000000 in
theorem c_impl_inSize {M : Nat → Prop} {w : World} {pa0 : Option Addr} {pn0 pc0 : Nat} (list : List Int) (n : Int) (h0 : (RT.rs (RT.int .i64)).val M w (.slice pa0 pn0 pc0) list ([])) (hM : ∀ g, w.heap.size ≤ g → M g) {r : Bool} (hs : s_impl_inSize list n = some r) :
    Gives Try.prog 60 [(.slice pa0 pn0 pc0), (.int .i64 n)] w (fun v w' => v = (.bool r) ∧ Chg [] w w') := by
  refine calls_fr Try.func60 rfl Try.ntmps60 (Nat.le_of_ble_eq_true rfl) ?_
  have hO := Own.start (N := Nw w []) hM Nw.fut
  have hC := Chg.refl [] w
  unfold s_impl_inSize at hs
  refine wp_mono (Q := KPost (k_impl_inSize M w r)) ?_ (fun e a w1 h => ?_)
  rotate_left
  · cases e
    case ret =>
      obtain ⟨σ, rfl, hrest⟩ := h
      exact ret1x Try.results60 (res_tmp rfl) ⟨rfl, hrest⟩
    all_goals exact (h : False).elim
  refine c_seq ?_
  refine c_region ?_
  refine pl_val (.bool false) (y_assign rfl) ?_
  refine c_nil ?_
  refine c_seq ?_
  refine c_seq ?_
  refine c_region ?_
  refine pl_val (.slice pa0 pn0 pc0) (y_move rfl) ?_
  refine pl_val (.int .i64 (list.length : Int)) (y_len' Sl22 (rs_len h0) rfl) ?_
  refine pl_val (.int .i64 0) (y_move rfl) ?_
  refine c_nil ?_
  obtain ⟨o9, hl10, hs⟩ := bind_some hs
  refine wp_block ?_
  refine wp_forR (id := 0) (I := fun i_ xs_ s5 a w6 => ∃ k7 : Nat, i_ = (k7 : Int) ∧ List.drop k7 list = xs_ ∧ (∃ (σ : Nat → Value), a = fr 21 (ovl σ [(1, (.int .i64 n)), (7, (.slice pa0 pn0 pc0)), (8, (.int .i64 (list.length : Int))), (9, (.int .i64 (k7 : Int)))]) ∧ Chg [] w w6 ∧ Own (Nw w []) M w6 ([]) ∧ (RT.rs (RT.int .i64)).val M w6 (.slice pa0 pn0 pc0) list ([]))) (J := fun s5 a w6 => ∃ (σ : Nat → Value), a = fr 21 (ovl σ []) ∧ Chg [] w w6 ∧ Own (Nw w []) M w6 ([]) ∧ (RT.rs (RT.int .i64)).val M w6 (.slice pa0 pn0 pc0) list ([])) (K := (k_impl_inSize M w)) ?_ ?_ list 0 () o9 _ _ ?_ hl10 ?_
  · rintro _ s5 a w6 ⟨k7, rfl, hd, σ, rfl, hC, hO, h0⟩
    have hlt := drop_nil_ge hd
    refine c_seq ?_
    refine c_region ?_
    refine pl_val (.bool (decide ((k7 : Int) < (list.length : Int)))) (y_lss rfl rfl) ?_
    refine c_nil ?_
    refine c_seq ?_
    refine c_condF (congrArg Value.bool (decide_eq_false hlt)) ?_
    refine wp_exit ?_
    exact ⟨rfl, _, fr_ovl 21 trivial, hC, hO, h0⟩
  · rintro _ x8 xs_ s5 o9 a w6 ⟨k7, rfl, hd, σ, rfl, hC, hO, h0⟩ hs
    have hlt := drop_cons_lt hd
    have hxk7 := drop_cons_idx hd
    refine c_seq ?_
    refine c_region ?_
    refine pl_val (.bool (decide ((k7 : Int) < (list.length : Int)))) (y_lss rfl rfl) ?_
    refine c_nil ?_
    refine c_seq ?_
    refine c_condT (congrArg Value.bool (decide_eq_true hlt)) ?_
    refine wp_skip ?_
    refine c_seq ?_
    refine wp_block ?_
    refine c_seq ?_
    refine c_region ?_
    obtain ⟨b11, o11, hp11, ha11⟩ := rs_idx Sl22 Sz3 h0 hxk7
    refine pl_val (.pointer (some ⟨b11, o11, none⟩)) (hp11 _ _ _ _ _ _ _ _ _ rfl rfl) ?_
    refine pl_val (.int .i64 x8) (y_load rfl ((at_load_int Ag3 Sz3 ha11) _ (Chg.refl _ _))) ?_
    refine pl_val (.int .i64 x8) (y_assign rfl) ?_
    refine c_nil ?_
    refine c_seq ?_
    refine c_region ?_
    refine pl_val (.int .i64 x8) (y_move rfl) ?_
    refine pl_val (.bool (decide (x8 < 0))) (y_lss rfl rfl) ?_
    refine pl_val (.bool (decide (x8 < 0))) (y_move rfl) ?_
    rcases bif_some hs with ⟨hc12, hs⟩ | ⟨hc12, hs⟩
    · skip
      refine pl_not (tg := 15) (by kernel_rfl) (congrArg Value.bool hc12) ?_
      refine pl_not (tg := 15) (by kernel_rfl) (congrArg Value.bool hc12) ?_
      refine pl_not (tg := 15) (by kernel_rfl) (congrArg Value.bool hc12) ?_
      refine pl_val (.bool true) (y_pick_t (congrArg Value.bool hc12) rfl) ?_
      refine c_nil ?_
      refine c_condT (by rfl) ?_
      refine c_seq ?_
      refine c_region ?_
      refine pl_val (.bool false) (y_assign rfl) ?_
      refine c_nil ?_
      refine wp_ret ?_
      cases hs
      exact ⟨_, fr_ovl 21 ⟨rfl, trivial⟩, hC⟩
    · skip
      refine pl_yes (.int .i64 x8) (tg := 15) (by kernel_rfl) (congrArg Value.bool hc12) (y_move rfl) ?_
      refine pl_yes (.int .i64 n) (tg := 15) (by kernel_rfl) (congrArg Value.bool hc12) (y_move rfl) ?_
      refine pl_yes (.bool (decide (n ≤ x8))) (tg := 15) (by kernel_rfl) (congrArg Value.bool hc12) (y_geq rfl rfl) ?_
      refine pl_val (.bool (decide (n ≤ x8))) (y_pick_f (congrArg Value.bool hc12) rfl) ?_
      refine c_nil ?_
      rcases bif_some hs with ⟨hc13, hs⟩ | ⟨hc13, hs⟩
      · skip
        refine c_condT (congrArg Value.bool hc13) ?_
        refine c_seq ?_
        refine c_region ?_
        refine pl_val (.bool false) (y_assign rfl) ?_
        refine c_nil ?_
        refine wp_ret ?_
        cases hs
        exact ⟨_, fr_ovl 21 ⟨rfl, trivial⟩, hC⟩
      · skip
        refine c_condF (congrArg Value.bool hc13) ?_
        refine wp_skip ?_
        refine c_region ?_
        refine pl_val (.int .i64 (w64 ((k7 : Int) + 1))) (y_add rfl rfl) ?_
        refine pl_val (.int .i64 (w64 ((k7 : Int) + 1))) (y_move rfl) ?_
        refine c_nil ?_
        cases hs
        exact ⟨_, rfl, drop_cons_next hd, _, fr_ovl 21 ⟨rfl, rfl, rfl, congrArg (Value.int .i64) (w64_succ hlt (Int.natCast_nonneg _) (rs_max h0)), trivial⟩, hC, hO, h0⟩
  · skip
    exact ⟨0, rfl, rfl, _, fr_ovl 21 ⟨rfl, rfl, rfl, rfl, trivial⟩, hC, hO, h0⟩
  · cases o9 with
    | nx _ => exact True.intro
    | rt r_ =>
      have hs := after_rt hs
      intro a1 w1 hK
      cases hs
      exact hK
    | br s5 =>
      have hs := after_br hs
      rintro a1 w6 ⟨σ, rfl, hC, hO, h0⟩
      refine c_seq ?_
      refine c_region ?_
      refine pl_val (.bool true) (y_assign rfl) ?_
      refine c_nil ?_
      refine wp_ret ?_
      cases hs
      exact ⟨_, fr_ovl 21 ⟨rfl, trivial⟩, hC⟩

theorem Bd59 : Bodied Try.prog 59 := bodied Try.func59 (by kernel_rfl) rfl

theorem Bd60 : Bodied Try.prog 60 := bodied Try.func60 (by kernel_rfl) rfl

def k_impl_isOp (M : Nat → Prop) (w0 : World) (r : Bool) (a : Act) (w : World) : Prop :=
  ∃ (σ : Nat → Value) , a = fr 29 (ovl σ [(4, (.bool r))]) ∧ Chg [] w0 w
def s_impl_isOp (f : Int × (List Int)) (n : Int) : Option (Bool) :=
  (bif (decide (0 ≤ f.1)) then (bif (decide (f.1 ≤ 3)) then (s_impl_power n f.1).bind fun r7 =>
  (bif ((f.2.length : Int) == r7) then (s_impl_inSize f.2 n).bind fun r10 =>
  some r10 else some false) else some false) else some false)
set_option maxHeartbeats 4000000 in
theorem c_impl_isOp {M : Nat → Prop} {w : World} {pa0 : Option Addr} {pn0 pc0 : Nat} (f : Int × (List Int)) (n : Int) (h0 : (RT.rs (RT.int .i64)).val M w (.slice pa0 pn0 pc0) f.2 ([])) (hM : ∀ g, w.heap.size ≤ g → M g) {r : Bool} (hs : s_impl_isOp f n = some r) :
    Gives Try.prog 42 [(.agg #[(.int .i64 f.1), (.slice pa0 pn0 pc0)]), (.int .i64 n)] w (fun v w' => v = (.bool r) ∧ Chg [] w w') := by
  refine calls_fr Try.func42 rfl Try.ntmps42 (Nat.le_of_ble_eq_true rfl) ?_
  have hO := Own.start (N := Nw w []) hM Nw.fut
  have hC := Chg.refl [] w
  unfold s_impl_isOp at hs
  refine wp_mono (Q := KPost (k_impl_isOp M w r)) ?_ (fun e a w1 h => ?_)
  rotate_left
  · cases e
    case ret =>
      obtain ⟨σ, rfl, hrest⟩ := h
      exact ret1x Try.results42 (res_tmp rfl) ⟨rfl, hrest⟩
    all_goals exact (h : False).elim
  refine c_seq ?_
  refine c_region ?_
  obtain ⟨w2, g2, ew2, eg2, hC2, hb2⟩ := new_block w [(.int .i64 f.1), (.slice pa0 pn0 pc0)] 24
  refine pl_val (w' := w2) (.pointer (some ⟨g2, 0, none⟩)) (y_box rfl (by rw [ew2, eg2]; kernel_rfl)) ?_
  have h0 := h0.ext hC2
  have hC := hC.ext hC2
  have hO := hO.new (X' := [g2]) hC2 (fun q hq => by rw [List.mem_singleton.1 hq, eg2]; exact Nat.le_refl _) (List.nodup_cons.2 ⟨(fun h => nomatch h), List.nodup_nil⟩) (fun q hq => by rw [List.mem_singleton.1 hq]; exact hb2.lt)
  refine pl_val (.bool false) (y_assign rfl) ?_
  refine c_nil ?_
  refine c_seq ?_
  refine x_start [] Mx rfl ?_
  have hCw3 := Chg.drew w2
  generalize World.drew w2 = w3 at hCw3 ⊢
  have h0 := h0.ext hCw3
  have hb2 := hb2.chg hCw3 (fun h => nomatch h)
  have hC := hC.ext hCw3
  have hO := hO.ext hCw3
  have hS := Chg.refl [] w3
  refine x_p 0 (.pointer (some ⟨g2, 0, none⟩)) rfl (by kernel_rfl)  (fun _ => y_faddr rfl Fa24x0) (fun _ => hS) ?_
  refine x_l 1 (.int .i64 f.1) rfl (by kernel_rfl)  (fun w' hw' => y_load rfl ((box_load Ag3 Sz3 hb2 [] [(.int .i64 f.1)] [(.slice pa0 pn0 pc0)] rfl rfl (fun _ => rfl)) w' hw')) hS ?_
  refine x_p 2 (.bool (decide (0 ≤ f.1))) rfl (by kernel_rfl)  (fun _ => y_geq rfl rfl) (fun _ => hS) ?_
  refine x_p 3 (.bool (decide (0 ≤ f.1))) rfl (by kernel_rfl)  (fun _ => y_move rfl) (fun _ => hS) ?_
  rcases bif_some hs with ⟨hc4, hs⟩ | ⟨hc4, hs⟩
  · skip
    refine x_py 4 (.pointer (some ⟨g2, 0, none⟩)) rfl (by kernel_rfl) (tg := 8) (by kernel_rfl) (congrArg Value.bool hc4) (fun _ => y_faddr rfl Fa24x0) (fun _ => hS) ?_
    refine x_ly 5 (.int .i64 f.1) rfl (by kernel_rfl) (tg := 8) (by kernel_rfl) (congrArg Value.bool hc4) (fun w' hw' => y_load rfl ((box_load Ag3 Sz3 hb2 [] [(.int .i64 f.1)] [(.slice pa0 pn0 pc0)] rfl rfl (fun _ => rfl)) w' hw')) hS ?_
    refine x_py 6 (.bool (decide (f.1 ≤ 3))) rfl (by kernel_rfl) (tg := 8) (by kernel_rfl) (congrArg Value.bool hc4) (fun _ => y_leq rfl rfl) (fun _ => hS) ?_
    refine x_p 7 (.bool (decide (f.1 ≤ 3))) rfl (by kernel_rfl)  (fun _ => y_pick_t (congrArg Value.bool hc4) rfl) (fun _ => hS) ?_
    refine x_p 8 (.bool (decide (f.1 ≤ 3))) rfl (by kernel_rfl)  (fun _ => y_move rfl) (fun _ => hS) ?_
    rcases bif_some hs with ⟨hc5, hs⟩ | ⟨hc5, hs⟩
    · skip
      refine x_py 9 (.pointer (some ⟨g2, 1, none⟩)) rfl (by kernel_rfl) (tg := 13) (by kernel_rfl) (congrArg Value.bool hc5) (fun _ => y_faddr rfl Fa24x1) (fun _ => hS) ?_
      refine x_ly 10 (.slice pa0 pn0 pc0) rfl (by kernel_rfl) (tg := 13) (by kernel_rfl) (congrArg Value.bool hc5) (fun w' hw' => y_load rfl ((box_load Ag22 Sz22 hb2 [(.int .i64 f.1)] [(.slice pa0 pn0 pc0)] [] rfl rfl (fun _ => rfl)) w' hw')) hS ?_
      refine x_py 11 (.int .i64 (f.2.length : Int)) rfl (by kernel_rfl) (tg := 13) (by kernel_rfl) (congrArg Value.bool hc5) (fun _ => y_len' Sl22 (rs_len h0) rfl) (fun _ => hS) ?_
      refine x_py 12 (.int .i64 n) rfl (by kernel_rfl) (tg := 13) (by kernel_rfl) (congrArg Value.bool hc5) (fun _ => y_move rfl) (fun _ => hS) ?_
      refine x_py 13 (.pointer (some ⟨g2, 0, none⟩)) rfl (by kernel_rfl) (tg := 13) (by kernel_rfl) (congrArg Value.bool hc5) (fun _ => y_faddr rfl Fa24x0) (fun _ => hS) ?_
      refine x_ly 14 (.int .i64 f.1) rfl (by kernel_rfl) (tg := 13) (by kernel_rfl) (congrArg Value.bool hc5) (fun w' hw' => y_load rfl ((box_load Ag3 Sz3 hb2 [] [(.int .i64 f.1)] [(.slice pa0 pn0 pc0)] rfl rfl (fun _ => rfl)) w' hw')) hS ?_
      refine x_one (i := 15) (by kernel_rfl) ?_
      obtain ⟨r7, hr7, hs⟩ := bind_some hs
      refine xk_cally (b := false) rfl (tg := 13) (by kernel_rfl) (congrArg Value.bool hc5) Bd59 rfl (c_impl_power (M := M) n f.1  hO.fut hr7) rfl (by rintro _ _ _ ⟨rfl, hC6⟩; exact hS.ext hC6) ?_
      rintro _ w6 ⟨rfl, hC6⟩
      have h0 := h0.ext hC6
      have hb2 := hb2.chg hC6 (fun h => nomatch h)
      have hC := hC.ext hC6
      have hO := hO.ext hC6
      have hS := hS.ext hC6
      refine x_py 16 (.bool ((f.2.length : Int) == r7)) rfl (by kernel_rfl) (tg := 13) (by kernel_rfl) (congrArg Value.bool hc5) (fun _ => y_eql rfl rfl) (fun _ => hS) ?_
      refine x_p 17 (.bool ((f.2.length : Int) == r7)) rfl (by kernel_rfl)  (fun _ => y_pick_t (congrArg Value.bool hc5) rfl) (fun _ => hS) ?_
      refine x_p 18 (.bool ((f.2.length : Int) == r7)) rfl (by kernel_rfl)  (fun _ => y_move rfl) (fun _ => hS) ?_
      rcases bif_some hs with ⟨hc8, hs⟩ | ⟨hc8, hs⟩
      · skip
        refine x_py 19 (.pointer (some ⟨g2, 1, none⟩)) rfl (by kernel_rfl) (tg := 23) (by kernel_rfl) (congrArg Value.bool hc8) (fun _ => y_faddr rfl Fa24x1) (fun _ => hS) ?_
        refine x_py 21 (.int .i64 n) rfl (by kernel_rfl) (tg := 23) (by kernel_rfl) (congrArg Value.bool hc8) (fun _ => y_move rfl) (fun _ => hS) ?_
        refine x_one (i := 20) (by kernel_rfl) ?_
        refine xk_valy (b := false) (.slice pa0 pn0 pc0) rfl (tg := 23) (by kernel_rfl) (congrArg Value.bool hc8) (y_load rfl ((box_load Ag22 Sz22 hb2 [(.int .i64 f.1)] [(.slice pa0 pn0 pc0)] [] rfl rfl (fun _ => rfl)) _ (Chg.refl _ _))) rfl (fun _ => hS) ?_
        refine x_one (i := 22) (by kernel_rfl) ?_
        obtain ⟨r10, hr10, hs⟩ := bind_some hs
        refine xk_cally (b := false) rfl (tg := 23) (by kernel_rfl) (congrArg Value.bool hc8) Bd60 rfl (c_impl_inSize (M := M) f.2 n h0 hO.fut hr10) rfl (by rintro _ _ _ ⟨rfl, hC9⟩; exact hS.ext hC9) ?_
        rintro _ w9 ⟨rfl, hC9⟩
        have h0 := h0.ext hC9
        have hb2 := hb2.chg hC9 (fun h => nomatch h)
        have hC := hC.ext hC9
        have hO := hO.ext hC9
        have hS := hS.ext hC9
        refine x_p 23 (.bool r10) rfl (by kernel_rfl)  (fun _ => y_pick_t (congrArg Value.bool hc8) rfl) (fun _ => hS) ?_
        refine x_p 24 (.bool r10) rfl (by kernel_rfl)  (fun _ => y_assign rfl) (fun _ => hS) ?_
        refine x_end (by kernel_rfl) ?_
        clear hS
        refine wp_ret ?_
        cases hs
        exact ⟨_, fr_ovl 29 ⟨rfl, trivial⟩, hC⟩
      · skip
        refine x_pn 19 rfl (by kernel_rfl) (tg := 23) (by kernel_rfl) (congrArg Value.bool hc8) (fun _ => hS) ?_
        refine x_pn 20 rfl (by kernel_rfl) (tg := 23) (by kernel_rfl) (congrArg Value.bool hc8) (fun _ => hS) ?_
        refine x_pn 21 rfl (by kernel_rfl) (tg := 23) (by kernel_rfl) (congrArg Value.bool hc8) (fun _ => hS) ?_
        refine x_pn 22 rfl (by kernel_rfl) (tg := 23) (by kernel_rfl) (congrArg Value.bool hc8) (fun _ => hS) ?_
        refine x_p 23 (.bool false) rfl (by kernel_rfl)  (fun _ => y_pick_f (congrArg Value.bool hc8) rfl) (fun _ => hS) ?_
        refine x_p 24 (.bool false) rfl (by kernel_rfl)  (fun _ => y_assign rfl) (fun _ => hS) ?_
        refine x_end (by kernel_rfl) ?_
        clear hS
        refine wp_ret ?_
        cases hs
        exact ⟨_, fr_ovl 29 ⟨rfl, trivial⟩, hC⟩
    · skip
      refine x_pn 9 rfl (by kernel_rfl) (tg := 13) (by kernel_rfl) (congrArg Value.bool hc5) (fun _ => hS) ?_
      refine x_pn 10 rfl (by kernel_rfl) (tg := 13) (by kernel_rfl) (congrArg Value.bool hc5) (fun _ => hS) ?_
      refine x_pn 11 rfl (by kernel_rfl) (tg := 13) (by kernel_rfl) (congrArg Value.bool hc5) (fun _ => hS) ?_
      refine x_pn 12 rfl (by kernel_rfl) (tg := 13) (by kernel_rfl) (congrArg Value.bool hc5) (fun _ => hS) ?_
      refine x_pn 13 rfl (by kernel_rfl) (tg := 13) (by kernel_rfl) (congrArg Value.bool hc5) (fun _ => hS) ?_
      refine x_pn 14 rfl (by kernel_rfl) (tg := 13) (by kernel_rfl) (congrArg Value.bool hc5) (fun _ => hS) ?_
      refine x_pn 15 rfl (by kernel_rfl) (tg := 13) (by kernel_rfl) (congrArg Value.bool hc5) (fun _ => hS) ?_
      refine x_pn 16 rfl (by kernel_rfl) (tg := 13) (by kernel_rfl) (congrArg Value.bool hc5) (fun _ => hS) ?_
      refine x_p 17 (.bool false) rfl (by kernel_rfl)  (fun _ => y_pick_f (congrArg Value.bool hc5) rfl) (fun _ => hS) ?_
      refine x_p 18 (.bool false) rfl (by kernel_rfl)  (fun _ => y_move rfl) (fun _ => hS) ?_
      refine x_pn 19 rfl (by kernel_rfl) (tg := 23) (by kernel_rfl) (by rfl) (fun _ => hS) ?_
      refine x_pn 20 rfl (by kernel_rfl) (tg := 23) (by kernel_rfl) (by rfl) (fun _ => hS) ?_
      refine x_pn 21 rfl (by kernel_rfl) (tg := 23) (by kernel_rfl) (by rfl) (fun _ => hS) ?_
      refine x_pn 22 rfl (by kernel_rfl) (tg := 23) (by kernel_rfl) (by rfl) (fun _ => hS) ?_
      refine x_p 23 (.bool false) rfl (by kernel_rfl)  (fun _ => y_pick_f (by rfl) rfl) (fun _ => hS) ?_
      refine x_p 24 (.bool false) rfl (by kernel_rfl)  (fun _ => y_assign rfl) (fun _ => hS) ?_
      refine x_end (by kernel_rfl) ?_
      clear hS
      refine wp_ret ?_
      cases hs
      exact ⟨_, fr_ovl 29 ⟨rfl, trivial⟩, hC⟩
  · skip
    refine x_pn 4 rfl (by kernel_rfl) (tg := 8) (by kernel_rfl) (congrArg Value.bool hc4) (fun _ => hS) ?_
    refine x_pn 5 rfl (by kernel_rfl) (tg := 8) (by kernel_rfl) (congrArg Value.bool hc4) (fun _ => hS) ?_
    refine x_pn 6 rfl (by kernel_rfl) (tg := 8) (by kernel_rfl) (congrArg Value.bool hc4) (fun _ => hS) ?_
    refine x_p 7 (.bool false) rfl (by kernel_rfl)  (fun _ => y_pick_f (congrArg Value.bool hc4) rfl) (fun _ => hS) ?_
    refine x_p 8 (.bool false) rfl (by kernel_rfl)  (fun _ => y_move rfl) (fun _ => hS) ?_
    refine x_pn 9 rfl (by kernel_rfl) (tg := 13) (by kernel_rfl) (by rfl) (fun _ => hS) ?_
    refine x_pn 10 rfl (by kernel_rfl) (tg := 13) (by kernel_rfl) (by rfl) (fun _ => hS) ?_
    refine x_pn 11 rfl (by kernel_rfl) (tg := 13) (by kernel_rfl) (by rfl) (fun _ => hS) ?_
    refine x_pn 12 rfl (by kernel_rfl) (tg := 13) (by kernel_rfl) (by rfl) (fun _ => hS) ?_
    refine x_pn 13 rfl (by kernel_rfl) (tg := 13) (by kernel_rfl) (by rfl) (fun _ => hS) ?_
    refine x_pn 14 rfl (by kernel_rfl) (tg := 13) (by kernel_rfl) (by rfl) (fun _ => hS) ?_
    refine x_pn 15 rfl (by kernel_rfl) (tg := 13) (by kernel_rfl) (by rfl) (fun _ => hS) ?_
    refine x_pn 16 rfl (by kernel_rfl) (tg := 13) (by kernel_rfl) (by rfl) (fun _ => hS) ?_
    refine x_p 17 (.bool false) rfl (by kernel_rfl)  (fun _ => y_pick_f (by rfl) rfl) (fun _ => hS) ?_
    refine x_p 18 (.bool false) rfl (by kernel_rfl)  (fun _ => y_move rfl) (fun _ => hS) ?_
    refine x_pn 19 rfl (by kernel_rfl) (tg := 23) (by kernel_rfl) (by rfl) (fun _ => hS) ?_
    refine x_pn 20 rfl (by kernel_rfl) (tg := 23) (by kernel_rfl) (by rfl) (fun _ => hS) ?_
    refine x_pn 21 rfl (by kernel_rfl) (tg := 23) (by kernel_rfl) (by rfl) (fun _ => hS) ?_
    refine x_pn 22 rfl (by kernel_rfl) (tg := 23) (by kernel_rfl) (by rfl) (fun _ => hS) ?_
    refine x_p 23 (.bool false) rfl (by kernel_rfl)  (fun _ => y_pick_f (by rfl) rfl) (fun _ => hS) ?_
    refine x_p 24 (.bool false) rfl (by kernel_rfl)  (fun _ => y_assign rfl) (fun _ => hS) ?_
    refine x_end (by kernel_rfl) ?_
    clear hS
    refine wp_ret ?_
    cases hs
    exact ⟨_, fr_ovl 29 ⟨rfl, trivial⟩, hC⟩

theorem Bd33 : Bodied Try.prog 33 := bodied Try.func33 (by kernel_rfl) rfl

theorem Bd42 : Bodied Try.prog 42 := bodied Try.func42 (by kernel_rfl) rfl

def k_impl_PixleyFrom (M : Nat → Prop) (w0 : World) (r : (Int × (List Int)) × Bool) (a : Act) (w : World) : Prop :=
  ∃ (σ : Nat → Value) (rg6 : Nat) (ra0 : Option Addr) (rn0 rc0 : Nat) (rf0 : List Nat), a = fr 74 (ovl σ [(6, (.pointer (some ⟨rg6, 0, none⟩))), (7, (.bool r.2))]) ∧ BoxV w rg6 24 [(.int .i64 r.1.1), (.slice ra0 rn0 rc0)] ∧ Chg [] w0 w ∧ (RT.os 3 (RT.int .i64)).val M w (.slice ra0 rn0 rc0) r.1.2 rf0 ∧ Own (Nw w0 []) (fun _ => True) w (rf0 ++ ([]))
def s_impl_PixleyFrom (n : Int) (m : Int × (List Int)) (j : Int × (List Int)) : Option ((Int × (List Int)) × Bool) :=
  ((s_impl_isSize n).bind fun r10 =>
  (bif (!r10) then some true else (bif (m.1 != 3) then some true else (bif (j.1 != 3) then some true else (s_impl_isOp (m.1, m.2) n).bind fun r15 =>
  (bif (!r15) then some true else (s_impl_isOp (j.1, j.2) n).bind fun r18 =>
  some (!r18)))))).bind fun s6 =>
  (bif s6 then some ((0, []), false) else (forC (S := (List Int)) (R := (Int × (List Int)) × Bool) (fun k55 s53 =>
  (idx m.2 k55).bind fun x63 =>
  (nz (w64 (n * n))).bind fun u66 =>
  (nz n).bind fun u67 =>
  (idx j.2 (w64 ((w64 ((w64 ((w64 ((w64 (Int.tdiv k55 (w64 (n * n)))) * n)) * n)) + (w64 (x63 * n)))) + (Int.tmod k55 n)))).bind fun x68 =>
  (app s53 ([x68])).bind fun y73 =>
  some (.nx y73)) 0 (m.2.length : Int) ([])).bind fun o57 => after o57 (fun r_ => some r_) (fun s53 =>
  some ((3, s53), true)))
set_option maxHeartbeats 4000000 in
theorem c_impl_PixleyFrom {M : Nat → Prop} {w : World} {pa0 : Option Addr} {pn0 pc0 : Nat} {pa1 : Option Addr} {pn1 pc1 : Nat} (n : Int) (m : Int × (List Int)) (j : Int × (List Int)) (h0 : (RT.rs (RT.int .i64)).val M w (.slice pa0 pn0 pc0) m.2 ([])) (h1 : (RT.rs (RT.int .i64)).val M w (.slice pa1 pn1 pc1) j.2 ([])) (hM : ∀ g, w.heap.size ≤ g → M g) {r : (Int × (List Int)) × Bool} (hs : s_impl_PixleyFrom n m j = some r) :
    Gives Try.prog 22 [(.int .i64 n), (.agg #[(.int .i64 m.1), (.slice pa0 pn0 pc0)]), (.agg #[(.int .i64 j.1), (.slice pa1 pn1 pc1)])] w (fun v w' => ∃ (ra0 : Option Addr) (rn0 rc0 : Nat) (rf0 : List Nat), v = (.tuple #[(.agg #[(.int .i64 r.1.1), (.slice ra0 rn0 rc0)]), (.bool r.2)]) ∧ Chg [] w w' ∧ (RT.os 3 (RT.int .i64)).val M w' (.slice ra0 rn0 rc0) r.1.2 rf0 ∧ Own (Nw w []) (fun _ => True) w' (rf0 ++ ([]))) := by
  refine calls_fr Try.func22 rfl Try.ntmps22 (Nat.le_of_ble_eq_true rfl) ?_
  have hO := Own.start (N := Nw w []) hM Nw.fut
  have hC := Chg.refl [] w
  unfold s_impl_PixleyFrom at hs
  refine wp_mono (Q := KPost (k_impl_PixleyFrom M w r)) ?_ (fun e a w1 h => ?_)
  rotate_left
  · cases e
    case ret =>
      obtain ⟨σ, rg6, ra0, rn0, rc0, rf0, rfl, hbrg6, hrest⟩ := h
      exact ret2x Try.results22 (res_cell rfl (box_load Ag24 Sz24 hbrg6 [] _ [] rfl rfl (fun h => nomatch h))) (res_tmp rfl) ⟨ra0, rn0, rc0, rf0, rfl, hrest⟩
    all_goals exact (h : False).elim
  refine c_seq ?_
  refine c_region ?_
  obtain ⟨w3, g3, ew3, eg3, hC3, hb3⟩ := new_block w [(.int .i64 m.1), (.slice pa0 pn0 pc0)] 24
  refine pl_val (w' := w3) (.pointer (some ⟨g3, 0, none⟩)) (y_box rfl (by rw [ew3, eg3]; kernel_rfl)) ?_
  have h0 := h0.ext hC3
  have h1 := h1.ext hC3
  have hC := hC.ext hC3
  have hO := hO.new (X' := [g3]) hC3 (fun q hq => by rw [List.mem_singleton.1 hq, eg3]; exact Nat.le_refl _) (List.nodup_cons.2 ⟨(fun h => nomatch h), List.nodup_nil⟩) (fun q hq => by rw [List.mem_singleton.1 hq]; exact hb3.lt)
  obtain ⟨w4, g4, ew4, eg4, hC4, hb4⟩ := new_block w3 [(.int .i64 j.1), (.slice pa1 pn1 pc1)] 24
  refine pl_val (w' := w4) (.pointer (some ⟨g4, 0, none⟩)) (y_box rfl (by rw [ew4, eg4]; kernel_rfl)) ?_
  have h0 := h0.ext hC4
  have h1 := h1.ext hC4
  have hb3 := hb3.chg hC4 (fun h => nomatch h)
  have hC := hC.ext hC4
  have hO := hO.new (X' := [g4]) hC4 (fun q hq => by rw [List.mem_singleton.1 hq, eg4]; exact Nat.le_refl _) (List.nodup_cons.2 ⟨(fun h => nomatch h), List.nodup_nil⟩) (fun q hq => by rw [List.mem_singleton.1 hq]; exact hb4.lt)
  obtain ⟨w5, g5, ew5, eg5, hC5, hb5⟩ := new_block w4 [(.int .i64 0), (.slice none 0 0)] 24
  refine pl_val (w' := w5) (.pointer (some ⟨g5, 0, none⟩)) (y_alloc (by rw [ew5, eg5]; kernel_rfl)) ?_
  have h0 := h0.ext hC5
  have h1 := h1.ext hC5
  have hb3 := hb3.chg hC5 (fun h => nomatch h)
  have hb4 := hb4.chg hC5 (fun h => nomatch h)
  have hC := hC.ext hC5
  have hO := hO.new (X' := [g5]) hC5 (fun q hq => by rw [List.mem_singleton.1 hq, eg5]; exact Nat.le_refl _) (List.nodup_cons.2 ⟨(fun h => nomatch h), List.nodup_nil⟩) (fun q hq => by rw [List.mem_singleton.1 hq]; exact hb5.lt)
  refine pl_val (.bool false) (y_assign rfl) ?_
  refine c_nil ?_
  refine c_seq ?_
  refine c_seq ?_
  obtain ⟨s6, hm8, hs⟩ := bind_some hs
  refine c_mid (I := fun a w7 => ∃ (σ : Nat → Value), a = fr 74 (ovl σ [(0, (.int .i64 n)), (4, (.pointer (some ⟨g3, 0, none⟩))), (5, (.pointer (some ⟨g4, 0, none⟩))), (6, (.pointer (some ⟨g5, 0, none⟩))), (7, (.bool false)), (35, (.bool s6))]) ∧ Chg [] w5 w7) ?_ ?_
  · replace hs := hm8
    have hMid := Chg.refl [] w5
    refine c_region ?_
    refine pl_val (.int .i64 n) (y_move rfl) ?_
    obtain ⟨r10, hr10, hs⟩ := bind_some hs
    refine pl_call Bd33 rfl (c_impl_isSize (M := M) n  hO.fut hr10) ?_
    rintro _ w9 ⟨rfl, hC9⟩
    have h0 := h0.ext hC9
    have h1 := h1.ext hC9
    have hb3 := hb3.chg hC9 (fun h => nomatch h)
    have hb4 := hb4.chg hC9 (fun h => nomatch h)
    have hb5 := hb5.chg hC9 (fun h => nomatch h)
    have hMid := hMid.ext hC9
    have hC := hC.ext hC9
    have hO := hO.ext hC9
    refine pl_val (.bool (!r10)) (y_not rfl) ?_
    refine pl_val (.bool (!r10)) (y_move rfl) ?_
    rcases bif_some hs with ⟨hc11, hs⟩ | ⟨hc11, hs⟩
    · skip
      refine pl_not (tg := 14) (by kernel_rfl) (congrArg Value.bool hc11) ?_
      refine pl_not (tg := 14) (by kernel_rfl) (congrArg Value.bool hc11) ?_
      refine pl_not (tg := 14) (by kernel_rfl) (congrArg Value.bool hc11) ?_
      refine pl_val (.bool true) (y_pick_t (congrArg Value.bool hc11) rfl) ?_
      refine pl_val (.bool true) (y_move rfl) ?_
      refine pl_not (tg := 19) (by kernel_rfl) (by rfl) ?_
      refine pl_not (tg := 19) (by kernel_rfl) (by rfl) ?_
      refine pl_not (tg := 19) (by kernel_rfl) (by rfl) ?_
      refine pl_val (.bool true) (y_pick_t (by rfl) rfl) ?_
      refine pl_val (.bool true) (y_move rfl) ?_
      refine pl_not (tg := 24) (by kernel_rfl) (by rfl) ?_
      refine pl_not (tg := 24) (by kernel_rfl) (by rfl) ?_
      refine pl_not (tg := 24) (by kernel_rfl) (by rfl) ?_
      refine pl_not (tg := 24) (by kernel_rfl) (by rfl) ?_
      refine pl_val (.bool true) (y_pick_t (by rfl) rfl) ?_
      refine pl_val (.bool true) (y_move rfl) ?_
      refine pl_not (tg := 30) (by kernel_rfl) (by rfl) ?_
      refine pl_not (tg := 30) (by kernel_rfl) (by rfl) ?_
      refine pl_not (tg := 30) (by kernel_rfl) (by rfl) ?_
      refine pl_not (tg := 30) (by kernel_rfl) (by rfl) ?_
      refine pl_val (.bool true) (y_pick_t (by rfl) rfl) ?_
      refine c_nil ?_
      cases hs
      exact ⟨_, fr_ovl 74 ⟨rfl, rfl, rfl, rfl, rfl, rfl, trivial⟩, hMid⟩
    · skip
      refine pl_yes (.pointer (some ⟨g3, 0, none⟩)) (tg := 14) (by kernel_rfl) (congrArg Value.bool hc11) (y_faddr rfl Fa24x0) ?_
      refine pl_yes (.int .i64 m.1) (tg := 14) (by kernel_rfl) (congrArg Value.bool hc11) (y_load rfl ((box_load Ag3 Sz3 hb3 [] [(.int .i64 m.1)] [(.slice pa0 pn0 pc0)] rfl rfl (fun _ => rfl)) _ (Chg.refl _ _))) ?_
      refine pl_yes (.bool (m.1 != 3)) (tg := 14) (by kernel_rfl) (congrArg Value.bool hc11) (y_neq rfl rfl) ?_
      refine pl_val (.bool (m.1 != 3)) (y_pick_f (congrArg Value.bool hc11) rfl) ?_
      refine pl_val (.bool (m.1 != 3)) (y_move rfl) ?_
      rcases bif_some hs with ⟨hc12, hs⟩ | ⟨hc12, hs⟩
      · skip
        refine pl_not (tg := 19) (by kernel_rfl) (congrArg Value.bool hc12) ?_
        refine pl_not (tg := 19) (by kernel_rfl) (congrArg Value.bool hc12) ?_
        refine pl_not (tg := 19) (by kernel_rfl) (congrArg Value.bool hc12) ?_
        refine pl_val (.bool true) (y_pick_t (congrArg Value.bool hc12) rfl) ?_
        refine pl_val (.bool true) (y_move rfl) ?_
        refine pl_not (tg := 24) (by kernel_rfl) (by rfl) ?_
        refine pl_not (tg := 24) (by kernel_rfl) (by rfl) ?_
        refine pl_not (tg := 24) (by kernel_rfl) (by rfl) ?_
        refine pl_not (tg := 24) (by kernel_rfl) (by rfl) ?_
        refine pl_val (.bool true) (y_pick_t (by rfl) rfl) ?_
        refine pl_val (.bool true) (y_move rfl) ?_
        refine pl_not (tg := 30) (by kernel_rfl) (by rfl) ?_
        refine pl_not (tg := 30) (by kernel_rfl) (by rfl) ?_
        refine pl_not (tg := 30) (by kernel_rfl) (by rfl) ?_
        refine pl_not (tg := 30) (by kernel_rfl) (by rfl) ?_
        refine pl_val (.bool true) (y_pick_t (by rfl) rfl) ?_
        refine c_nil ?_
        cases hs
        exact ⟨_, fr_ovl 74 ⟨rfl, rfl, rfl, rfl, rfl, rfl, trivial⟩, hMid⟩
      · skip
        refine pl_yes (.pointer (some ⟨g4, 0, none⟩)) (tg := 19) (by kernel_rfl) (congrArg Value.bool hc12) (y_faddr rfl Fa24x0) ?_
        refine pl_yes (.int .i64 j.1) (tg := 19) (by kernel_rfl) (congrArg Value.bool hc12) (y_load rfl ((box_load Ag3 Sz3 hb4 [] [(.int .i64 j.1)] [(.slice pa1 pn1 pc1)] rfl rfl (fun _ => rfl)) _ (Chg.refl _ _))) ?_
        refine pl_yes (.bool (j.1 != 3)) (tg := 19) (by kernel_rfl) (congrArg Value.bool hc12) (y_neq rfl rfl) ?_
        refine pl_val (.bool (j.1 != 3)) (y_pick_f (congrArg Value.bool hc12) rfl) ?_
        refine pl_val (.bool (j.1 != 3)) (y_move rfl) ?_
        rcases bif_some hs with ⟨hc13, hs⟩ | ⟨hc13, hs⟩
        · skip
          refine pl_not (tg := 24) (by kernel_rfl) (congrArg Value.bool hc13) ?_
          refine pl_not (tg := 24) (by kernel_rfl) (congrArg Value.bool hc13) ?_
          refine pl_not (tg := 24) (by kernel_rfl) (congrArg Value.bool hc13) ?_
          refine pl_not (tg := 24) (by kernel_rfl) (congrArg Value.bool hc13) ?_
          refine pl_val (.bool true) (y_pick_t (congrArg Value.bool hc13) rfl) ?_
          refine pl_val (.bool true) (y_move rfl) ?_
          refine pl_not (tg := 30) (by kernel_rfl) (by rfl) ?_
          refine pl_not (tg := 30) (by kernel_rfl) (by rfl) ?_
          refine pl_not (tg := 30) (by kernel_rfl) (by rfl) ?_
          refine pl_not (tg := 30) (by kernel_rfl) (by rfl) ?_
          refine pl_val (.bool true) (y_pick_t (by rfl) rfl) ?_
          refine c_nil ?_
          cases hs
          exact ⟨_, fr_ovl 74 ⟨rfl, rfl, rfl, rfl, rfl, rfl, trivial⟩, hMid⟩
        · skip
          refine pl_yes (.agg #[(.int .i64 m.1), (.slice pa0 pn0 pc0)]) (tg := 24) (by kernel_rfl) (congrArg Value.bool hc13) (y_load rfl ((box_load Ag24 Sz24 hb3 [] [(.int .i64 m.1), (.slice pa0 pn0 pc0)] [] rfl rfl (fun h => nomatch h)) _ (Chg.refl _ _))) ?_
          refine pl_yes (.int .i64 n) (tg := 24) (by kernel_rfl) (congrArg Value.bool hc13) (y_move rfl) ?_
          obtain ⟨r15, hr15, hs⟩ := bind_some hs
          refine pl_cally (tg := 24) (by kernel_rfl) (congrArg Value.bool hc13) Bd42 rfl (c_impl_isOp (M := M) (m.1, m.2) n h0 hO.fut hr15) ?_
          rintro _ w14 ⟨rfl, hC14⟩
          have h0 := h0.ext hC14
          have h1 := h1.ext hC14
          have hb3 := hb3.chg hC14 (fun h => nomatch h)
          have hb4 := hb4.chg hC14 (fun h => nomatch h)
          have hb5 := hb5.chg hC14 (fun h => nomatch h)
          have hMid := hMid.ext hC14
          have hC := hC.ext hC14
          have hO := hO.ext hC14
          refine pl_yes (.bool (!r15)) (tg := 24) (by kernel_rfl) (congrArg Value.bool hc13) (y_not rfl) ?_
          refine pl_val (.bool (!r15)) (y_pick_f (congrArg Value.bool hc13) rfl) ?_
          refine pl_val (.bool (!r15)) (y_move rfl) ?_
          rcases bif_some hs with ⟨hc16, hs⟩ | ⟨hc16, hs⟩
          · skip
            refine pl_not (tg := 30) (by kernel_rfl) (congrArg Value.bool hc16) ?_
            refine pl_not (tg := 30) (by kernel_rfl) (congrArg Value.bool hc16) ?_
            refine pl_not (tg := 30) (by kernel_rfl) (congrArg Value.bool hc16) ?_
            refine pl_not (tg := 30) (by kernel_rfl) (congrArg Value.bool hc16) ?_
            refine pl_val (.bool true) (y_pick_t (congrArg Value.bool hc16) rfl) ?_
            refine c_nil ?_
            cases hs
            exact ⟨_, fr_ovl 74 ⟨rfl, rfl, rfl, rfl, rfl, rfl, trivial⟩, hMid⟩
          · skip
            refine pl_yes (.agg #[(.int .i64 j.1), (.slice pa1 pn1 pc1)]) (tg := 30) (by kernel_rfl) (congrArg Value.bool hc16) (y_load rfl ((box_load Ag24 Sz24 hb4 [] [(.int .i64 j.1), (.slice pa1 pn1 pc1)] [] rfl rfl (fun h => nomatch h)) _ (Chg.refl _ _))) ?_
            refine pl_yes (.int .i64 n) (tg := 30) (by kernel_rfl) (congrArg Value.bool hc16) (y_move rfl) ?_
            obtain ⟨r18, hr18, hs⟩ := bind_some hs
            refine pl_cally (tg := 30) (by kernel_rfl) (congrArg Value.bool hc16) Bd42 rfl (c_impl_isOp (M := M) (j.1, j.2) n h1 hO.fut hr18) ?_
            rintro _ w17 ⟨rfl, hC17⟩
            have h0 := h0.ext hC17
            have h1 := h1.ext hC17
            have hb3 := hb3.chg hC17 (fun h => nomatch h)
            have hb4 := hb4.chg hC17 (fun h => nomatch h)
            have hb5 := hb5.chg hC17 (fun h => nomatch h)
            have hMid := hMid.ext hC17
            have hC := hC.ext hC17
            have hO := hO.ext hC17
            refine pl_yes (.bool (!r18)) (tg := 30) (by kernel_rfl) (congrArg Value.bool hc16) (y_not rfl) ?_
            refine pl_val (.bool (!r18)) (y_pick_f (congrArg Value.bool hc16) rfl) ?_
            refine c_nil ?_
            cases hs
            exact ⟨_, fr_ovl 74 ⟨rfl, rfl, rfl, rfl, rfl, rfl, trivial⟩, hMid⟩
  · rintro a1 w7 ⟨σ, rfl, hCs6⟩
    have h0 := h0.ext hCs6
    have h1 := h1.ext hCs6
    have hb3 := hb3.chg hCs6 (fun h => nomatch h)
    have hb4 := hb4.chg hCs6 (fun h => nomatch h)
    have hb5 := hb5.chg hCs6 (fun h => nomatch h)
    have hC := hC.ext hCs6
    have hO := hO.ext hCs6
    rcases bif_some hs with ⟨hc19, hs⟩ | ⟨hc19, hs⟩
    · skip
      refine c_condT (congrArg Value.bool hc19) ?_
      refine c_seq ?_
      refine c_region ?_
      refine pl_val (.agg #[(.int .i64 0), (.slice none 0 0)]) (y_build rfl (by kernel_rfl)) ?_
      obtain ⟨w20, hst20, hC20, hb20⟩ := box_store (P := Try.prog) hb5 [] [(.int .i64 0), (.slice none 0 0)] [] [(.int .i64 0), (.slice none 0 0)] rfl rfl (by intro u hu; simp only [List.mem_cons, List.not_mem_nil, or_false] at hu; rcases hu with rfl | rfl <;> rfl)
      refine pl_skip (w' := w20) (ys_store rfl rfl (hst20 _ _ rfl Sz24)) ?_
      have h0 := h0.mut hC20 (fun g hg => hO.inM g ((fun _ h => h) g hg)) (fun _ _ h => nomatch h)
      have h1 := h1.mut hC20 (fun g hg => hO.inM g ((fun _ h => h) g hg)) (fun _ _ h => nomatch h)
      have hb3 := hb3.chg hC20 (fun hg => hO.apart _ ((fun _ h => h) _ hg) (mem_r (mem_l (List.mem_singleton.2 rfl))))
      have hb4 := hb4.chg hC20 (fun hg => hO.apart _ ((fun _ h => h) _ hg) (mem_l (List.mem_singleton.2 rfl)))
      have hC := hC.step hC20 (fun g hg => hO.inN g ((fun _ h => h) g hg))
      have hO := hO.ext hC20
      have hb20 : BoxV w20 g5 24 [(.int .i64 0), (.slice none 0 0)] := hb20
      refine pl_val (.bool false) (y_assign rfl) ?_
      refine c_nil ?_
      refine wp_ret ?_
      cases hs
      have hO := hO.drop
      have hO := hO.drop
      have hO := hO.drop
      have hO := hO.nil
      exact ⟨_, g5, none, 0, 0, [], fr_ovl 74 ⟨rfl, rfl, trivial⟩, hb20, hC, os_nil, hO.top⟩
    · skip
      refine c_condF (congrArg Value.bool hc19) ?_
      refine wp_skip ?_
      refine c_seq ?_
      refine c_region ?_
      refine pl_val (.agg #[(.int .i64 3), (.slice none 0 0)]) (y_build rfl (by kernel_rfl)) ?_
      obtain ⟨w21, g21, ew21, eg21, hC21, hb21⟩ := new_block w7 [(.int .i64 0), (.slice none 0 0)] 24
      refine pl_val (w' := w21) (.pointer (some ⟨g21, 0, none⟩)) (y_alloc (by rw [ew21, eg21]; kernel_rfl)) ?_
      have h0 := h0.ext hC21
      have h1 := h1.ext hC21
      have hb3 := hb3.chg hC21 (fun h => nomatch h)
      have hb4 := hb4.chg hC21 (fun h => nomatch h)
      have hb5 := hb5.chg hC21 (fun h => nomatch h)
      have hC := hC.ext hC21
      have hO := hO.new (X' := [g21]) hC21 (fun q hq => by rw [List.mem_singleton.1 hq, eg21]; exact Nat.le_refl _) (List.nodup_cons.2 ⟨(fun h => nomatch h), List.nodup_nil⟩) (fun q hq => by rw [List.mem_singleton.1 hq]; exact hb21.lt)
      obtain ⟨w22, hst22, hC22, hb22⟩ := box_store (P := Try.prog) hb21 [] [(.int .i64 0), (.slice none 0 0)] [] [(.int .i64 3), (.slice none 0 0)] rfl rfl (by intro u hu; simp only [List.mem_cons, List.not_mem_nil, or_false] at hu; rcases hu with rfl | rfl <;> rfl)
      refine pl_skip (w' := w22) (ys_store rfl rfl (hst22 _ _ rfl Sz24)) ?_
      have h0 := h0.mut hC22 (fun g hg => hO.inM g ((fun _ h => h) g hg)) (fun _ _ h => nomatch h)
      have h1 := h1.mut hC22 (fun g hg => hO.inM g ((fun _ h => h) g hg)) (fun _ _ h => nomatch h)
      have hb3 := hb3.chg hC22 (fun hg => hO.apart _ ((fun _ h => h) _ hg) (mem_r (mem_r (mem_l (List.mem_singleton.2 rfl)))))
      have hb4 := hb4.chg hC22 (fun hg => hO.apart _ ((fun _ h => h) _ hg) (mem_r (mem_l (List.mem_singleton.2 rfl))))
      have hb5 := hb5.chg hC22 (fun hg => hO.apart _ ((fun _ h => h) _ hg) (mem_l (List.mem_singleton.2 rfl)))
      have hC := hC.step hC22 (fun g hg => hO.inN g ((fun _ h => h) g hg))
      have hO := hO.ext hC22
      have hb22 : BoxV w22 g21 24 [(.int .i64 3), (.slice none 0 0)] := hb22
      refine c_nil ?_
      refine c_seq ?_
      refine c_seq ?_
      refine c_region ?_
      refine pl_val (.pointer (some ⟨g3, 1, none⟩)) (y_faddr rfl Fa24x1) ?_
      refine pl_val (.slice pa0 pn0 pc0) (y_load rfl ((box_load Ag22 Sz22 hb3 [(.int .i64 m.1)] [(.slice pa0 pn0 pc0)] [] rfl rfl (fun _ => rfl)) _ (Chg.refl _ _))) ?_
      refine pl_val (.int .i64 (m.2.length : Int)) (y_len' Sl22 (rs_len h0) rfl) ?_
      refine pl_val (.int .i64 0) (y_move rfl) ?_
      refine c_nil ?_
      have hO := hO.fr3
      have hO := hO.drop
      obtain ⟨o57, hl58, hs⟩ := bind_some hs
      refine wp_block ?_
      refine wp_forC (id := 0) (m.2.length : Int) (I := fun k55 s53 a w54 => ∃ (σ : Nat → Value) (a59 : Option Addr) (n59 : Nat) (c59 : Nat) (f59 : List Nat), a = fr 74 (ovl σ [(0, (.int .i64 n)), (5, (.pointer (some ⟨g4, 0, none⟩))), (6, (.pointer (some ⟨g5, 0, none⟩))), (8, (.pointer (some ⟨g21, 0, none⟩))), (39, (.slice pa0 pn0 pc0)), (40, (.int .i64 (m.2.length : Int))), (41, (.int .i64 k55))]) ∧ Chg [] w w54 ∧ Own (Nw w []) M w54 (f59 ++ (([g21]) ++ (([g5]) ++ (([g4]) ++ [])))) ∧ (RT.rs (RT.int .i64)).val M w54 (.slice pa0 pn0 pc0) m.2 ([]) ∧ (RT.rs (RT.int .i64)).val M w54 (.slice pa1 pn1 pc1) j.2 ([]) ∧ BoxV w54 g4 24 [(.int .i64 j.1), (.slice pa1 pn1 pc1)] ∧ BoxV w54 g5 24 [(.int .i64 0), (.slice none 0 0)] ∧ BoxV w54 g21 24 [(.int .i64 3), (.slice a59 n59 c59)] ∧ (RT.os 3 (RT.int .i64)).val M w54 (.slice a59 n59 c59) s53 f59) (J := fun s53 a w54 => ∃ (σ : Nat → Value) (a61 : Option Addr) (n61 : Nat) (c61 : Nat) (f61 : List Nat), a = fr 74 (ovl σ [(6, (.pointer (some ⟨g5, 0, none⟩))), (8, (.pointer (some ⟨g21, 0, none⟩)))]) ∧ Chg [] w w54 ∧ Own (Nw w []) M w54 (f61 ++ (([g21]) ++ (([g5]) ++ (([g4]) ++ [])))) ∧ (RT.rs (RT.int .i64)).val M w54 (.slice pa0 pn0 pc0) m.2 ([]) ∧ (RT.rs (RT.int .i64)).val M w54 (.slice pa1 pn1 pc1) j.2 ([]) ∧ BoxV w54 g4 24 [(.int .i64 j.1), (.slice pa1 pn1 pc1)] ∧ BoxV w54 g5 24 [(.int .i64 0), (.slice none 0 0)] ∧ BoxV w54 g21 24 [(.int .i64 3), (.slice a61 n61 c61)] ∧ (RT.os 3 (RT.int .i64)).val M w54 (.slice a61 n61 c61) s53 f61) (K := (k_impl_PixleyFrom M w)) ?_ ?_ 0 ([]) o57 _ _ ?_ hl58 ?_
      · rintro k55 s53 a w54 ⟨σ, a59, n59, c59, f59, rfl, hC, hO, h0, h1, hb4, hb5, hb22, hv59⟩ hlt
        refine c_seq ?_
        refine c_region ?_
        refine pl_val (.bool (decide (k55 < (m.2.length : Int)))) (y_lss rfl rfl) ?_
        refine c_nil ?_
        refine c_seq ?_
        refine c_condF (congrArg Value.bool (decide_eq_false hlt)) ?_
        refine wp_exit ?_
        have hO := hO.fr3
        have hO := hO.fr3
        have hO := hO.fr3
        have hO := hO.fr3
        exact ⟨rfl, _, a59, n59, c59, f59, fr_ovl 74 ⟨rfl, rfl, trivial⟩, hC, hO, h0, h1, hb4, hb5, hb22, hv59⟩
      · rintro k55 s53 o57 a w54 ⟨σ, a59, n59, c59, f59, rfl, hC, hO, h0, h1, hb4, hb5, hb22, hv59⟩ hlt hw hs
        refine c_seq ?_
        refine c_region ?_
        refine pl_val (.bool (decide (k55 < (m.2.length : Int)))) (y_lss rfl rfl) ?_
        refine c_nil ?_
        refine c_seq ?_
        refine c_condT (congrArg Value.bool (decide_eq_true hlt)) ?_
        refine wp_skip ?_
        refine c_seq ?_
        refine wp_block ?_
        refine c_seq ?_
        refine c_region ?_
        refine pl_val (.int .i64 k55) (y_move rfl) ?_
        obtain ⟨x63, hx63, hs⟩ := bind_some hs
        obtain ⟨b64, o64, hp64, ha64⟩ := rs_idx Sl22 Sz3 h0 hx63
        refine pl_val (.pointer (some ⟨b64, o64, none⟩)) (hp64 _ _ _ _ _ _ _ _ _ rfl rfl) ?_
        refine pl_val (.int .i64 x63) (y_load rfl ((at_load_int Ag3 Sz3 ha64) _ (Chg.refl _ _))) ?_
        refine pl_val (.int .i64 k55) (y_assign rfl) ?_
        refine pl_val (.int .i64 x63) (y_assign rfl) ?_
        refine c_nil ?_
        refine x_start [24, 26] Mx rfl ?_
        have hCw65 := Chg.drew w54
        generalize World.drew w54 = w65 at hCw65 ⊢
        have h0 := h0.ext hCw65
        have h1 := h1.ext hCw65
        have hb4 := hb4.chg hCw65 (fun h => nomatch h)
        have hb5 := hb5.chg hCw65 (fun h => nomatch h)
        have hb22 := hb22.chg hCw65 (fun h => nomatch h)
        have hv59 := hv59.ext hCw65
        have hC := hC.ext hCw65
        have hO := hO.ext hCw65
        have hS := Chg.refl [] w65
        refine x_p 0 (.pointer (some ⟨g21, 1, none⟩)) rfl (by kernel_rfl)  (fun _ => y_faddr rfl Fa24x1) (fun _ => hS) ?_
        refine x_l 1 (.slice a59 n59 c59) rfl (by kernel_rfl)  (fun w' hw' => y_load rfl ((box_load Ag22 Sz22 hb22 [(.int .i64 3)] [(.slice a59 n59 c59)] [] rfl rfl (fun _ => rfl)) w' hw')) hS ?_
        refine x_p 2 (.pointer (some ⟨g4, 1, none⟩)) rfl (by kernel_rfl)  (fun _ => y_faddr rfl Fa24x1) (fun _ => hS) ?_
        refine x_l 3 (.slice pa1 pn1 pc1) rfl (by kernel_rfl)  (fun w' hw' => y_load rfl ((box_load Ag22 Sz22 hb4 [(.int .i64 j.1)] [(.slice pa1 pn1 pc1)] [] rfl rfl (fun _ => rfl)) w' hw')) hS ?_
        refine x_p 4 (.int .i64 k55) rfl (by kernel_rfl)  (fun _ => y_move rfl) (fun _ => hS) ?_
        refine x_p 5 (.int .i64 n) rfl (by kernel_rfl)  (fun _ => y_move rfl) (fun _ => hS) ?_
        refine x_p 6 (.int .i64 n) rfl (by kernel_rfl)  (fun _ => y_move rfl) (fun _ => hS) ?_
        refine x_p 7 (.int .i64 (w64 (n * n))) rfl (by kernel_rfl)  (fun _ => y_mul rfl rfl) (fun _ => hS) ?_
        obtain ⟨u66, hu66, hs⟩ := bind_some hs
        refine x_p 8 (.int .i64 (w64 (Int.tdiv k55 (w64 (n * n))))) rfl (by kernel_rfl)  (fun _ => y_quo rfl rfl (nz_ne hu66)) (fun _ => hS) ?_
        refine x_p 9 (.int .i64 n) rfl (by kernel_rfl)  (fun _ => y_move rfl) (fun _ => hS) ?_
        refine x_p 10 (.int .i64 (w64 ((w64 (Int.tdiv k55 (w64 (n * n)))) * n))) rfl (by kernel_rfl)  (fun _ => y_mul rfl rfl) (fun _ => hS) ?_
        refine x_p 11 (.int .i64 n) rfl (by kernel_rfl)  (fun _ => y_move rfl) (fun _ => hS) ?_
        refine x_p 12 (.int .i64 (w64 ((w64 ((w64 (Int.tdiv k55 (w64 (n * n)))) * n)) * n))) rfl (by kernel_rfl)  (fun _ => y_mul rfl rfl) (fun _ => hS) ?_
        refine x_p 13 (.int .i64 x63) rfl (by kernel_rfl)  (fun _ => y_move rfl) (fun _ => hS) ?_
        refine x_p 14 (.int .i64 n) rfl (by kernel_rfl)  (fun _ => y_move rfl) (fun _ => hS) ?_
        refine x_p 15 (.int .i64 (w64 (x63 * n))) rfl (by kernel_rfl)  (fun _ => y_mul rfl rfl) (fun _ => hS) ?_
        refine x_p 16 (.int .i64 (w64 ((w64 ((w64 ((w64 (Int.tdiv k55 (w64 (n * n)))) * n)) * n)) + (w64 (x63 * n))))) rfl (by kernel_rfl)  (fun _ => y_add rfl rfl) (fun _ => hS) ?_
        refine x_p 17 (.int .i64 k55) rfl (by kernel_rfl)  (fun _ => y_move rfl) (fun _ => hS) ?_
        refine x_p 18 (.int .i64 n) rfl (by kernel_rfl)  (fun _ => y_move rfl) (fun _ => hS) ?_
        obtain ⟨u67, hu67, hs⟩ := bind_some hs
        refine x_p 19 (.int .i64 (Int.tmod k55 n)) rfl (by kernel_rfl)  (fun _ => y_rem rfl rfl (nz_ne hu67)) (fun _ => hS) ?_
        refine x_p 20 (.int .i64 (w64 ((w64 ((w64 ((w64 ((w64 (Int.tdiv k55 (w64 (n * n)))) * n)) * n)) + (w64 (x63 * n)))) + (Int.tmod k55 n)))) rfl (by kernel_rfl)  (fun _ => y_add rfl rfl) (fun _ => hS) ?_
        obtain ⟨x68, hx68, hs⟩ := bind_some hs
        obtain ⟨b69, o69, hp69, ha69⟩ := rs_idx Sl22 Sz3 h1 hx68
        refine x_p 21 (.pointer (some ⟨b69, o69, none⟩)) rfl (by kernel_rfl)  (fun _ => hp69 _ _ _ _ _ _ _ _ _ rfl rfl) (fun _ => hS) ?_
        refine x_l 22 (.int .i64 x68) rfl (by kernel_rfl)  (fun w' hw' => y_load rfl ((at_load_int Ag3 Sz3 ha69) w' hw')) hS ?_
        refine x_one (i := 23) (by kernel_rfl) ?_
        obtain ⟨w70, g70, ew70, eg70, hC70, hb70⟩ := new_block w65 [(.int .i64 x68)] 3
        refine xk_val (w' := w70) (b := false) (.slice (some ⟨g70, 0, none⟩) 1 1) rfl  (y_bslice rfl (by rw [ew70, eg70]; kernel_rfl)) rfl (fun _ => hS.ext hC70) ?_
        have h0 := h0.ext hC70
        have h1 := h1.ext hC70
        have hb4 := hb4.chg hC70 (fun h => nomatch h)
        have hb5 := hb5.chg hC70 (fun h => nomatch h)
        have hb22 := hb22.chg hC70 (fun h => nomatch h)
        have hv59 := hv59.ext hC70
        have hC := hC.ext hC70
        have hO := hO.new (X' := [g70]) hC70 (fun q hq => by rw [List.mem_singleton.1 hq, eg70]; exact Nat.le_refl _) (List.nodup_cons.2 ⟨(fun h => nomatch h), List.nodup_nil⟩) (fun q hq => by rw [List.mem_singleton.1 hq]; exact hb70.lt)
        have hv70 := os_of_box (r := (RT.int .i64)) (M := M) (css := [[(.int .i64 x68)]]) (fps := [([] : List Nat)]) (xs := ([x68] : List Int)) hb70 ⟨⟨rfl, rfl⟩, trivial⟩ (Nat.le_of_ble_eq_true rfl) (List.nodup_cons.2 ⟨(fun h => nomatch h), List.nodup_nil⟩)
        have hv70 : (RT.os 3 (RT.int .i64)).val M w70 (.slice (some ⟨g70, 0, none⟩) 1 1) [x68] [g70] := hv70
        have hS := hS.ext hC70
        refine x_one (i := 24) (by kernel_rfl) ?_
        obtain ⟨y73, hy73, hs⟩ := bind_some hs
        have hO := hO.fr1
        obtain ⟨a72, n72, c72, w72, f72, hr72, hC72, hf72, hv72⟩ := app_os Rw22 hy73 hv59 hv70 hO.inM (fun g hg hq => hO.apart g hq (mem_l hg))
        have hG72 := os_block hv59
        refine xk_val (w' := w72) (b := true) (.slice a72 n72 c72) rfl  (y_append rfl rfl (hr72 _)) rfl (fun h => nomatch h) ?_
        have hO := hO.fr1
        have hO := hO.fr1
        have h0 := h0.mut hC72 (fun g hg => hO.inM g (hG72 g hg)) (fun _ _ h => nomatch h)
        have h1 := h1.mut hC72 (fun g hg => hO.inM g (hG72 g hg)) (fun _ _ h => nomatch h)
        have hb4 := hb4.chg hC72 (fun hg => hO.apart _ (hG72 _ hg) (mem_r (mem_r (mem_r (mem_l (List.mem_singleton.2 rfl))))))
        have hb5 := hb5.chg hC72 (fun hg => hO.apart _ (hG72 _ hg) (mem_r (mem_r (mem_l (List.mem_singleton.2 rfl)))))
        have hb22 := hb22.chg hC72 (fun hg => hO.apart _ (hG72 _ hg) (mem_r (mem_l (List.mem_singleton.2 rfl))))
        have hC := hC.step hC72 (fun g hg => hO.inN g (hG72 g hg))
        have hO := hO.eat hC72 hf72 (os_nodup hv72) hv72.fpl
        refine x_p 25 (.pointer (some ⟨g21, 1, none⟩)) rfl (by kernel_rfl)  (fun _ => y_faddr rfl Fa24x1) (fun h => nomatch h) ?_
        refine x_one (i := 26) (by kernel_rfl) ?_
        obtain ⟨w75, hst75, hC75, hb75⟩ := box_store (P := Try.prog) hb22 [(.int .i64 3)] [(.slice a59 n59 c59)] [] [(.slice a72 n72 c72)] rfl rfl (by intro u hu; simp only [List.mem_cons, List.not_mem_nil, or_false] at hu; rcases hu with rfl <;> rfl)
        refine xk_skip (w' := w75) (b := true) rfl (ys_store rfl rfl (hst75 _ _ rfl Sz22)) rfl (fun h => nomatch h) ?_
        have hO := hO.fr1
        have h0 := h0.mut hC75 (fun g hg => hO.inM g ((fun _ h => h) g hg)) (fun _ _ h => nomatch h)
        have h1 := h1.mut hC75 (fun g hg => hO.inM g ((fun _ h => h) g hg)) (fun _ _ h => nomatch h)
        have hb4 := hb4.chg hC75 (fun hg => hO.apart _ ((fun _ h => h) _ hg) (mem_r (mem_r (mem_l (List.mem_singleton.2 rfl)))))
        have hb5 := hb5.chg hC75 (fun hg => hO.apart _ ((fun _ h => h) _ hg) (mem_r (mem_l (List.mem_singleton.2 rfl))))
        have hv72 := hv72.mut hC75 (fun g hg => hO.inM g ((fun _ h => h) g hg)) (fun g hg e => hO.apart g ((fun _ h => h) g hg) (mem_l (e)))
        have hC := hC.step hC75 (fun g hg => hO.inN g ((fun _ h => h) g hg))
        have hO := hO.ext hC75
        have hb75 : BoxV w75 g21 24 [(.int .i64 3), (.slice a72 n72 c72)] := hb75
        refine x_end (by kernel_rfl) ?_
        clear hS
        refine c_region ?_
        refine pl_val (.int .i64 (w64 (k55 + 1))) (y_add rfl rfl) ?_
        refine pl_val (.int .i64 (w64 (k55 + 1))) (y_move rfl) ?_
        refine c_nil ?_
        cases hs
        have hO := hO.fr3
        have hO := hO.fr3
        have hO := hO.fr2
        have hO := hO.fr3
        exact ⟨_, a72, n72, c72, f72, fr_ovl 74 ⟨rfl, rfl, rfl, rfl, rfl, rfl, congrArg (Value.int .i64) hw, trivial⟩, hC, hO, h0, h1, hb4, hb5, hb75, hv72⟩
      · skip
        have hO := hO.fr2
        have hO := hO.fr2
        have hO := hO.fr2
        have hO := hO.nil
        exact ⟨_, none, 0, 0, [], fr_ovl 74 ⟨rfl, rfl, rfl, rfl, rfl, rfl, rfl, trivial⟩, hC, hO, h0, h1, hb4, hb5, hb22, os_nil⟩
      · cases o57 with
        | nx _ => exact True.intro
        | rt r_ =>
          have hs := after_rt hs
          intro a1 w1 hK
          cases hs
          exact hK
        | br s53 =>
          have hs := after_br hs
          rintro a1 w54 ⟨σ, a61, n61, c61, f61, rfl, hC, hO, h0, h1, hb4, hb5, hb22, hv61⟩
          refine c_seq ?_
          refine c_region ?_
          refine pl_val (.agg #[(.int .i64 3), (.slice a61 n61 c61)]) (y_load rfl ((box_load Ag24 Sz24 hb22 [] [(.int .i64 3), (.slice a61 n61 c61)] [] rfl rfl (fun h => nomatch h)) _ (Chg.refl _ _))) ?_
          obtain ⟨w76, hst76, hC76, hb76⟩ := box_store (P := Try.prog) hb5 [] [(.int .i64 0), (.slice none 0 0)] [] [(.int .i64 3), (.slice a61 n61 c61)] rfl rfl (by intro u hu; simp only [List.mem_cons, List.not_mem_nil, or_false] at hu; rcases hu with rfl | rfl <;> rfl)
          refine pl_skip (w' := w76) (ys_store rfl rfl (hst76 _ _ rfl Sz24)) ?_
          have hO := hO.fr2
          have h0 := h0.mut hC76 (fun g hg => hO.inM g ((fun _ h => h) g hg)) (fun _ _ h => nomatch h)
          have h1 := h1.mut hC76 (fun g hg => hO.inM g ((fun _ h => h) g hg)) (fun _ _ h => nomatch h)
          have hb4 := hb4.chg hC76 (fun hg => hO.apart _ ((fun _ h => h) _ hg) (mem_r (mem_r (mem_l (List.mem_singleton.2 rfl)))))
          have hb22 := hb22.chg hC76 (fun hg => hO.apart _ ((fun _ h => h) _ hg) (mem_r (mem_l (List.mem_singleton.2 rfl))))
          have hv61 := hv61.mut hC76 (fun g hg => hO.inM g ((fun _ h => h) g hg)) (fun g hg e => hO.apart g ((fun _ h => h) g hg) (mem_l (e)))
          have hC := hC.step hC76 (fun g hg => hO.inN g ((fun _ h => h) g hg))
          have hO := hO.ext hC76
          have hb76 : BoxV w76 g5 24 [(.int .i64 3), (.slice a61 n61 c61)] := hb76
          refine pl_val (.bool true) (y_assign rfl) ?_
          refine c_nil ?_
          refine wp_ret ?_
          cases hs
          have hO := hO.drop
          have hO := hO.fr1
          have hO := hO.drop
          have hO := hO.fr1
          have hO := hO.drop
          exact ⟨_, g5, a61, n61, c61, f61, fr_ovl 74 ⟨rfl, rfl, trivial⟩, hb76, hC, hv61, hO.top⟩

def k_laws_eqIntS (M : Nat → Prop) (w0 : World) (r : Bool) (a : Act) (w : World) : Prop :=
  ∃ (σ : Nat → Value) , a = fr 26 (ovl σ [(4, (.bool r))]) ∧ Chg [] w0 w
def s_laws_eqIntS (a_ : List Int) (b : List Int) : Option (Bool) :=
  (bif ((a_.length : Int) != (b.length : Int)) then some false else (forC (S := Unit) (R := Bool) (fun k12 s10 =>
  (idx a_ k12).bind fun x17 =>
  (idx b k12).bind fun x19 =>
  (bif (x17 != x19) then some (.rt false) else some (.nx ()))) 0 (a_.length : Int) ()).bind fun o14 => after o14 (fun r_ => some r_) (fun s10 =>
  some true))
set_option maxHeartbeats 4000000 in
theorem c_laws_eqIntS {M : Nat → Prop} {w : World} {pa0 : Option Addr} {pn0 pc0 : Nat} {pa1 : Option Addr} {pn1 pc1 : Nat} (a_ : List Int) (b : List Int) (h0 : (RT.rs (RT.int .i64)).val M w (.slice pa0 pn0 pc0) a_ ([])) (h1 : (RT.rs (RT.int .i64)).val M w (.slice pa1 pn1 pc1) b ([])) (hM : ∀ g, w.heap.size ≤ g → M g) {r : Bool} (hs : s_laws_eqIntS a_ b = some r) :
    Gives Try.prog 26 [(.slice pa0 pn0 pc0), (.slice pa1 pn1 pc1)] w (fun v w' => v = (.bool r) ∧ Chg [] w w') := by
  refine calls_fr Try.func26 rfl Try.ntmps26 (Nat.le_of_ble_eq_true rfl) ?_
  have hO := Own.start (N := Nw w []) hM Nw.fut
  have hC := Chg.refl [] w
  unfold s_laws_eqIntS at hs
  refine wp_mono (Q := KPost (k_laws_eqIntS M w r)) ?_ (fun e a w1 h => ?_)
  rotate_left
  · cases e
    case ret =>
      obtain ⟨σ, rfl, hrest⟩ := h
      exact ret1x Try.results26 (res_tmp rfl) ⟨rfl, hrest⟩
    all_goals exact (h : False).elim
  refine c_seq ?_
  refine c_region ?_
  refine pl_val (.bool false) (y_assign rfl) ?_
  refine c_nil ?_
  refine c_seq ?_
  refine c_seq ?_
  refine c_region ?_
  refine pl_val (.slice pa0 pn0 pc0) (y_move rfl) ?_
  refine pl_val (.int .i64 (a_.length : Int)) (y_len' Sl22 (rs_len h0) rfl) ?_
  refine pl_val (.slice pa1 pn1 pc1) (y_move rfl) ?_
  refine pl_val (.int .i64 (b.length : Int)) (y_len' Sl22 (rs_len h1) rfl) ?_
  refine pl_val (.bool ((a_.length : Int) != (b.length : Int))) (y_neq rfl rfl) ?_
  refine c_nil ?_
  rcases bif_some hs with ⟨hc3, hs⟩ | ⟨hc3, hs⟩
  · skip
    refine c_condT (congrArg Value.bool hc3) ?_
    refine c_seq ?_
    refine c_region ?_
    refine pl_val (.bool false) (y_assign rfl) ?_
    refine c_nil ?_
    refine wp_ret ?_
    cases hs
    exact ⟨_, fr_ovl 26 ⟨rfl, trivial⟩, hC⟩
  · skip
    refine c_condF (congrArg Value.bool hc3) ?_
    refine wp_skip ?_
    refine c_seq ?_
    refine c_seq ?_
    refine c_region ?_
    refine pl_val (.int .i64 0) (y_assign rfl) ?_
    refine c_nil ?_
    obtain ⟨o14, hl15, hs⟩ := bind_some hs
    refine wp_block ?_
    refine wp_forC (id := 0) (a_.length : Int) (I := fun k12 s10 a w11 => ∃ (σ : Nat → Value), a = fr 26 (ovl σ [(0, (.slice pa0 pn0 pc0)), (1, (.slice pa1 pn1 pc1)), (5, (.int .i64 k12))]) ∧ Chg [] w w11 ∧ Own (Nw w []) M w11 ([]) ∧ (RT.rs (RT.int .i64)).val M w11 (.slice pa0 pn0 pc0) a_ ([]) ∧ (RT.rs (RT.int .i64)).val M w11 (.slice pa1 pn1 pc1) b ([])) (J := fun s10 a w11 => ∃ (σ : Nat → Value), a = fr 26 (ovl σ []) ∧ Chg [] w w11 ∧ Own (Nw w []) M w11 ([]) ∧ (RT.rs (RT.int .i64)).val M w11 (.slice pa0 pn0 pc0) a_ ([]) ∧ (RT.rs (RT.int .i64)).val M w11 (.slice pa1 pn1 pc1) b ([])) (K := (k_laws_eqIntS M w)) ?_ ?_ 0 () o14 _ _ ?_ hl15 ?_
    · rintro k12 s10 a w11 ⟨σ, rfl, hC, hO, h0, h1⟩ hlt
      refine c_seq ?_
      refine c_seq ?_
      refine c_region ?_
      refine pl_val (.int .i64 k12) (y_move rfl) ?_
      refine pl_val (.slice pa0 pn0 pc0) (y_move rfl) ?_
      refine pl_val (.int .i64 (a_.length : Int)) (y_len' Sl22 (rs_len h0) rfl) ?_
      refine pl_val (.bool (decide (k12 < (a_.length : Int)))) (y_lss rfl rfl) ?_
      refine c_nil ?_
      refine c_condF (congrArg Value.bool (decide_eq_false hlt)) ?_
      refine wp_exit ?_
      exact ⟨rfl, _, fr_ovl 26 trivial, hC, hO, h0, h1⟩
    · rintro k12 s10 o14 a w11 ⟨σ, rfl, hC, hO, h0, h1⟩ hlt hw hs
      refine c_seq ?_
      refine c_seq ?_
      refine c_region ?_
      refine pl_val (.int .i64 k12) (y_move rfl) ?_
      refine pl_val (.slice pa0 pn0 pc0) (y_move rfl) ?_
      refine pl_val (.int .i64 (a_.length : Int)) (y_len' Sl22 (rs_len h0) rfl) ?_
      refine pl_val (.bool (decide (k12 < (a_.length : Int)))) (y_lss rfl rfl) ?_
      refine c_nil ?_
      refine c_condT (congrArg Value.bool (decide_eq_true hlt)) ?_
      refine wp_skip ?_
      refine c_seq ?_
      refine wp_block ?_
      refine c_seq ?_
      refine x_start [] Mx rfl ?_
      have hCw16 := Chg.drew w11
      generalize World.drew w11 = w16 at hCw16 ⊢
      have h0 := h0.ext hCw16
      have h1 := h1.ext hCw16
      have hC := hC.ext hCw16
      have hO := hO.ext hCw16
      have hS := Chg.refl [] w16
      refine x_p 0 (.slice pa0 pn0 pc0) rfl (by kernel_rfl)  (fun _ => y_move rfl) (fun _ => hS) ?_
      refine x_p 1 (.int .i64 k12) rfl (by kernel_rfl)  (fun _ => y_move rfl) (fun _ => hS) ?_
      obtain ⟨x17, hx17, hs⟩ := bind_some hs
      obtain ⟨b18, o18, hp18, ha18⟩ := rs_idx Sl22 Sz3 h0 hx17
      refine x_p 2 (.pointer (some ⟨b18, o18, none⟩)) rfl (by kernel_rfl)  (fun _ => hp18 _ _ _ _ _ _ _ _ _ rfl rfl) (fun _ => hS) ?_
      refine x_l 3 (.int .i64 x17) rfl (by kernel_rfl)  (fun w' hw' => y_load rfl ((at_load_int Ag3 Sz3 ha18) w' hw')) hS ?_
      refine x_p 4 (.slice pa1 pn1 pc1) rfl (by kernel_rfl)  (fun _ => y_move rfl) (fun _ => hS) ?_
      refine x_p 5 (.int .i64 k12) rfl (by kernel_rfl)  (fun _ => y_move rfl) (fun _ => hS) ?_
      obtain ⟨x19, hx19, hs⟩ := bind_some hs
      obtain ⟨b20, o20, hp20, ha20⟩ := rs_idx Sl22 Sz3 h1 hx19
      refine x_p 6 (.pointer (some ⟨b20, o20, none⟩)) rfl (by kernel_rfl)  (fun _ => hp20 _ _ _ _ _ _ _ _ _ rfl rfl) (fun _ => hS) ?_
      refine x_l 7 (.int .i64 x19) rfl (by kernel_rfl)  (fun w' hw' => y_load rfl ((at_load_int Ag3 Sz3 ha20) w' hw')) hS ?_
      refine x_p 8 (.bool (x17 != x19)) rfl (by kernel_rfl)  (fun _ => y_neq rfl rfl) (fun _ => hS) ?_
      refine x_end (by kernel_rfl) ?_
      clear hS
      rcases bif_some hs with ⟨hc21, hs⟩ | ⟨hc21, hs⟩
      · skip
        refine c_condT (congrArg Value.bool hc21) ?_
        refine c_seq ?_
        refine c_region ?_
        refine pl_val (.bool false) (y_assign rfl) ?_
        refine c_nil ?_
        refine wp_ret ?_
        cases hs
        exact ⟨_, fr_ovl 26 ⟨rfl, trivial⟩, hC⟩
      · skip
        refine c_condF (congrArg Value.bool hc21) ?_
        refine wp_skip ?_
        refine c_region ?_
        refine pl_val (.int .i64 k12) (y_move rfl) ?_
        refine pl_val (.int .i64 (w64 (k12 + 1))) (y_add rfl rfl) ?_
        refine pl_val (.int .i64 (w64 (k12 + 1))) (y_assign rfl) ?_
        refine c_nil ?_
        cases hs
        exact ⟨_, fr_ovl 26 ⟨rfl, rfl, congrArg (Value.int .i64) hw, trivial⟩, hC, hO, h0, h1⟩
    · skip
      exact ⟨_, fr_ovl 26 ⟨rfl, rfl, rfl, trivial⟩, hC, hO, h0, h1⟩
    · cases o14 with
      | nx _ => exact True.intro
      | rt r_ =>
        have hs := after_rt hs
        intro a1 w1 hK
        cases hs
        exact hK
      | br s10 =>
        have hs := after_br hs
        rintro a1 w11 ⟨σ, rfl, hC, hO, h0, h1⟩
        refine c_seq ?_
        refine c_region ?_
        refine pl_val (.bool true) (y_assign rfl) ?_
        refine c_nil ?_
        refine wp_ret ?_
        cases hs
        exact ⟨_, fr_ovl 26 ⟨rfl, trivial⟩, hC⟩

theorem Bd26 : Bodied Try.prog 26 := bodied Try.func26 (by kernel_rfl) rfl

def k_laws_eqOp (M : Nat → Prop) (w0 : World) (r : Bool) (a : Act) (w : World) : Prop :=
  ∃ (σ : Nat → Value) , a = fr 16 (ovl σ [(4, (.bool r))]) ∧ Chg [] w0 w
def s_laws_eqOp (a_ : Int × (List Int)) (b : Int × (List Int)) : Option (Bool) :=
  (bif (a_.1 != b.1) then some false else (s_laws_eqIntS a_.2 b.2).bind fun r7 =>
  (bif (!r7) then some false else some true))
set_option maxHeartbeats 4000000 in
theorem c_laws_eqOp {M : Nat → Prop} {w : World} {pa0 : Option Addr} {pn0 pc0 : Nat} {pa1 : Option Addr} {pn1 pc1 : Nat} (a_ : Int × (List Int)) (b : Int × (List Int)) (h0 : (RT.rs (RT.int .i64)).val M w (.slice pa0 pn0 pc0) a_.2 ([])) (h1 : (RT.rs (RT.int .i64)).val M w (.slice pa1 pn1 pc1) b.2 ([])) (hM : ∀ g, w.heap.size ≤ g → M g) {r : Bool} (hs : s_laws_eqOp a_ b = some r) :
    Gives Try.prog 12 [(.agg #[(.int .i64 a_.1), (.slice pa0 pn0 pc0)]), (.agg #[(.int .i64 b.1), (.slice pa1 pn1 pc1)])] w (fun v w' => v = (.bool r) ∧ Chg [] w w') := by
  refine calls_fr Try.func12 rfl Try.ntmps12 (Nat.le_of_ble_eq_true rfl) ?_
  have hO := Own.start (N := Nw w []) hM Nw.fut
  have hC := Chg.refl [] w
  unfold s_laws_eqOp at hs
  refine wp_mono (Q := KPost (k_laws_eqOp M w r)) ?_ (fun e a w1 h => ?_)
  rotate_left
  · cases e
    case ret =>
      obtain ⟨σ, rfl, hrest⟩ := h
      exact ret1x Try.results12 (res_tmp rfl) ⟨rfl, hrest⟩
    all_goals exact (h : False).elim
  refine c_seq ?_
  refine c_region ?_
  obtain ⟨w3, g3, ew3, eg3, hC3, hb3⟩ := new_block w [(.int .i64 a_.1), (.slice pa0 pn0 pc0)] 24
  refine pl_val (w' := w3) (.pointer (some ⟨g3, 0, none⟩)) (y_box rfl (by rw [ew3, eg3]; kernel_rfl)) ?_
  have h0 := h0.ext hC3
  have h1 := h1.ext hC3
  have hC := hC.ext hC3
  have hO := hO.new (X' := [g3]) hC3 (fun q hq => by rw [List.mem_singleton.1 hq, eg3]; exact Nat.le_refl _) (List.nodup_cons.2 ⟨(fun h => nomatch h), List.nodup_nil⟩) (fun q hq => by rw [List.mem_singleton.1 hq]; exact hb3.lt)
  obtain ⟨w4, g4, ew4, eg4, hC4, hb4⟩ := new_block w3 [(.int .i64 b.1), (.slice pa1 pn1 pc1)] 24
  refine pl_val (w' := w4) (.pointer (some ⟨g4, 0, none⟩)) (y_box rfl (by rw [ew4, eg4]; kernel_rfl)) ?_
  have h0 := h0.ext hC4
  have h1 := h1.ext hC4
  have hb3 := hb3.chg hC4 (fun h => nomatch h)
  have hC := hC.ext hC4
  have hO := hO.new (X' := [g4]) hC4 (fun q hq => by rw [List.mem_singleton.1 hq, eg4]; exact Nat.le_refl _) (List.nodup_cons.2 ⟨(fun h => nomatch h), List.nodup_nil⟩) (fun q hq => by rw [List.mem_singleton.1 hq]; exact hb4.lt)
  refine pl_val (.bool false) (y_assign rfl) ?_
  refine c_nil ?_
  refine c_seq ?_
  refine c_seq ?_
  refine c_region ?_
  refine pl_val (.pointer (some ⟨g3, 0, none⟩)) (y_faddr rfl Fa24x0) ?_
  refine pl_val (.int .i64 a_.1) (y_load rfl ((box_load Ag3 Sz3 hb3 [] [(.int .i64 a_.1)] [(.slice pa0 pn0 pc0)] rfl rfl (fun _ => rfl)) _ (Chg.refl _ _))) ?_
  refine pl_val (.pointer (some ⟨g4, 0, none⟩)) (y_faddr rfl Fa24x0) ?_
  refine pl_val (.int .i64 b.1) (y_load rfl ((box_load Ag3 Sz3 hb4 [] [(.int .i64 b.1)] [(.slice pa1 pn1 pc1)] rfl rfl (fun _ => rfl)) _ (Chg.refl _ _))) ?_
  refine pl_val (.bool (a_.1 != b.1)) (y_neq rfl rfl) ?_
  refine c_nil ?_
  rcases bif_some hs with ⟨hc5, hs⟩ | ⟨hc5, hs⟩
  · skip
    refine c_condT (congrArg Value.bool hc5) ?_
    refine c_seq ?_
    refine c_region ?_
    refine pl_val (.bool false) (y_assign rfl) ?_
    refine c_nil ?_
    refine wp_ret ?_
    cases hs
    exact ⟨_, fr_ovl 16 ⟨rfl, trivial⟩, hC⟩
  · skip
    refine c_condF (congrArg Value.bool hc5) ?_
    refine wp_skip ?_
    refine c_seq ?_
    refine c_seq ?_
    refine c_region ?_
    refine pl_val (.pointer (some ⟨g3, 1, none⟩)) (y_faddr rfl Fa24x1) ?_
    refine pl_val (.slice pa0 pn0 pc0) (y_load rfl ((box_load Ag22 Sz22 hb3 [(.int .i64 a_.1)] [(.slice pa0 pn0 pc0)] [] rfl rfl (fun _ => rfl)) _ (Chg.refl _ _))) ?_
    refine pl_val (.pointer (some ⟨g4, 1, none⟩)) (y_faddr rfl Fa24x1) ?_
    refine pl_val (.slice pa1 pn1 pc1) (y_load rfl ((box_load Ag22 Sz22 hb4 [(.int .i64 b.1)] [(.slice pa1 pn1 pc1)] [] rfl rfl (fun _ => rfl)) _ (Chg.refl _ _))) ?_
    obtain ⟨r7, hr7, hs⟩ := bind_some hs
    refine pl_call Bd26 rfl (c_laws_eqIntS (M := M) a_.2 b.2 h0 h1 hO.fut hr7) ?_
    rintro _ w6 ⟨rfl, hC6⟩
    have h0 := h0.ext hC6
    have h1 := h1.ext hC6
    have hb3 := hb3.chg hC6 (fun h => nomatch h)
    have hb4 := hb4.chg hC6 (fun h => nomatch h)
    have hC := hC.ext hC6
    have hO := hO.ext hC6
    refine pl_val (.bool (!r7)) (y_not rfl) ?_
    refine c_nil ?_
    rcases bif_some hs with ⟨hc8, hs⟩ | ⟨hc8, hs⟩
    · skip
      refine c_condT (congrArg Value.bool hc8) ?_
      refine c_seq ?_
      refine c_region ?_
      refine pl_val (.bool false) (y_assign rfl) ?_
      refine c_nil ?_
      refine wp_ret ?_
      cases hs
      exact ⟨_, fr_ovl 16 ⟨rfl, trivial⟩, hC⟩
    · skip
      refine c_condF (congrArg Value.bool hc8) ?_
      refine wp_skip ?_
      refine c_seq ?_
      refine c_region ?_
      refine pl_val (.bool true) (y_assign rfl) ?_
      refine c_nil ?_
      refine wp_ret ?_
      cases hs
      exact ⟨_, fr_ovl 16 ⟨rfl, trivial⟩, hC⟩

def k_laws_markIntS (M : Nat → Prop) (w0 : World) (qa0 : Option Addr) (qn0 qc0 : Nat) (qf0 : List Nat) (r : Int × (List Int)) (a : Act) (w : World) : Prop :=
  ∃ (σ : Nat → Value) (rfi0 : List Nat), a = fr 19 (ovl σ [(4, (.int .i64 r.1))]) ∧ Chg (qf0 ++ ([])) w0 w ∧ (RT.os 3 (RT.int .i64)).val M w (.slice qa0 qn0 qc0) r.2 rfi0 ∧ Own (Nw w0 (qf0 ++ ([]))) (fun _ => True) w (rfi0 ++ ([]))
def s_laws_markIntS (a_ : List Int) (k : Int) : Option (Int × (List Int)) :=
  (iter (S := Int × Int × (List Int)) (R := Int × (List Int)) (fun s25 =>
  (bif (decide (s25.2.1 < (s25.2.2.length : Int))) then (idx s25.2.2 s25.2.1).bind fun x34 =>
  some (.nx (w64 (s25.1 + 1), w64 (s25.2.1 + 1), List.set s25.2.2 (Int.toNat s25.2.1) s25.1)) else some (.br (s25.1, s25.2.1, s25.2.2)))) FU (k, 0, a_)).bind fun o29 => after o29 (fun r_ => some r_) (fun s25 =>
  some (s25.1, s25.2.2))
set_option maxHeartbeats 4000000 in
theorem c_laws_markIntS {M : Nat → Prop} {w : World} {pa0 : Option Addr} {pn0 pc0 : Nat} {pf0 : List Nat} (a_ : List Int) (k : Int) (h0 : (RT.os 3 (RT.int .i64)).val M w (.slice pa0 pn0 pc0) a_ pf0) (hI : Own (Nw w (pf0 ++ ([]))) M w (pf0 ++ ([]))) (hM : ∀ g, w.heap.size ≤ g → M g) {r : Int × (List Int)} (hs : s_laws_markIntS a_ k = some r) :
    Gives Try.prog 36 [(.slice pa0 pn0 pc0), (.int .i64 k)] w (fun v w' => ∃ (rfi0 : List Nat), v = (.int .i64 r.1) ∧ Chg (pf0 ++ ([])) w w' ∧ (RT.os 3 (RT.int .i64)).val M w' (.slice pa0 pn0 pc0) r.2 rfi0 ∧ Own (Nw w (pf0 ++ ([]))) (fun _ => True) w' (rfi0 ++ ([]))) := by
  refine calls_fr Try.func36 rfl Try.ntmps36 (Nat.le_of_ble_eq_true rfl) ?_
  have hO := hI
  have hC := Chg.refl (pf0 ++ ([])) w
  unfold s_laws_markIntS at hs
  refine wp_mono (Q := KPost (k_laws_markIntS M w pa0 pn0 pc0 pf0 r)) ?_ (fun e a w1 h => ?_)
  rotate_left
  · cases e
    case ret =>
      obtain ⟨σ, rfi0, rfl, hrest⟩ := h
      exact ret1x Try.results36 (res_tmp rfl) ⟨rfi0, rfl, hrest⟩
    all_goals exact (h : False).elim
  refine c_seq ?_
  refine c_region ?_
  refine pl_val (.int .i64 0) (y_assign rfl) ?_
  refine c_nil ?_
  refine c_seq ?_
  refine c_seq ?_
  refine c_region ?_
  refine pl_val (.int .i64 0) (y_assign rfl) ?_
  refine c_nil ?_
  obtain ⟨o29, hl30, hs⟩ := bind_some hs
  refine wp_block ?_
  refine wp_iter (id := 0) (I := fun s25 a w26 => ∃ (σ : Nat → Value) (f31 : List Nat), a = fr 19 (ovl σ [(0, (.slice pa0 pn0 pc0)), (1, (.int .i64 s25.1)), (5, (.int .i64 s25.2.1))]) ∧ Chg (pf0 ++ ([])) w w26 ∧ Own (Nw w (pf0 ++ ([]))) M w26 (f31 ++ []) ∧ (RT.os 3 (RT.int .i64)).val M w26 (.slice pa0 pn0 pc0) s25.2.2 f31) (J := fun s25 a w26 => ∃ (σ : Nat → Value) (f32 : List Nat), a = fr 19 (ovl σ [(1, (.int .i64 s25.1))]) ∧ Chg (pf0 ++ ([])) w w26 ∧ Own (Nw w (pf0 ++ ([]))) M w26 (f32 ++ []) ∧ (RT.os 3 (RT.int .i64)).val M w26 (.slice pa0 pn0 pc0) s25.2.2 f32) (K := (k_laws_markIntS M w pa0 pn0 pc0 pf0)) ?_ FU (k, 0, a_) o29 _ _ ?_ hl30 ?_
  · rintro s25 o29 a w26 ⟨σ, f31, rfl, hC, hO, hv31⟩ hs
    refine c_seq ?_
    refine c_seq ?_
    refine c_region ?_
    refine pl_val (.int .i64 s25.2.1) (y_move rfl) ?_
    refine pl_val (.slice pa0 pn0 pc0) (y_move rfl) ?_
    refine pl_val (.int .i64 (s25.2.2.length : Int)) (y_len' Sl22 (os_len hv31) rfl) ?_
    refine pl_val (.bool (decide (s25.2.1 < (s25.2.2.length : Int)))) (y_lss rfl rfl) ?_
    refine c_nil ?_
    rcases bif_some hs with ⟨hc33, hs⟩ | ⟨hc33, hs⟩
    · skip
      refine c_condT (congrArg Value.bool hc33) ?_
      refine wp_skip ?_
      refine c_seq ?_
      refine wp_block ?_
      refine c_seq ?_
      refine c_region ?_
      refine pl_val (.slice pa0 pn0 pc0) (y_move rfl) ?_
      refine pl_val (.int .i64 s25.2.1) (y_move rfl) ?_
      refine pl_val (.int .i64 s25.1) (y_move rfl) ?_
      obtain ⟨x34, hx34, hs⟩ := bind_some hs
      obtain ⟨g35, f35, hg35, hk35, hp35, ha35, hf35⟩ := os_idx Sl22 Sz3 hv31 hx34
      refine pl_val (.pointer (some ⟨g35, 0 + Int.toNat s25.2.1 * 1, none⟩)) (hp35 _ _ _ _ _ _ _ _ _ rfl rfl) ?_
      obtain ⟨w36, f36, hst36, hC36, hf36, hv36⟩ := os_store (P := Try.prog) (c' := [(.int .i64 s25.1)]) hg35 hv31 hk35 (fun g hg => hO.inM g (os_block hv31 g (by simpa using hg))) ⟨rfl, rfl⟩ List.nodup_nil (fun _ h => nomatch h) (fun _ h => .inl h)
      have hG36 : ∀ q ∈ [g35], q ∈ f31 := fun q hq => os_block hv31 q (by rw [hg35]; exact hq)
      refine pl_skip (w' := w36) (ys_store rfl rfl (hst36 _ _ rfl Sz3)) ?_
      have hC := hC.step hC36 (fun g hg => hO.inN g (hG36 g hg))
      have hO := hO.grow hC36 (fun q hq => .inl ((hf36 q hq).resolve_right (fun h => nomatch h))) (os_nodup hv36) hv36.fpl
      refine c_nil ?_
      refine c_region ?_
      refine pl_val (.int .i64 s25.1) (y_move rfl) ?_
      refine pl_val (.int .i64 (w64 (s25.1 + 1))) (y_add rfl rfl) ?_
      refine pl_val (.int .i64 (w64 (s25.1 + 1))) (y_assign rfl) ?_
      refine c_nil ?_
      refine c_region ?_
      refine pl_val (.int .i64 s25.2.1) (y_move rfl) ?_
      refine pl_val (.int .i64 (w64 (s25.2.1 + 1))) (y_add rfl rfl) ?_
      refine pl_val (.int .i64 (w64 (s25.2.1 + 1))) (y_assign rfl) ?_
      refine c_nil ?_
      cases hs
      exact ⟨_, f36, fr_ovl 19 ⟨rfl, rfl, rfl, trivial⟩, hC, hO, hv36⟩
    · skip
      refine c_condF (congrArg Value.bool hc33) ?_
      refine wp_exit ?_
      cases hs
      exact ⟨rfl, _, f31, fr_ovl 19 ⟨rfl, trivial⟩, hC, hO, hv31⟩
  · skip
    exact ⟨_, pf0, fr_ovl 19 ⟨rfl, rfl, rfl, trivial⟩, hC, hO, h0⟩
  · cases o29 with
    | nx _ => exact True.intro
    | rt r_ =>
      have hs := after_rt hs
      intro a1 w1 hK
      cases hs
      exact hK
    | br s25 =>
      have hs := after_br hs
      rintro a1 w26 ⟨σ, f32, rfl, hC, hO, hv32⟩
      refine c_seq ?_
      refine c_region ?_
      refine pl_val (.int .i64 s25.1) (y_move rfl) ?_
      refine pl_val (.int .i64 s25.1) (y_assign rfl) ?_
      refine c_nil ?_
      refine wp_ret ?_
      cases hs
      exact ⟨_, f32, fr_ovl 19 ⟨rfl, trivial⟩, hC, hv32, hO.top⟩

theorem Bd36 : Bodied Try.prog 36 := bodied Try.func36 (by kernel_rfl) rfl

def k_laws_markOp (M : Nat → Prop) (w0 : World) (qa0 : Option Addr) (qn0 qc0 : Nat) (qf0 : List Nat) (r : Int × (List Int)) (a : Act) (w : World) : Prop :=
  ∃ (σ : Nat → Value) (rfi0 : List Nat), a = fr 10 (ovl σ [(4, (.int .i64 r.1))]) ∧ Chg (qf0 ++ ([])) w0 w ∧ (RT.os 3 (RT.int .i64)).val M w (.slice qa0 qn0 qc0) r.2 rfi0 ∧ Own (Nw w0 (qf0 ++ ([]))) (fun _ => True) w (rfi0 ++ ([]))
def s_laws_markOp (a_ : Int × (List Int)) (k : Int) : Option (Int × (List Int)) :=
  (s_laws_markIntS a_.2 k).bind fun r4 =>
  some (r4.1, r4.2)
set_option maxHeartbeats 4000000 in
theorem c_laws_markOp {M : Nat → Prop} {w : World} {pa0 : Option Addr} {pn0 pc0 : Nat} {pf0 : List Nat} (a_ : Int × (List Int)) (k : Int) (h0 : (RT.os 3 (RT.int .i64)).val M w (.slice pa0 pn0 pc0) a_.2 pf0) (hI : Own (Nw w (pf0 ++ ([]))) M w (pf0 ++ ([]))) (hM : ∀ g, w.heap.size ≤ g → M g) {r : Int × (List Int)} (hs : s_laws_markOp a_ k = some r) :
    Gives Try.prog 13 [(.agg #[(.int .i64 a_.1), (.slice pa0 pn0 pc0)]), (.int .i64 k)] w (fun v w' => ∃ (rfi0 : List Nat), v = (.int .i64 r.1) ∧ Chg (pf0 ++ ([])) w w' ∧ (RT.os 3 (RT.int .i64)).val M w' (.slice pa0 pn0 pc0) r.2 rfi0 ∧ Own (Nw w (pf0 ++ ([]))) (fun _ => True) w' (rfi0 ++ ([]))) := by
  refine calls_fr Try.func13 rfl Try.ntmps13 (Nat.le_of_ble_eq_true rfl) ?_
  have hO := hI
  have hC := Chg.refl (pf0 ++ ([])) w
  unfold s_laws_markOp at hs
  refine wp_mono (Q := KPost (k_laws_markOp M w pa0 pn0 pc0 pf0 r)) ?_ (fun e a w1 h => ?_)
  rotate_left
  · cases e
    case ret =>
      obtain ⟨σ, rfi0, rfl, hrest⟩ := h
      exact ret1x Try.results13 (res_tmp rfl) ⟨rfi0, rfl, hrest⟩
    all_goals exact (h : False).elim
  refine c_seq ?_
  refine c_region ?_
  obtain ⟨w2, g2, ew2, eg2, hC2, hb2⟩ := new_block w [(.int .i64 a_.1), (.slice pa0 pn0 pc0)] 24
  refine pl_val (w' := w2) (.pointer (some ⟨g2, 0, none⟩)) (y_box rfl (by rw [ew2, eg2]; kernel_rfl)) ?_
  have h0 := h0.ext hC2
  have hC := hC.ext hC2
  have hO := hO.new (X' := [g2]) hC2 (fun q hq => by rw [List.mem_singleton.1 hq, eg2]; exact Nat.le_refl _) (List.nodup_cons.2 ⟨(fun h => nomatch h), List.nodup_nil⟩) (fun q hq => by rw [List.mem_singleton.1 hq]; exact hb2.lt)
  refine pl_val (.int .i64 0) (y_assign rfl) ?_
  refine c_nil ?_
  refine c_seq ?_
  refine c_region ?_
  refine pl_val (.pointer (some ⟨g2, 1, none⟩)) (y_faddr rfl Fa24x1) ?_
  refine pl_val (.slice pa0 pn0 pc0) (y_load rfl ((box_load Ag22 Sz22 hb2 [(.int .i64 a_.1)] [(.slice pa0 pn0 pc0)] [] rfl rfl (fun _ => rfl)) _ (Chg.refl _ _))) ?_
  refine pl_val (.int .i64 k) (y_move rfl) ?_
  have hO := hO.fr1
  have hL3 := hO
  have hI3 := Own.lend (F := (pf0 ++ ([]))) (R := ([g2]) ++ ([])) (Own.perm (hL3) (by simp))
  obtain ⟨r4, hr4, hs⟩ := bind_some hs
  refine pl_call Bd36 rfl (c_laws_markIntS (M := M) a_.2 k h0 hI3 hI3.fut hr4) ?_
  rintro _ w3 ⟨fi3x0, rfl, hC3, hvi3x0, hOc3⟩
  have hO := hO.perm (R := (pf0 ++ ([])) ++ (([g2]) ++ ([]))) (by simp)
  have hb2 := hb2.chg hC3 (fun hg => hO.apart _ ((fun _ h => h) _ hg) (mem_l (List.mem_singleton.2 rfl)))
  have hC := hC.step hC3 (fun g hg => hO.inN g ((fun _ h => h) g hg))
  have hO := Own.join hO hC3 hOc3
  have hO := hO.perm (R := fi3x0 ++ (([g2]) ++ ([]))) (by simp)
  refine pl_val (.int .i64 r4.1) (y_assign rfl) ?_
  refine c_nil ?_
  refine c_seq ?_
  refine c_region ?_
  refine pl_val (.int .i64 r4.1) (y_move rfl) ?_
  refine pl_val (.int .i64 r4.1) (y_assign rfl) ?_
  refine c_nil ?_
  refine wp_ret ?_
  cases hs
  have hO := hO.fr1
  have hO := hO.drop
  exact ⟨_, fi3x0, fr_ovl 10 ⟨rfl, trivial⟩, hC, hvi3x0, hO.top⟩

def k_laws_heldIntS (M : Nat → Prop) (w0 : World) (r : Int) (a : Act) (w : World) : Prop :=
  ∃ (σ : Nat → Value) , a = fr 21 (ovl σ [(4, (.int .i64 r))]) ∧ Chg [] w0 w
def s_laws_heldIntS (a_ : List Int) (k : Int) : Option (Int) :=
  (forC (S := Int) (R := Int) (fun k7 s5 =>
  (idx a_ k7).bind fun x11 =>
  (bif (x11 != s5) then some (.rt (-1)) else some (.nx (w64 (s5 + 1))))) 0 (a_.length : Int) k).bind fun o9 => after o9 (fun r_ => some r_) (fun s5 =>
  some s5)
set_option maxHeartbeats 4000000 in
theorem c_laws_heldIntS {M : Nat → Prop} {w : World} {pa0 : Option Addr} {pn0 pc0 : Nat} (a_ : List Int) (k : Int) (h0 : (RT.rs (RT.int .i64)).val M w (.slice pa0 pn0 pc0) a_ ([])) (hM : ∀ g, w.heap.size ≤ g → M g) {r : Int} (hs : s_laws_heldIntS a_ k = some r) :
    Gives Try.prog 37 [(.slice pa0 pn0 pc0), (.int .i64 k)] w (fun v w' => v = (.int .i64 r) ∧ Chg [] w w') := by
  refine calls_fr Try.func37 rfl Try.ntmps37 (Nat.le_of_ble_eq_true rfl) ?_
  have hO := Own.start (N := Nw w []) hM Nw.fut
  have hC := Chg.refl [] w
  unfold s_laws_heldIntS at hs
  refine wp_mono (Q := KPost (k_laws_heldIntS M w r)) ?_ (fun e a w1 h => ?_)
  rotate_left
  · cases e
    case ret =>
      obtain ⟨σ, rfl, hrest⟩ := h
      exact ret1x Try.results37 (res_tmp rfl) ⟨rfl, hrest⟩
    all_goals exact (h : False).elim
  refine c_seq ?_
  refine c_region ?_
  refine pl_val (.int .i64 0) (y_assign rfl) ?_
  refine c_nil ?_
  refine c_seq ?_
  refine c_seq ?_
  refine c_region ?_
  refine pl_val (.int .i64 0) (y_assign rfl) ?_
  refine c_nil ?_
  obtain ⟨o9, hl10, hs⟩ := bind_some hs
  refine wp_block ?_
  refine wp_forC (id := 0) (a_.length : Int) (I := fun k7 s5 a w6 => ∃ (σ : Nat → Value), a = fr 21 (ovl σ [(0, (.slice pa0 pn0 pc0)), (1, (.int .i64 s5)), (5, (.int .i64 k7))]) ∧ Chg [] w w6 ∧ Own (Nw w []) M w6 ([]) ∧ (RT.rs (RT.int .i64)).val M w6 (.slice pa0 pn0 pc0) a_ ([])) (J := fun s5 a w6 => ∃ (σ : Nat → Value), a = fr 21 (ovl σ [(1, (.int .i64 s5))]) ∧ Chg [] w w6 ∧ Own (Nw w []) M w6 ([]) ∧ (RT.rs (RT.int .i64)).val M w6 (.slice pa0 pn0 pc0) a_ ([])) (K := (k_laws_heldIntS M w)) ?_ ?_ 0 k o9 _ _ ?_ hl10 ?_
  · rintro k7 s5 a w6 ⟨σ, rfl, hC, hO, h0⟩ hlt
    refine c_seq ?_
    refine c_seq ?_
    refine c_region ?_
    refine pl_val (.int .i64 k7) (y_move rfl) ?_
    refine pl_val (.slice pa0 pn0 pc0) (y_move rfl) ?_
    refine pl_val (.int .i64 (a_.length : Int)) (y_len' Sl22 (rs_len h0) rfl) ?_
    refine pl_val (.bool (decide (k7 < (a_.length : Int)))) (y_lss rfl rfl) ?_
    refine c_nil ?_
    refine c_condF (congrArg Value.bool (decide_eq_false hlt)) ?_
    refine wp_exit ?_
    exact ⟨rfl, _, fr_ovl 21 ⟨rfl, trivial⟩, hC, hO, h0⟩
  · rintro k7 s5 o9 a w6 ⟨σ, rfl, hC, hO, h0⟩ hlt hw hs
    refine c_seq ?_
    refine c_seq ?_
    refine c_region ?_
    refine pl_val (.int .i64 k7) (y_move rfl) ?_
    refine pl_val (.slice pa0 pn0 pc0) (y_move rfl) ?_
    refine pl_val (.int .i64 (a_.length : Int)) (y_len' Sl22 (rs_len h0) rfl) ?_
    refine pl_val (.bool (decide (k7 < (a_.length : Int)))) (y_lss rfl rfl) ?_
    refine c_nil ?_
    refine c_condT (congrArg Value.bool (decide_eq_true hlt)) ?_
    refine wp_skip ?_
    refine c_seq ?_
    refine wp_block ?_
    refine c_seq ?_
    refine c_seq ?_
    refine c_region ?_
    refine pl_val (.slice pa0 pn0 pc0) (y_move rfl) ?_
    refine pl_val (.int .i64 k7) (y_move rfl) ?_
    obtain ⟨x11, hx11, hs⟩ := bind_some hs
    obtain ⟨b12, o12, hp12, ha12⟩ := rs_idx Sl22 Sz3 h0 hx11
    refine pl_val (.pointer (some ⟨b12, o12, none⟩)) (hp12 _ _ _ _ _ _ _ _ _ rfl rfl) ?_
    refine pl_val (.int .i64 x11) (y_load rfl ((at_load_int Ag3 Sz3 ha12) _ (Chg.refl _ _))) ?_
    refine pl_val (.int .i64 s5) (y_move rfl) ?_
    refine pl_val (.bool (x11 != s5)) (y_neq rfl rfl) ?_
    refine c_nil ?_
    rcases bif_some hs with ⟨hc13, hs⟩ | ⟨hc13, hs⟩
    · skip
      refine c_condT (congrArg Value.bool hc13) ?_
      refine c_seq ?_
      refine c_region ?_
      refine pl_val (.int .i64 (-1)) (y_assign rfl) ?_
      refine c_nil ?_
      refine wp_ret ?_
      cases hs
      exact ⟨_, fr_ovl 21 ⟨rfl, trivial⟩, hC⟩
    · skip
      refine c_condF (congrArg Value.bool hc13) ?_
      refine wp_skip ?_
      refine c_region ?_
      refine pl_val (.int .i64 s5) (y_move rfl) ?_
      refine pl_val (.int .i64 (w64 (s5 + 1))) (y_add rfl rfl) ?_
      refine pl_val (.int .i64 (w64 (s5 + 1))) (y_assign rfl) ?_
      refine c_nil ?_
      refine c_region ?_
      refine pl_val (.int .i64 k7) (y_move rfl) ?_
      refine pl_val (.int .i64 (w64 (k7 + 1))) (y_add rfl rfl) ?_
      refine pl_val (.int .i64 (w64 (k7 + 1))) (y_assign rfl) ?_
      refine c_nil ?_
      cases hs
      exact ⟨_, fr_ovl 21 ⟨rfl, rfl, congrArg (Value.int .i64) hw, trivial⟩, hC, hO, h0⟩
  · skip
    exact ⟨_, fr_ovl 21 ⟨rfl, rfl, rfl, trivial⟩, hC, hO, h0⟩
  · cases o9 with
    | nx _ => exact True.intro
    | rt r_ =>
      have hs := after_rt hs
      intro a1 w1 hK
      cases hs
      exact hK
    | br s5 =>
      have hs := after_br hs
      rintro a1 w6 ⟨σ, rfl, hC, hO, h0⟩
      refine c_seq ?_
      refine c_region ?_
      refine pl_val (.int .i64 s5) (y_move rfl) ?_
      refine pl_val (.int .i64 s5) (y_assign rfl) ?_
      refine c_nil ?_
      refine wp_ret ?_
      cases hs
      exact ⟨_, fr_ovl 21 ⟨rfl, trivial⟩, hC⟩

theorem Bd37 : Bodied Try.prog 37 := bodied Try.func37 (by kernel_rfl) rfl

def k_laws_heldOp (M : Nat → Prop) (w0 : World) (r : Int) (a : Act) (w : World) : Prop :=
  ∃ (σ : Nat → Value) , a = fr 12 (ovl σ [(4, (.int .i64 r))]) ∧ Chg [] w0 w
def s_laws_heldOp (a_ : Int × (List Int)) (k : Int) : Option (Int) :=
  (s_laws_heldIntS a_.2 k).bind fun r4 =>
  (bif (decide (r4 < 0)) then some (-1) else some r4)
set_option maxHeartbeats 4000000 in
theorem c_laws_heldOp {M : Nat → Prop} {w : World} {pa0 : Option Addr} {pn0 pc0 : Nat} (a_ : Int × (List Int)) (k : Int) (h0 : (RT.rs (RT.int .i64)).val M w (.slice pa0 pn0 pc0) a_.2 ([])) (hM : ∀ g, w.heap.size ≤ g → M g) {r : Int} (hs : s_laws_heldOp a_ k = some r) :
    Gives Try.prog 14 [(.agg #[(.int .i64 a_.1), (.slice pa0 pn0 pc0)]), (.int .i64 k)] w (fun v w' => v = (.int .i64 r) ∧ Chg [] w w') := by
  refine calls_fr Try.func14 rfl Try.ntmps14 (Nat.le_of_ble_eq_true rfl) ?_
  have hO := Own.start (N := Nw w []) hM Nw.fut
  have hC := Chg.refl [] w
  unfold s_laws_heldOp at hs
  refine wp_mono (Q := KPost (k_laws_heldOp M w r)) ?_ (fun e a w1 h => ?_)
  rotate_left
  · cases e
    case ret =>
      obtain ⟨σ, rfl, hrest⟩ := h
      exact ret1x Try.results14 (res_tmp rfl) ⟨rfl, hrest⟩
    all_goals exact (h : False).elim
  refine c_seq ?_
  refine c_region ?_
  obtain ⟨w2, g2, ew2, eg2, hC2, hb2⟩ := new_block w [(.int .i64 a_.1), (.slice pa0 pn0 pc0)] 24
  refine pl_val (w' := w2) (.pointer (some ⟨g2, 0, none⟩)) (y_box rfl (by rw [ew2, eg2]; kernel_rfl)) ?_
  have h0 := h0.ext hC2
  have hC := hC.ext hC2
  have hO := hO.new (X' := [g2]) hC2 (fun q hq => by rw [List.mem_singleton.1 hq, eg2]; exact Nat.le_refl _) (List.nodup_cons.2 ⟨(fun h => nomatch h), List.nodup_nil⟩) (fun q hq => by rw [List.mem_singleton.1 hq]; exact hb2.lt)
  refine pl_val (.int .i64 0) (y_assign rfl) ?_
  refine c_nil ?_
  refine c_seq ?_
  refine c_region ?_
  refine pl_val (.pointer (some ⟨g2, 1, none⟩)) (y_faddr rfl Fa24x1) ?_
  refine pl_val (.slice pa0 pn0 pc0) (y_load rfl ((box_load Ag22 Sz22 hb2 [(.int .i64 a_.1)] [(.slice pa0 pn0 pc0)] [] rfl rfl (fun _ => rfl)) _ (Chg.refl _ _))) ?_
  refine pl_val (.int .i64 k) (y_move rfl) ?_
  obtain ⟨r4, hr4, hs⟩ := bind_some hs
  refine pl_call Bd37 rfl (c_laws_heldIntS (M := M) a_.2 k h0 hO.fut hr4) ?_
  rintro _ w3 ⟨rfl, hC3⟩
  have h0 := h0.ext hC3
  have hb2 := hb2.chg hC3 (fun h => nomatch h)
  have hC := hC.ext hC3
  have hO := hO.ext hC3
  refine pl_val (.int .i64 r4) (y_assign rfl) ?_
  refine c_nil ?_
  refine c_seq ?_
  refine c_seq ?_
  refine c_region ?_
  refine pl_val (.int .i64 r4) (y_move rfl) ?_
  refine pl_val (.bool (decide (r4 < 0))) (y_lss rfl rfl) ?_
  refine c_nil ?_
  rcases bif_some hs with ⟨hc5, hs⟩ | ⟨hc5, hs⟩
  · skip
    refine c_condT (congrArg Value.bool hc5) ?_
    refine c_seq ?_
    refine c_region ?_
    refine pl_val (.int .i64 (-1)) (y_assign rfl) ?_
    refine c_nil ?_
    refine wp_ret ?_
    cases hs
    exact ⟨_, fr_ovl 12 ⟨rfl, trivial⟩, hC⟩
  · skip
    refine c_condF (congrArg Value.bool hc5) ?_
    refine wp_skip ?_
    refine c_seq ?_
    refine c_region ?_
    refine pl_val (.int .i64 r4) (y_move rfl) ?_
    refine pl_val (.int .i64 r4) (y_assign rfl) ?_
    refine c_nil ?_
    refine wp_ret ?_
    cases hs
    exact ⟨_, fr_ovl 12 ⟨rfl, trivial⟩, hC⟩

theorem Ag30 : AggT Try.prog 30 true := fun _ => by kernel_rfl

theorem Sz30 : SzT Try.prog 30 2 := ⟨_, rfl, rfl⟩

theorem Bd17 : Bodied Try.prog 17 := bodied Try.func17 (by kernel_rfl) rfl

theorem Bd19 : Bodied Try.prog 19 := bodied Try.func19 (by kernel_rfl) rfl

theorem Bd21 : Bodied Try.prog 21 := bodied Try.func21 (by kernel_rfl) rfl

theorem Bd22 : Bodied Try.prog 22 := bodied Try.func22 (by kernel_rfl) rfl

theorem Bd12 : Bodied Try.prog 12 := bodied Try.func12 (by kernel_rfl) rfl

theorem Bd13 : Bodied Try.prog 13 := bodied Try.func13 (by kernel_rfl) rfl

theorem Bd14 : Bodied Try.prog 14 := bodied Try.func14 (by kernel_rfl) rfl

end Go.Proofs
