/- What functions of the program compute, as plain functions, and that a call gives just that. Conditions: those named in each theorem. -/
import Derived.Test.YtceenhnjdnggjaaF0
set_option linter.unusedVariables false
namespace Go.Proofs
open Go.G Go.RowKit
set_option maxRecDepth 100000

def k_spec_l19Copy (M : Nat → Prop) (w0 : World) (r : (List ((List Int) × (Int × (List (List Int)))))) (a : Act) (w : World) : Prop :=
  ∃ (σ : Nat → Value) (ra0 : Option Addr) (rn0 rc0 : Nat) (rf0 : List Nat), a = fr 62 (ovl σ [(2, (.slice ra0 rn0 rc0))]) ∧ Chg [] w0 w ∧ (RT.os 108 (RT.pr (RT.os 3 (RT.int .i64)) (RT.pr (RT.int .i64) (RT.os 22 (RT.os 3 (RT.int .i64)))))).val M w (.slice ra0 rn0 rc0) r rf0 ∧ Own (Nw w0 []) (fun _ => True) w (rf0 ++ ([]))
def s_spec_l19Copy (list : List ((List Int) × (Int × (List (List Int))))) : Option ((List ((List Int) × (Int × (List (List Int)))))) :=
  (forC (S := (List ((List Int) × (Int × (List (List Int)))))) (R := (List ((List Int) × (Int × (List (List Int)))))) (fun k198 s196 =>
  (idx list k198).bind fun x207 =>
  (idx list k198).bind fun x212 =>
  (s_spec_l1Own x207.1).bind fun r217 =>
  (iter (S := Int × (List (List Int))) (R := (List ((List Int) × (Int × (List (List Int)))))) (fun s354 =>
  (idx list k198).bind fun x364 =>
  (bif (decide (s354.1 < (x364.2.2.length : Int))) then (idx list k198).bind fun x372 =>
  (idx x372.2.2 s354.1).bind fun x378 =>
  (s_spec_l1Own x378).bind fun r383 =>
  (app s354.2 ([r383])).bind fun y388 =>
  some (.nx (w64 (s354.1 + 1), y388)) else some (.br (s354.1, s354.2)))) FU (0, [])).bind fun o358 => after o358 (fun r_ => some (.rt r_)) (fun s354 =>
  (app s196 ([(r217, (x212.2.1, s354.2))])).bind fun y394 =>
  some (.nx y394))) 0 (list.length : Int) ([])).bind fun o200 => after o200 (fun r_ => some r_) (fun s196 =>
  some s196)
set_option maxHeartbeats 4000000 in
theorem c_spec_l19Copy {M : Nat → Prop} {w : World} {pa0 : Option Addr} {pn0 pc0 : Nat} (list : List ((List Int) × (Int × (List (List Int))))) (h0 : (RT.rs (RT.pr (RT.rs (RT.int .i64)) (RT.pr (RT.int .i64) (RT.rs (RT.rs (RT.int .i64)))))).val M w (.slice pa0 pn0 pc0) list ([])) (hM : ∀ g, w.heap.size ≤ g → M g) {r : (List ((List Int) × (Int × (List (List Int)))))} (hs : s_spec_l19Copy list = some r) :
    Gives Try.prog 132 [(.slice pa0 pn0 pc0)] w (fun v w' => ∃ (ra0 : Option Addr) (rn0 rc0 : Nat) (rf0 : List Nat), v = (.slice ra0 rn0 rc0) ∧ Chg [] w w' ∧ (RT.os 108 (RT.pr (RT.os 3 (RT.int .i64)) (RT.pr (RT.int .i64) (RT.os 22 (RT.os 3 (RT.int .i64)))))).val M w' (.slice ra0 rn0 rc0) r rf0 ∧ Own (Nw w []) (fun _ => True) w' (rf0 ++ ([]))) := by
  refine calls_fr Try.func132 rfl Try.ntmps132 (Nat.le_of_ble_eq_true rfl) ?_
  have hO := Own.start (N := Nw w []) hM Nw.fut
  have hC := Chg.refl [] w
  unfold s_spec_l19Copy at hs
  refine wp_mono (Q := KPost (k_spec_l19Copy M w r)) ?_ (fun e a w1 h => ?_)
  rotate_left
  · cases e
    case ret =>
      obtain ⟨σ, ra0, rn0, rc0, rf0, rfl, hrest⟩ := h
      exact ret1x Try.results132 (res_tmp rfl) ⟨ra0, rn0, rc0, rf0, rfl, hrest⟩
    all_goals exact (h : False).elim
  refine c_seq ?_
  refine c_region ?_
  refine pl_val (.slice none 0 0) (y_assign rfl) ?_
  refine c_nil ?_
  refine c_seq ?_
  refine c_region ?_
  obtain ⟨w2, g2, ew2, eg2, hC2, hb2⟩ := new_block w [] 108
  refine pl_val (w' := w2) (.slice (some ⟨g2, 0, none⟩) 0 0) (y_bslice rfl (by rw [ew2, eg2]; kernel_rfl)) ?_
  have h0 := h0.ext hC2
  have hC := hC.ext hC2
  have hO := hO.new (X' := [g2]) hC2 (fun q hq => by rw [List.mem_singleton.1 hq, eg2]; exact Nat.le_refl _) (List.nodup_cons.2 ⟨(fun h => nomatch h), List.nodup_nil⟩) (fun q hq => by rw [List.mem_singleton.1 hq]; exact hb2.lt)
  have hv2 := os_of_box (r := (RT.pr (RT.os 3 (RT.int .i64)) (RT.pr (RT.int .i64) (RT.os 22 (RT.os 3 (RT.int .i64)))))) (M := M) (css := []) (fps := []) (xs := ([] : List ((List Int) × (Int × (List (List Int)))))) hb2 trivial (Nat.zero_le _) (List.nodup_cons.2 ⟨(fun h => nomatch h), List.nodup_nil⟩)
  have hv2 : (RT.os 108 (RT.pr (RT.os 3 (RT.int .i64)) (RT.pr (RT.int .i64) (RT.os 22 (RT.os 3 (RT.int .i64)))))).val M w2 (.slice (some ⟨g2, 0, none⟩) 0 0) [] [g2] := hv2
  refine pl_val (.slice (some ⟨g2, 0, none⟩) 0 0) (y_assign rfl) ?_
  refine c_nil ?_
  refine c_seq ?_
  refine c_seq ?_
  refine c_region ?_
  refine pl_val (.int .i64 0) (y_assign rfl) ?_
  refine c_nil ?_
  obtain ⟨o200, hl201, hs⟩ := bind_some hs
  refine wp_block ?_
  refine wp_forC (id := 0) (list.length : Int) (I := fun k198 s196 a w197 => ∃ (σ : Nat → Value) (a202 : Option Addr) (n202 : Nat) (c202 : Nat) (f202 : List Nat), a = fr 62 (ovl σ [(0, (.slice pa0 pn0 pc0)), (3, (.slice a202 n202 c202)), (4, (.int .i64 k198))]) ∧ Chg [] w w197 ∧ Own (Nw w []) M w197 (f202 ++ []) ∧ (RT.rs (RT.pr (RT.rs (RT.int .i64)) (RT.pr (RT.int .i64) (RT.rs (RT.rs (RT.int .i64)))))).val M w197 (.slice pa0 pn0 pc0) list ([]) ∧ (RT.os 108 (RT.pr (RT.os 3 (RT.int .i64)) (RT.pr (RT.int .i64) (RT.os 22 (RT.os 3 (RT.int .i64)))))).val M w197 (.slice a202 n202 c202) s196 f202) (J := fun s196 a w197 => ∃ (σ : Nat → Value) (a204 : Option Addr) (n204 : Nat) (c204 : Nat) (f204 : List Nat), a = fr 62 (ovl σ [(3, (.slice a204 n204 c204))]) ∧ Chg [] w w197 ∧ Own (Nw w []) M w197 (f204 ++ []) ∧ (RT.rs (RT.pr (RT.rs (RT.int .i64)) (RT.pr (RT.int .i64) (RT.rs (RT.rs (RT.int .i64)))))).val M w197 (.slice pa0 pn0 pc0) list ([]) ∧ (RT.os 108 (RT.pr (RT.os 3 (RT.int .i64)) (RT.pr (RT.int .i64) (RT.os 22 (RT.os 3 (RT.int .i64)))))).val M w197 (.slice a204 n204 c204) s196 f204) (K := (k_spec_l19Copy M w)) ?_ ?_ 0 ([]) o200 _ _ ?_ hl201 ?_
  · rintro k198 s196 a w197 ⟨σ, a202, n202, c202, f202, rfl, hC, hO, h0, hv202⟩ hlt
    refine c_seq ?_
    refine c_seq ?_
    refine c_region ?_
    refine pl_val (.int .i64 k198) (y_move rfl) ?_
    refine pl_val (.slice pa0 pn0 pc0) (y_move rfl) ?_
    refine pl_val (.int .i64 (list.length : Int)) (y_len' Sl47 (rs_len h0) rfl) ?_
    refine pl_val (.bool (decide (k198 < (list.length : Int)))) (y_lss rfl rfl) ?_
    refine c_nil ?_
    refine c_condF (congrArg Value.bool (decide_eq_false hlt)) ?_
    refine wp_exit ?_
    exact ⟨rfl, _, a202, n202, c202, f202, fr_ovl 62 ⟨rfl, trivial⟩, hC, hO, h0, hv202⟩
  · rintro k198 s196 o200 a w197 ⟨σ, a202, n202, c202, f202, rfl, hC, hO, h0, hv202⟩ hlt hw hs
    refine c_seq ?_
    refine c_seq ?_
    refine c_region ?_
    refine pl_val (.int .i64 k198) (y_move rfl) ?_
    refine pl_val (.slice pa0 pn0 pc0) (y_move rfl) ?_
    refine pl_val (.int .i64 (list.length : Int)) (y_len' Sl47 (rs_len h0) rfl) ?_
    refine pl_val (.bool (decide (k198 < (list.length : Int)))) (y_lss rfl rfl) ?_
    refine c_nil ?_
    refine c_condT (congrArg Value.bool (decide_eq_true hlt)) ?_
    refine wp_skip ?_
    refine c_seq ?_
    refine wp_block ?_
    refine c_seq ?_
    obtain ⟨x207, hx207, hs⟩ := bind_some hs
    obtain ⟨x212, hx212, hs⟩ := bind_some hs
    obtain ⟨r217, hr217, hs⟩ := bind_some hs
    refine c_mid (I := fun a w222 => ∃ (σ : Nat → Value) (a216x0 : Option Addr) (c216x0 : Nat) (f216x0 : List Nat) (g219 : Nat) (g221 : Nat) (n216x0 : Nat), a = fr 62 (ovl σ [(0, (.slice pa0 pn0 pc0)), (3, (.slice a202 n202 c202)), (4, (.int .i64 k198)), (5, (.pointer (some ⟨g221, 0, none⟩)))]) ∧ Chg [] w w222 ∧ Own (Nw w []) M w222 (([g221]) ++ (([g219]) ++ (f216x0 ++ (f202 ++ [])))) ∧ (RT.rs (RT.pr (RT.rs (RT.int .i64)) (RT.pr (RT.int .i64) (RT.rs (RT.rs (RT.int .i64)))))).val M w222 (.slice pa0 pn0 pc0) list ([]) ∧ (RT.os 108 (RT.pr (RT.os 3 (RT.int .i64)) (RT.pr (RT.int .i64) (RT.os 22 (RT.os 3 (RT.int .i64)))))).val M w222 (.slice a202 n202 c202) s196 f202 ∧ (RT.os 3 (RT.int .i64)).val M w222 (.slice a216x0 n216x0 c216x0) r217 f216x0 ∧ (RT.os 22 (RT.os 3 (RT.int .i64))).val M w222 (.slice (some ⟨g219, 0, none⟩) 0 0) ([]) ([g219]) ∧ BoxV w222 g221 108 [(.slice a216x0 n216x0 c216x0), (.int .i64 x212.2.1), (.slice (some ⟨g219, 0, none⟩) 0 0)]) ?_ ?_
    · skip
      refine x_start [16] Mx rfl ?_
      have hCw252 := Chg.drew w197
      generalize World.drew w197 = w252 at hCw252 ⊢
      have h0 := h0.ext hCw252
      have hv202 := hv202.ext hCw252
      have hC := hC.ext hCw252
      have hO := hO.ext hCw252
      have hS := Chg.refl [] w252
      refine x_p 0 (.slice pa0 pn0 pc0) rfl (by kernel_rfl)  (fun _ => y_move rfl) (fun _ => hS) ?_
      refine x_p 1 (.int .i64 k198) rfl (by kernel_rfl)  (fun _ => y_move rfl) (fun _ => hS) ?_
      obtain ⟨b254, o254, hp254, ha254⟩ := rs_idx Sl47 Sz108 h0 hx207
      refine x_p 2 (.pointer (some ⟨b254, o254, none⟩)) rfl (by kernel_rfl)  (fun _ => hp254 _ _ _ _ _ _ _ _ _ rfl rfl) (fun _ => hS) ?_
      obtain ⟨hq255, _⟩ := pr_at ha254
      refine x_p 3 (.pointer (some ⟨b254, o254 + 0, none⟩)) rfl (by kernel_rfl)  (fun _ => y_faddr rfl Fa108x0) (fun _ => hS) ?_
      obtain ⟨v256, hl256, hv256⟩ := at_load Ag22 Sz22 (fun _ => rfl) hq255
      obtain ⟨a256, n256, c256, rfl⟩ := rs_sl hv256
      refine x_l 4 (.slice a256 n256 c256) rfl (by kernel_rfl)  (fun w' hw' => y_load rfl (hl256 w' hw')) hS ?_
      refine x_p 6 (.slice pa0 pn0 pc0) rfl (by kernel_rfl)  (fun _ => y_move rfl) (fun _ => hS) ?_
      refine x_p 7 (.int .i64 k198) rfl (by kernel_rfl)  (fun _ => y_move rfl) (fun _ => hS) ?_
      obtain ⟨b259, o259, hp259, ha259⟩ := rs_idx Sl47 Sz108 h0 hx212
      refine x_p 8 (.pointer (some ⟨b259, o259, none⟩)) rfl (by kernel_rfl)  (fun _ => hp259 _ _ _ _ _ _ _ _ _ rfl rfl) (fun _ => hS) ?_
      obtain ⟨_, hq260x0⟩ := pr_at ha259
      refine x_p 9 (.pointer (some ⟨b259, o259 + 1, none⟩)) rfl (by kernel_rfl)  (fun _ => y_faddr rfl Fa108x1) (fun _ => hS) ?_
      obtain ⟨hq261, _⟩ := pr_at hq260x0
      refine x_p 10 (.pointer (some ⟨b259, (o259 + 1) + 0, none⟩)) rfl (by kernel_rfl)  (fun _ => y_faddr rfl Fa31x0) (fun _ => hS) ?_
      refine x_l 11 (.int .i64 x212.2.1) rfl (by kernel_rfl)  (fun w' hw' => y_load rfl ((at_load_int Ag3 Sz3 hq261) w' hw')) hS ?_
      refine x_many [5, 12, 15] (by kernel_rfl) (fun h => nomatch h) (all3 ?_ ?_ ?_)
      · skip
        refine xk_call (b := false) rfl  Bd169 rfl (c_spec_l1Own (M := M) x207.1 hv256 hO.fut hr217) rfl (by rintro _ _ _ ⟨a262x0, n262x0, c262x0, f262x0, rfl, hC262, hv262x0, hOc262⟩; exact hS.ext hC262) ?_
        rintro _ w262 ⟨a262x0, n262x0, c262x0, f262x0, rfl, hC262, hv262x0, hOc262⟩
        have h0 := h0.ext hC262
        have hv202 := hv202.ext hC262
        have hv256 := hv256.ext hC262
        have hC := hC.ext hC262
        have hO := Own.join0 hO hC262 hOc262
        have hO := hO.perm (R := f262x0 ++ (f202 ++ ([]))) (by simp)
        have hS := hS.ext hC262
        refine x_two (i := 12) (j := 15) (by kernel_rfl) ?_ ?_
        · skip
          obtain ⟨w265, g265, ew265, eg265, hC265, hb265⟩ := new_block w262 [] 22
          refine xk_val (w' := w265) (b := false) (.slice (some ⟨g265, 0, none⟩) 0 0) rfl  (y_bslice rfl (by rw [ew265, eg265]; kernel_rfl)) rfl (fun _ => hS.ext hC265) ?_
          have h0 := h0.ext hC265
          have hv202 := hv202.ext hC265
          have hv256 := hv256.ext hC265
          have hv262x0 := hv262x0.ext hC265
          have hC := hC.ext hC265
          have hO := hO.new (X' := [g265]) hC265 (fun q hq => by rw [List.mem_singleton.1 hq, eg265]; exact Nat.le_refl _) (List.nodup_cons.2 ⟨(fun h => nomatch h), List.nodup_nil⟩) (fun q hq => by rw [List.mem_singleton.1 hq]; exact hb265.lt)
          have hv265 := os_of_box (r := (RT.os 3 (RT.int .i64))) (M := M) (css := []) (fps := []) (xs := ([] : List (List Int))) hb265 trivial (Nat.zero_le _) (List.nodup_cons.2 ⟨(fun h => nomatch h), List.nodup_nil⟩)
          have hv265 : (RT.os 22 (RT.os 3 (RT.int .i64))).val M w265 (.slice (some ⟨g265, 0, none⟩) 0 0) [] [g265] := hv265
          have hS := hS.ext hC265
          refine x_p 13 (.agg #[(.int .i64 x212.2.1), (.slice (some ⟨g265, 0, none⟩) 0 0)]) rfl (by kernel_rfl)  (fun _ => y_build rfl (by kernel_rfl)) (fun _ => hS) ?_
          refine x_p 14 (.agg #[(.slice a262x0 n262x0 c262x0), (.int .i64 x212.2.1), (.slice (some ⟨g265, 0, none⟩) 0 0)]) rfl (by kernel_rfl)  (fun _ => y_build rfl (by kernel_rfl)) (fun _ => hS) ?_
          refine x_one (i := 15) (by kernel_rfl) ?_
          obtain ⟨w267, g267, ew267, eg267, hC267, hb267⟩ := new_block w265 [(.slice none 0 0), (.int .i64 0), (.slice none 0 0)] 108
          refine xk_val (w' := w267) (b := false) (.pointer (some ⟨g267, 0, none⟩)) rfl  (y_alloc (by rw [ew267, eg267]; kernel_rfl)) rfl (fun _ => hS.ext hC267) ?_
          have h0 := h0.ext hC267
          have hv202 := hv202.ext hC267
          have hv256 := hv256.ext hC267
          have hv262x0 := hv262x0.ext hC267
          have hv265 := hv265.ext hC267
          have hC := hC.ext hC267
          have hO := hO.new (X' := [g267]) hC267 (fun q hq => by rw [List.mem_singleton.1 hq, eg267]; exact Nat.le_refl _) (List.nodup_cons.2 ⟨(fun h => nomatch h), List.nodup_nil⟩) (fun q hq => by rw [List.mem_singleton.1 hq]; exact hb267.lt)
          have hS := hS.ext hC267
          refine x_one (i := 16) (by kernel_rfl) ?_
          obtain ⟨w268, hst268, hC268, hb268⟩ := box_store (P := Try.prog) hb267 [] [(.slice none 0 0), (.int .i64 0), (.slice none 0 0)] [] [(.slice a262x0 n262x0 c262x0), (.int .i64 x212.2.1), (.slice (some ⟨g265, 0, none⟩) 0 0)] rfl rfl (by intro u hu; simp only [List.mem_cons, List.not_mem_nil, or_false] at hu; rcases hu with rfl | rfl | rfl <;> rfl)
          refine xk_skip (w' := w268) (b := true) rfl (ys_store rfl rfl (hst268 _ _ rfl Sz108)) rfl (fun h => nomatch h) ?_
          have h0 := h0.mut hC268 (fun g hg => hO.inM g ((fun _ h => h) g hg)) (fun _ _ h => nomatch h)
          have hv202 := hv202.mut hC268 (fun g hg => hO.inM g ((fun _ h => h) g hg)) (fun g hg e => hO.apart g ((fun _ h => h) g hg) (mem_r (mem_r (mem_l (e)))))
          have hv256 := hv256.mut hC268 (fun g hg => hO.inM g ((fun _ h => h) g hg)) (fun _ _ h => nomatch h)
          have hv262x0 := hv262x0.mut hC268 (fun g hg => hO.inM g ((fun _ h => h) g hg)) (fun g hg e => hO.apart g ((fun _ h => h) g hg) (mem_r (mem_l (e))))
          have hv265 := hv265.mut hC268 (fun g hg => hO.inM g ((fun _ h => h) g hg)) (fun g hg e => hO.apart g ((fun _ h => h) g hg) (mem_l (e)))
          have hC := hC.step hC268 (fun g hg => hO.inN g ((fun _ h => h) g hg))
          have hO := hO.ext hC268
          have hb268 : BoxV w268 g267 108 [(.slice a262x0 n262x0 c262x0), (.int .i64 x212.2.1), (.slice (some ⟨g265, 0, none⟩) 0 0)] := hb268
          refine x_end (by kernel_rfl) ?_
          clear hS
          have hO := hO.fr3
          have hO := hO.fr3
          have hO := hO.fr3
          have hO := hO.fr3
          exact ⟨_, a262x0, c262x0, f262x0, g265, g267, n262x0, fr_ovl 62 ⟨rfl, rfl, rfl, rfl, trivial⟩, hC, hO, h0, hv202, hv262x0, hv265, hb268⟩
        · skip
          obtain ⟨w269, g269, ew269, eg269, hC269, hb269⟩ := new_block w262 [(.slice none 0 0), (.int .i64 0), (.slice none 0 0)] 108
          refine xk_val (w' := w269) (b := false) (.pointer (some ⟨g269, 0, none⟩)) rfl  (y_alloc (by rw [ew269, eg269]; kernel_rfl)) rfl (fun _ => hS.ext hC269) ?_
          have h0 := h0.ext hC269
          have hv202 := hv202.ext hC269
          have hv256 := hv256.ext hC269
          have hv262x0 := hv262x0.ext hC269
          have hC := hC.ext hC269
          have hO := hO.new (X' := [g269]) hC269 (fun q hq => by rw [List.mem_singleton.1 hq, eg269]; exact Nat.le_refl _) (List.nodup_cons.2 ⟨(fun h => nomatch h), List.nodup_nil⟩) (fun q hq => by rw [List.mem_singleton.1 hq]; exact hb269.lt)
          have hS := hS.ext hC269
          refine x_one (i := 12) (by kernel_rfl) ?_
          obtain ⟨w270, g270, ew270, eg270, hC270, hb270⟩ := new_block w269 [] 22
          refine xk_val (w' := w270) (b := false) (.slice (some ⟨g270, 0, none⟩) 0 0) rfl  (y_bslice rfl (by rw [ew270, eg270]; kernel_rfl)) rfl (fun _ => hS.ext hC270) ?_
          have h0 := h0.ext hC270
          have hv202 := hv202.ext hC270
          have hv256 := hv256.ext hC270
          have hv262x0 := hv262x0.ext hC270
          have hb269 := hb269.chg hC270 (fun h => nomatch h)
          have hC := hC.ext hC270
          have hO := hO.new (X' := [g270]) hC270 (fun q hq => by rw [List.mem_singleton.1 hq, eg270]; exact Nat.le_refl _) (List.nodup_cons.2 ⟨(fun h => nomatch h), List.nodup_nil⟩) (fun q hq => by rw [List.mem_singleton.1 hq]; exact hb270.lt)
          have hv270 := os_of_box (r := (RT.os 3 (RT.int .i64))) (M := M) (css := []) (fps := []) (xs := ([] : List (List Int))) hb270 trivial (Nat.zero_le _) (List.nodup_cons.2 ⟨(fun h => nomatch h), List.nodup_nil⟩)
          have hv270 : (RT.os 22 (RT.os 3 (RT.int .i64))).val M w270 (.slice (some ⟨g270, 0, none⟩) 0 0) [] [g270] := hv270
          have hS := hS.ext hC270
          refine x_p 13 (.agg #[(.int .i64 x212.2.1), (.slice (some ⟨g270, 0, none⟩) 0 0)]) rfl (by kernel_rfl)  (fun _ => y_build rfl (by kernel_rfl)) (fun _ => hS) ?_
          refine x_p 14 (.agg #[(.slice a262x0 n262x0 c262x0), (.int .i64 x212.2.1), (.slice (some ⟨g270, 0, none⟩) 0 0)]) rfl (by kernel_rfl)  (fun _ => y_build rfl (by kernel_rfl)) (fun _ => hS) ?_
          refine x_one (i := 16) (by kernel_rfl) ?_
          obtain ⟨w272, hst272, hC272, hb272⟩ := box_store (P := Try.prog) hb269 [] [(.slice none 0 0), (.int .i64 0), (.slice none 0 0)] [] [(.slice a262x0 n262x0 c262x0), (.int .i64 x212.2.1), (.slice (some ⟨g270, 0, none⟩) 0 0)] rfl rfl (by intro u hu; simp only [List.mem_cons, List.not_mem_nil, or_false] at hu; rcases hu with rfl | rfl | rfl <;> rfl)
          refine xk_skip (w' := w272) (b := true) rfl (ys_store rfl rfl (hst272 _ _ rfl Sz108)) rfl (fun h => nomatch h) ?_
          have hO := hO.fr1
          have h0 := h0.mut hC272 (fun g hg => hO.inM g ((fun _ h => h) g hg)) (fun _ _ h => nomatch h)
          have hv202 := hv202.mut hC272 (fun g hg => hO.inM g ((fun _ h => h) g hg)) (fun g hg e => hO.apart g ((fun _ h => h) g hg) (mem_r (mem_r (mem_l (e)))))
          have hv256 := hv256.mut hC272 (fun g hg => hO.inM g ((fun _ h => h) g hg)) (fun _ _ h => nomatch h)
          have hv262x0 := hv262x0.mut hC272 (fun g hg => hO.inM g ((fun _ h => h) g hg)) (fun g hg e => hO.apart g ((fun _ h => h) g hg) (mem_r (mem_l (e))))
          have hv270 := hv270.mut hC272 (fun g hg => hO.inM g ((fun _ h => h) g hg)) (fun g hg e => hO.apart g ((fun _ h => h) g hg) (mem_l (e)))
          have hC := hC.step hC272 (fun g hg => hO.inN g ((fun _ h => h) g hg))
          have hO := hO.ext hC272
          have hb272 : BoxV w272 g269 108 [(.slice a262x0 n262x0 c262x0), (.int .i64 x212.2.1), (.slice (some ⟨g270, 0, none⟩) 0 0)] := hb272
          refine x_end (by kernel_rfl) ?_
          clear hS
          have hO := hO.fr3
          have hO := hO.fr3
          have hO := hO.fr3
          have hO := hO.fr3
          exact ⟨_, a262x0, c262x0, f262x0, g270, g269, n262x0, fr_ovl 62 ⟨rfl, rfl, rfl, rfl, trivial⟩, hC, hO, h0, hv202, hv262x0, hv270, hb272⟩
      · skip
        obtain ⟨w273, g273, ew273, eg273, hC273, hb273⟩ := new_block w252 [] 22
        refine xk_val (w' := w273) (b := false) (.slice (some ⟨g273, 0, none⟩) 0 0) rfl  (y_bslice rfl (by rw [ew273, eg273]; kernel_rfl)) rfl (fun _ => hS.ext hC273) ?_
        have h0 := h0.ext hC273
        have hv202 := hv202.ext hC273
        have hv256 := hv256.ext hC273
        have hC := hC.ext hC273
        have hO := hO.new (X' := [g273]) hC273 (fun q hq => by rw [List.mem_singleton.1 hq, eg273]; exact Nat.le_refl _) (List.nodup_cons.2 ⟨(fun h => nomatch h), List.nodup_nil⟩) (fun q hq => by rw [List.mem_singleton.1 hq]; exact hb273.lt)
        have hv273 := os_of_box (r := (RT.os 3 (RT.int .i64))) (M := M) (css := []) (fps := []) (xs := ([] : List (List Int))) hb273 trivial (Nat.zero_le _) (List.nodup_cons.2 ⟨(fun h => nomatch h), List.nodup_nil⟩)
        have hv273 : (RT.os 22 (RT.os 3 (RT.int .i64))).val M w273 (.slice (some ⟨g273, 0, none⟩) 0 0) [] [g273] := hv273
        have hS := hS.ext hC273
        refine x_p 13 (.agg #[(.int .i64 x212.2.1), (.slice (some ⟨g273, 0, none⟩) 0 0)]) rfl (by kernel_rfl)  (fun _ => y_build rfl (by kernel_rfl)) (fun _ => hS) ?_
        refine x_two (i := 5) (j := 15) (by kernel_rfl) ?_ ?_
        · skip
          refine xk_call (b := false) rfl  Bd169 rfl (c_spec_l1Own (M := M) x207.1 hv256 hO.fut hr217) rfl (by rintro _ _ _ ⟨a275x0, n275x0, c275x0, f275x0, rfl, hC275, hv275x0, hOc275⟩; exact hS.ext hC275) ?_
          rintro _ w275 ⟨a275x0, n275x0, c275x0, f275x0, rfl, hC275, hv275x0, hOc275⟩
          have h0 := h0.ext hC275
          have hv202 := hv202.ext hC275
          have hv256 := hv256.ext hC275
          have hv273 := hv273.ext hC275
          have hC := hC.ext hC275
          have hO := Own.join0 hO hC275 hOc275
          have hO := hO.perm (R := f275x0 ++ (([g273]) ++ (f202 ++ ([])))) (by simp)
          have hS := hS.ext hC275
          refine x_p 14 (.agg #[(.slice a275x0 n275x0 c275x0), (.int .i64 x212.2.1), (.slice (some ⟨g273, 0, none⟩) 0 0)]) rfl (by kernel_rfl)  (fun _ => y_build rfl (by kernel_rfl)) (fun _ => hS) ?_
          refine x_one (i := 15) (by kernel_rfl) ?_
          obtain ⟨w278, g278, ew278, eg278, hC278, hb278⟩ := new_block w275 [(.slice none 0 0), (.int .i64 0), (.slice none 0 0)] 108
          refine xk_val (w' := w278) (b := false) (.pointer (some ⟨g278, 0, none⟩)) rfl  (y_alloc (by rw [ew278, eg278]; kernel_rfl)) rfl (fun _ => hS.ext hC278) ?_
          have h0 := h0.ext hC278
          have hv202 := hv202.ext hC278
          have hv256 := hv256.ext hC278
          have hv273 := hv273.ext hC278
          have hv275x0 := hv275x0.ext hC278
          have hC := hC.ext hC278
          have hO := hO.new (X' := [g278]) hC278 (fun q hq => by rw [List.mem_singleton.1 hq, eg278]; exact Nat.le_refl _) (List.nodup_cons.2 ⟨(fun h => nomatch h), List.nodup_nil⟩) (fun q hq => by rw [List.mem_singleton.1 hq]; exact hb278.lt)
          have hS := hS.ext hC278
          refine x_one (i := 16) (by kernel_rfl) ?_
          obtain ⟨w279, hst279, hC279, hb279⟩ := box_store (P := Try.prog) hb278 [] [(.slice none 0 0), (.int .i64 0), (.slice none 0 0)] [] [(.slice a275x0 n275x0 c275x0), (.int .i64 x212.2.1), (.slice (some ⟨g273, 0, none⟩) 0 0)] rfl rfl (by intro u hu; simp only [List.mem_cons, List.not_mem_nil, or_false] at hu; rcases hu with rfl | rfl | rfl <;> rfl)
          refine xk_skip (w' := w279) (b := true) rfl (ys_store rfl rfl (hst279 _ _ rfl Sz108)) rfl (fun h => nomatch h) ?_
          have h0 := h0.mut hC279 (fun g hg => hO.inM g ((fun _ h => h) g hg)) (fun _ _ h => nomatch h)
          have hv202 := hv202.mut hC279 (fun g hg => hO.inM g ((fun _ h => h) g hg)) (fun g hg e => hO.apart g ((fun _ h => h) g hg) (mem_r (mem_r (mem_l (e)))))
          have hv256 := hv256.mut hC279 (fun g hg => hO.inM g ((fun _ h => h) g hg)) (fun _ _ h => nomatch h)
          have hv273 := hv273.mut hC279 (fun g hg => hO.inM g ((fun _ h => h) g hg)) (fun g hg e => hO.apart g ((fun _ h => h) g hg) (mem_r (mem_l (e))))
          have hv275x0 := hv275x0.mut hC279 (fun g hg => hO.inM g ((fun _ h => h) g hg)) (fun g hg e => hO.apart g ((fun _ h => h) g hg) (mem_l (e)))
          have hC := hC.step hC279 (fun g hg => hO.inN g ((fun _ h => h) g hg))
          have hO := hO.ext hC279
          have hb279 : BoxV w279 g278 108 [(.slice a275x0 n275x0 c275x0), (.int .i64 x212.2.1), (.slice (some ⟨g273, 0, none⟩) 0 0)] := hb279
          refine x_end (by kernel_rfl) ?_
          clear hS
          have hO := hO.fr3
          have hO := hO.fr2
          have hO := hO.fr3
          have hO := hO.fr3
          exact ⟨_, a275x0, c275x0, f275x0, g273, g278, n275x0, fr_ovl 62 ⟨rfl, rfl, rfl, rfl, trivial⟩, hC, hO, h0, hv202, hv275x0, hv273, hb279⟩
        · skip
          obtain ⟨w280, g280, ew280, eg280, hC280, hb280⟩ := new_block w273 [(.slice none 0 0), (.int .i64 0), (.slice none 0 0)] 108
          refine xk_val (w' := w280) (b := false) (.pointer (some ⟨g280, 0, none⟩)) rfl  (y_alloc (by rw [ew280, eg280]; kernel_rfl)) rfl (fun _ => hS.ext hC280) ?_
          have h0 := h0.ext hC280
          have hv202 := hv202.ext hC280
          have hv256 := hv256.ext hC280
          have hv273 := hv273.ext hC280
          have hC := hC.ext hC280
          have hO := hO.new (X' := [g280]) hC280 (fun q hq => by rw [List.mem_singleton.1 hq, eg280]; exact Nat.le_refl _) (List.nodup_cons.2 ⟨(fun h => nomatch h), List.nodup_nil⟩) (fun q hq => by rw [List.mem_singleton.1 hq]; exact hb280.lt)
          have hS := hS.ext hC280
          refine x_one (i := 5) (by kernel_rfl) ?_
          refine xk_call (b := false) rfl  Bd169 rfl (c_spec_l1Own (M := M) x207.1 hv256 hO.fut hr217) rfl (by rintro _ _ _ ⟨a281x0, n281x0, c281x0, f281x0, rfl, hC281, hv281x0, hOc281⟩; exact hS.ext hC281) ?_
          rintro _ w281 ⟨a281x0, n281x0, c281x0, f281x0, rfl, hC281, hv281x0, hOc281⟩
          have h0 := h0.ext hC281
          have hv202 := hv202.ext hC281
          have hv256 := hv256.ext hC281
          have hv273 := hv273.ext hC281
          have hb280 := hb280.chg hC281 (fun h => nomatch h)
          have hC := hC.ext hC281
          have hO := Own.join0 hO hC281 hOc281
          have hO := hO.perm (R := f281x0 ++ (([g280]) ++ (([g273]) ++ (f202 ++ ([]))))) (by simp)
          have hS := hS.ext hC281
          refine x_p 14 (.agg #[(.slice a281x0 n281x0 c281x0), (.int .i64 x212.2.1), (.slice (some ⟨g273, 0, none⟩) 0 0)]) rfl (by kernel_rfl)  (fun _ => y_build rfl (by kernel_rfl)) (fun _ => hS) ?_
          refine x_one (i := 16) (by kernel_rfl) ?_
          obtain ⟨w284, hst284, hC284, hb284⟩ := box_store (P := Try.prog) hb280 [] [(.slice none 0 0), (.int .i64 0), (.slice none 0 0)] [] [(.slice a281x0 n281x0 c281x0), (.int .i64 x212.2.1), (.slice (some ⟨g273, 0, none⟩) 0 0)] rfl rfl (by intro u hu; simp only [List.mem_cons, List.not_mem_nil, or_false] at hu; rcases hu with rfl | rfl | rfl <;> rfl)
          refine xk_skip (w' := w284) (b := true) rfl (ys_store rfl rfl (hst284 _ _ rfl Sz108)) rfl (fun h => nomatch h) ?_
          have hO := hO.fr1
          have h0 := h0.mut hC284 (fun g hg => hO.inM g ((fun _ h => h) g hg)) (fun _ _ h => nomatch h)
          have hv202 := hv202.mut hC284 (fun g hg => hO.inM g ((fun _ h => h) g hg)) (fun g hg e => hO.apart g ((fun _ h => h) g hg) (mem_r (mem_r (mem_l (e)))))
          have hv256 := hv256.mut hC284 (fun g hg => hO.inM g ((fun _ h => h) g hg)) (fun _ _ h => nomatch h)
          have hv273 := hv273.mut hC284 (fun g hg => hO.inM g ((fun _ h => h) g hg)) (fun g hg e => hO.apart g ((fun _ h => h) g hg) (mem_r (mem_l (e))))
          have hv281x0 := hv281x0.mut hC284 (fun g hg => hO.inM g ((fun _ h => h) g hg)) (fun g hg e => hO.apart g ((fun _ h => h) g hg) (mem_l (e)))
          have hC := hC.step hC284 (fun g hg => hO.inN g ((fun _ h => h) g hg))
          have hO := hO.ext hC284
          have hb284 : BoxV w284 g280 108 [(.slice a281x0 n281x0 c281x0), (.int .i64 x212.2.1), (.slice (some ⟨g273, 0, none⟩) 0 0)] := hb284
          refine x_end (by kernel_rfl) ?_
          clear hS
          have hO := hO.fr3
          have hO := hO.fr2
          have hO := hO.fr3
          have hO := hO.fr3
          exact ⟨_, a281x0, c281x0, f281x0, g273, g280, n281x0, fr_ovl 62 ⟨rfl, rfl, rfl, rfl, trivial⟩, hC, hO, h0, hv202, hv281x0, hv273, hb284⟩
      · skip
        obtain ⟨w285, g285, ew285, eg285, hC285, hb285⟩ := new_block w252 [(.slice none 0 0), (.int .i64 0), (.slice none 0 0)] 108
        refine xk_val (w' := w285) (b := false) (.pointer (some ⟨g285, 0, none⟩)) rfl  (y_alloc (by rw [ew285, eg285]; kernel_rfl)) rfl (fun _ => hS.ext hC285) ?_
        have h0 := h0.ext hC285
        have hv202 := hv202.ext hC285
        have hv256 := hv256.ext hC285
        have hC := hC.ext hC285
        have hO := hO.new (X' := [g285]) hC285 (fun q hq => by rw [List.mem_singleton.1 hq, eg285]; exact Nat.le_refl _) (List.nodup_cons.2 ⟨(fun h => nomatch h), List.nodup_nil⟩) (fun q hq => by rw [List.mem_singleton.1 hq]; exact hb285.lt)
        have hS := hS.ext hC285
        refine x_two (i := 5) (j := 12) (by kernel_rfl) ?_ ?_
        · skip
          refine xk_call (b := false) rfl  Bd169 rfl (c_spec_l1Own (M := M) x207.1 hv256 hO.fut hr217) rfl (by rintro _ _ _ ⟨a286x0, n286x0, c286x0, f286x0, rfl, hC286, hv286x0, hOc286⟩; exact hS.ext hC286) ?_
          rintro _ w286 ⟨a286x0, n286x0, c286x0, f286x0, rfl, hC286, hv286x0, hOc286⟩
          have h0 := h0.ext hC286
          have hv202 := hv202.ext hC286
          have hv256 := hv256.ext hC286
          have hb285 := hb285.chg hC286 (fun h => nomatch h)
          have hC := hC.ext hC286
          have hO := Own.join0 hO hC286 hOc286
          have hO := hO.perm (R := f286x0 ++ (([g285]) ++ (f202 ++ ([])))) (by simp)
          have hS := hS.ext hC286
          refine x_one (i := 12) (by kernel_rfl) ?_
          obtain ⟨w289, g289, ew289, eg289, hC289, hb289⟩ := new_block w286 [] 22
          refine xk_val (w' := w289) (b := false) (.slice (some ⟨g289, 0, none⟩) 0 0) rfl  (y_bslice rfl (by rw [ew289, eg289]; kernel_rfl)) rfl (fun _ => hS.ext hC289) ?_
          have h0 := h0.ext hC289
          have hv202 := hv202.ext hC289
          have hv256 := hv256.ext hC289
          have hb285 := hb285.chg hC289 (fun h => nomatch h)
          have hv286x0 := hv286x0.ext hC289
          have hC := hC.ext hC289
          have hO := hO.new (X' := [g289]) hC289 (fun q hq => by rw [List.mem_singleton.1 hq, eg289]; exact Nat.le_refl _) (List.nodup_cons.2 ⟨(fun h => nomatch h), List.nodup_nil⟩) (fun q hq => by rw [List.mem_singleton.1 hq]; exact hb289.lt)
          have hv289 := os_of_box (r := (RT.os 3 (RT.int .i64))) (M := M) (css := []) (fps := []) (xs := ([] : List (List Int))) hb289 trivial (Nat.zero_le _) (List.nodup_cons.2 ⟨(fun h => nomatch h), List.nodup_nil⟩)
          have hv289 : (RT.os 22 (RT.os 3 (RT.int .i64))).val M w289 (.slice (some ⟨g289, 0, none⟩) 0 0) [] [g289] := hv289
          have hS := hS.ext hC289
          refine x_p 13 (.agg #[(.int .i64 x212.2.1), (.slice (some ⟨g289, 0, none⟩) 0 0)]) rfl (by kernel_rfl)  (fun _ => y_build rfl (by kernel_rfl)) (fun _ => hS) ?_
          refine x_p 14 (.agg #[(.slice a286x0 n286x0 c286x0), (.int .i64 x212.2.1), (.slice (some ⟨g289, 0, none⟩) 0 0)]) rfl (by kernel_rfl)  (fun _ => y_build rfl (by kernel_rfl)) (fun _ => hS) ?_
          refine x_one (i := 16) (by kernel_rfl) ?_
          obtain ⟨w291, hst291, hC291, hb291⟩ := box_store (P := Try.prog) hb285 [] [(.slice none 0 0), (.int .i64 0), (.slice none 0 0)] [] [(.slice a286x0 n286x0 c286x0), (.int .i64 x212.2.1), (.slice (some ⟨g289, 0, none⟩) 0 0)] rfl rfl (by intro u hu; simp only [List.mem_cons, List.not_mem_nil, or_false] at hu; rcases hu with rfl | rfl | rfl <;> rfl)
          refine xk_skip (w' := w291) (b := true) rfl (ys_store rfl rfl (hst291 _ _ rfl Sz108)) rfl (fun h => nomatch h) ?_
          have hO := hO.fr2
          have h0 := h0.mut hC291 (fun g hg => hO.inM g ((fun _ h => h) g hg)) (fun _ _ h => nomatch h)
          have hv202 := hv202.mut hC291 (fun g hg => hO.inM g ((fun _ h => h) g hg)) (fun g hg e => hO.apart g ((fun _ h => h) g hg) (mem_r (mem_r (mem_l (e)))))
          have hv256 := hv256.mut hC291 (fun g hg => hO.inM g ((fun _ h => h) g hg)) (fun _ _ h => nomatch h)
          have hv286x0 := hv286x0.mut hC291 (fun g hg => hO.inM g ((fun _ h => h) g hg)) (fun g hg e => hO.apart g ((fun _ h => h) g hg) (mem_r (mem_l (e))))
          have hv289 := hv289.mut hC291 (fun g hg => hO.inM g ((fun _ h => h) g hg)) (fun g hg e => hO.apart g ((fun _ h => h) g hg) (mem_l (e)))
          have hC := hC.step hC291 (fun g hg => hO.inN g ((fun _ h => h) g hg))
          have hO := hO.ext hC291
          have hb291 : BoxV w291 g285 108 [(.slice a286x0 n286x0 c286x0), (.int .i64 x212.2.1), (.slice (some ⟨g289, 0, none⟩) 0 0)] := hb291
          refine x_end (by kernel_rfl) ?_
          clear hS
          have hO := hO.fr3
          have hO := hO.fr3
          have hO := hO.fr3
          have hO := hO.fr3
          exact ⟨_, a286x0, c286x0, f286x0, g289, g285, n286x0, fr_ovl 62 ⟨rfl, rfl, rfl, rfl, trivial⟩, hC, hO, h0, hv202, hv286x0, hv289, hb291⟩
        · skip
          obtain ⟨w292, g292, ew292, eg292, hC292, hb292⟩ := new_block w285 [] 22
          refine xk_val (w' := w292) (b := false) (.slice (some ⟨g292, 0, none⟩) 0 0) rfl  (y_bslice rfl (by rw [ew292, eg292]; kernel_rfl)) rfl (fun _ => hS.ext hC292) ?_
          have h0 := h0.ext hC292
          have hv202 := hv202.ext hC292
          have hv256 := hv256.ext hC292
          have hb285 := hb285.chg hC292 (fun h => nomatch h)
          have hC := hC.ext hC292
          have hO := hO.new (X' := [g292]) hC292 (fun q hq => by rw [List.mem_singleton.1 hq, eg292]; exact Nat.le_refl _) (List.nodup_cons.2 ⟨(fun h => nomatch h), List.nodup_nil⟩) (fun q hq => by rw [List.mem_singleton.1 hq]; exact hb292.lt)
          have hv292 := os_of_box (r := (RT.os 3 (RT.int .i64))) (M := M) (css := []) (fps := []) (xs := ([] : List (List Int))) hb292 trivial (Nat.zero_le _) (List.nodup_cons.2 ⟨(fun h => nomatch h), List.nodup_nil⟩)
          have hv292 : (RT.os 22 (RT.os 3 (RT.int .i64))).val M w292 (.slice (some ⟨g292, 0, none⟩) 0 0) [] [g292] := hv292
          have hS := hS.ext hC292
          refine x_p 13 (.agg #[(.int .i64 x212.2.1), (.slice (some ⟨g292, 0, none⟩) 0 0)]) rfl (by kernel_rfl)  (fun _ => y_build rfl (by kernel_rfl)) (fun _ => hS) ?_
          refine x_one (i := 5) (by kernel_rfl) ?_
          refine xk_call (b := false) rfl  Bd169 rfl (c_spec_l1Own (M := M) x207.1 hv256 hO.fut hr217) rfl (by rintro _ _ _ ⟨a294x0, n294x0, c294x0, f294x0, rfl, hC294, hv294x0, hOc294⟩; exact hS.ext hC294) ?_
          rintro _ w294 ⟨a294x0, n294x0, c294x0, f294x0, rfl, hC294, hv294x0, hOc294⟩
          have h0 := h0.ext hC294
          have hv202 := hv202.ext hC294
          have hv256 := hv256.ext hC294
          have hb285 := hb285.chg hC294 (fun h => nomatch h)
          have hv292 := hv292.ext hC294
          have hC := hC.ext hC294
          have hO := Own.join0 hO hC294 hOc294
          have hO := hO.perm (R := f294x0 ++ (([g292]) ++ (([g285]) ++ (f202 ++ ([]))))) (by simp)
          have hS := hS.ext hC294
          refine x_p 14 (.agg #[(.slice a294x0 n294x0 c294x0), (.int .i64 x212.2.1), (.slice (some ⟨g292, 0, none⟩) 0 0)]) rfl (by kernel_rfl)  (fun _ => y_build rfl (by kernel_rfl)) (fun _ => hS) ?_
          refine x_one (i := 16) (by kernel_rfl) ?_
          obtain ⟨w297, hst297, hC297, hb297⟩ := box_store (P := Try.prog) hb285 [] [(.slice none 0 0), (.int .i64 0), (.slice none 0 0)] [] [(.slice a294x0 n294x0 c294x0), (.int .i64 x212.2.1), (.slice (some ⟨g292, 0, none⟩) 0 0)] rfl rfl (by intro u hu; simp only [List.mem_cons, List.not_mem_nil, or_false] at hu; rcases hu with rfl | rfl | rfl <;> rfl)
          refine xk_skip (w' := w297) (b := true) rfl (ys_store rfl rfl (hst297 _ _ rfl Sz108)) rfl (fun h => nomatch h) ?_
          have hO := hO.fr2
          have h0 := h0.mut hC297 (fun g hg => hO.inM g ((fun _ h => h) g hg)) (fun _ _ h => nomatch h)
          have hv202 := hv202.mut hC297 (fun g hg => hO.inM g ((fun _ h => h) g hg)) (fun g hg e => hO.apart g ((fun _ h => h) g hg) (mem_r (mem_r (mem_l (e)))))
          have hv256 := hv256.mut hC297 (fun g hg => hO.inM g ((fun _ h => h) g hg)) (fun _ _ h => nomatch h)
          have hv292 := hv292.mut hC297 (fun g hg => hO.inM g ((fun _ h => h) g hg)) (fun g hg e => hO.apart g ((fun _ h => h) g hg) (mem_r (mem_l (e))))
          have hv294x0 := hv294x0.mut hC297 (fun g hg => hO.inM g ((fun _ h => h) g hg)) (fun g hg e => hO.apart g ((fun _ h => h) g hg) (mem_l (e)))
          have hC := hC.step hC297 (fun g hg => hO.inN g ((fun _ h => h) g hg))
          have hO := hO.ext hC297
          have hb297 : BoxV w297 g285 108 [(.slice a294x0 n294x0 c294x0), (.int .i64 x212.2.1), (.slice (some ⟨g292, 0, none⟩) 0 0)] := hb297
          refine x_end (by kernel_rfl) ?_
          clear hS
          have hO := hO.fr3
          have hO := hO.fr2
          have hO := hO.fr3
          have hO := hO.fr3
          exact ⟨_, a294x0, c294x0, f294x0, g292, g285, n294x0, fr_ovl 62 ⟨rfl, rfl, rfl, rfl, trivial⟩, hC, hO, h0, hv202, hv294x0, hv292, hb297⟩
    · rintro a1 w222 ⟨σ, a216x0, c216x0, f216x0, g219, g221, n216x0, rfl, hC, hO, h0, hv202, hv216x0, hv219, hb222⟩
      refine c_seq ?_
      refine c_seq ?_
      refine c_region ?_
      refine pl_val (.int .i64 0) (y_assign rfl) ?_
      refine c_nil ?_
      obtain ⟨o358, hl359, hs⟩ := bind_some hs
      refine wp_block ?_
      refine wp_iter (id := 2) (I := fun s354 a w355 => ∃ (σ : Nat → Value) (a360 : Option Addr) (n360 : Nat) (c360 : Nat) (f360 : List Nat), a = fr 62 (ovl σ [(0, (.slice pa0 pn0 pc0)), (3, (.slice a202 n202 c202)), (4, (.int .i64 k198)), (5, (.pointer (some ⟨g221, 0, none⟩))), (6, (.int .i64 s354.1))]) ∧ Chg [] w w355 ∧ Own (Nw w []) M w355 (f360 ++ (([g221]) ++ (f216x0 ++ (f202 ++ [])))) ∧ (RT.rs (RT.pr (RT.rs (RT.int .i64)) (RT.pr (RT.int .i64) (RT.rs (RT.rs (RT.int .i64)))))).val M w355 (.slice pa0 pn0 pc0) list ([]) ∧ (RT.os 108 (RT.pr (RT.os 3 (RT.int .i64)) (RT.pr (RT.int .i64) (RT.os 22 (RT.os 3 (RT.int .i64)))))).val M w355 (.slice a202 n202 c202) s196 f202 ∧ (RT.os 3 (RT.int .i64)).val M w355 (.slice a216x0 n216x0 c216x0) r217 f216x0 ∧ BoxV w355 g221 108 [(.slice a216x0 n216x0 c216x0), (.int .i64 x212.2.1), (.slice a360 n360 c360)] ∧ (RT.os 22 (RT.os 3 (RT.int .i64))).val M w355 (.slice a360 n360 c360) s354.2 f360) (J := fun s354 a w355 => ∃ (σ : Nat → Value) (a362 : Option Addr) (n362 : Nat) (c362 : Nat) (f362 : List Nat), a = fr 62 (ovl σ [(0, (.slice pa0 pn0 pc0)), (3, (.slice a202 n202 c202)), (4, (.int .i64 k198)), (5, (.pointer (some ⟨g221, 0, none⟩)))]) ∧ Chg [] w w355 ∧ Own (Nw w []) M w355 (f362 ++ (([g221]) ++ (f216x0 ++ (f202 ++ [])))) ∧ (RT.rs (RT.pr (RT.rs (RT.int .i64)) (RT.pr (RT.int .i64) (RT.rs (RT.rs (RT.int .i64)))))).val M w355 (.slice pa0 pn0 pc0) list ([]) ∧ (RT.os 108 (RT.pr (RT.os 3 (RT.int .i64)) (RT.pr (RT.int .i64) (RT.os 22 (RT.os 3 (RT.int .i64)))))).val M w355 (.slice a202 n202 c202) s196 f202 ∧ (RT.os 3 (RT.int .i64)).val M w355 (.slice a216x0 n216x0 c216x0) r217 f216x0 ∧ BoxV w355 g221 108 [(.slice a216x0 n216x0 c216x0), (.int .i64 x212.2.1), (.slice a362 n362 c362)] ∧ (RT.os 22 (RT.os 3 (RT.int .i64))).val M w355 (.slice a362 n362 c362) s354.2 f362) (K := (k_spec_l19Copy M w)) ?_ FU (0, []) o358 _ _ ?_ hl359 ?_
      · rintro s354 o358 a w355 ⟨σ, a360, n360, c360, f360, rfl, hC, hO, h0, hv202, hv216x0, hb222, hv360⟩ hs
        refine c_seq ?_
        refine c_seq ?_
        refine c_region ?_
        refine pl_val (.int .i64 s354.1) (y_move rfl) ?_
        refine pl_val (.slice pa0 pn0 pc0) (y_move rfl) ?_
        refine pl_val (.int .i64 k198) (y_move rfl) ?_
        obtain ⟨x364, hx364, hs⟩ := bind_some hs
        obtain ⟨b365, o365, hp365, ha365⟩ := rs_idx Sl47 Sz108 h0 hx364
        refine pl_val (.pointer (some ⟨b365, o365, none⟩)) (hp365 _ _ _ _ _ _ _ _ _ rfl rfl) ?_
        obtain ⟨_, hq366x0⟩ := pr_at ha365
        refine pl_val (.pointer (some ⟨b365, o365 + 1, none⟩)) (y_faddr rfl Fa108x1) ?_
        obtain ⟨_, hq367x0⟩ := pr_at hq366x0
        refine pl_val (.pointer (some ⟨b365, (o365 + 1) + 1, none⟩)) (y_faddr rfl Fa31x1) ?_
        obtain ⟨v368, hl368, hv368⟩ := at_load Ag29 Sz29 (fun _ => rfl) hq367x0
        obtain ⟨a368, n368, c368, rfl⟩ := rs_sl hv368
        refine pl_val (.slice a368 n368 c368) (y_load rfl (hl368 _ (Chg.refl _ _))) ?_
        refine pl_val (.int .i64 (x364.2.2.length : Int)) (y_len' Sl29 (rs_len hv368) rfl) ?_
        refine pl_val (.bool (decide (s354.1 < (x364.2.2.length : Int)))) (y_lss rfl rfl) ?_
        refine c_nil ?_
        rcases bif_some hs with ⟨hc370, hs⟩ | ⟨hc370, hs⟩
        · skip
          refine c_condT (congrArg Value.bool hc370) ?_
          refine wp_skip ?_
          refine c_seq ?_
          refine wp_block ?_
          refine x_start [14, 17] Mx rfl ?_
          have hCw371 := Chg.drew w355
          generalize World.drew w355 = w371 at hCw371 ⊢
          have h0 := h0.ext hCw371
          have hv202 := hv202.ext hCw371
          have hv216x0 := hv216x0.ext hCw371
          have hb222 := hb222.chg hCw371 (fun h => nomatch h)
          have hv360 := hv360.ext hCw371
          have hC := hC.ext hCw371
          have hO := hO.ext hCw371
          have hS := Chg.refl [] w371
          refine x_p 0 (.pointer (some ⟨g221, 1, none⟩)) rfl (by kernel_rfl)  (fun _ => y_faddr rfl Fa108x1) (fun _ => hS) ?_
          refine x_p 1 (.pointer (some ⟨g221, 2, none⟩)) rfl (by kernel_rfl)  (fun _ => y_faddr rfl Fa31x1) (fun _ => hS) ?_
          refine x_l 2 (.slice a360 n360 c360) rfl (by kernel_rfl)  (fun w' hw' => y_load rfl ((box_load Ag29 Sz29 hb222 [(.slice a216x0 n216x0 c216x0), (.int .i64 x212.2.1)] [(.slice a360 n360 c360)] [] rfl rfl (fun _ => rfl)) w' hw')) hS ?_
          refine x_p 3 (.slice pa0 pn0 pc0) rfl (by kernel_rfl)  (fun _ => y_move rfl) (fun _ => hS) ?_
          refine x_p 4 (.int .i64 k198) rfl (by kernel_rfl)  (fun _ => y_move rfl) (fun _ => hS) ?_
          obtain ⟨x372, hx372, hs⟩ := bind_some hs
          obtain ⟨b373, o373, hp373, ha373⟩ := rs_idx Sl47 Sz108 h0 hx372
          refine x_p 5 (.pointer (some ⟨b373, o373, none⟩)) rfl (by kernel_rfl)  (fun _ => hp373 _ _ _ _ _ _ _ _ _ rfl rfl) (fun _ => hS) ?_
          obtain ⟨_, hq374x0⟩ := pr_at ha373
          refine x_p 6 (.pointer (some ⟨b373, o373 + 1, none⟩)) rfl (by kernel_rfl)  (fun _ => y_faddr rfl Fa108x1) (fun _ => hS) ?_
          obtain ⟨_, hq375x0⟩ := pr_at hq374x0
          refine x_p 7 (.pointer (some ⟨b373, (o373 + 1) + 1, none⟩)) rfl (by kernel_rfl)  (fun _ => y_faddr rfl Fa31x1) (fun _ => hS) ?_
          obtain ⟨v376, hl376, hv376⟩ := at_load Ag29 Sz29 (fun _ => rfl) hq375x0
          obtain ⟨a376, n376, c376, rfl⟩ := rs_sl hv376
          refine x_l 8 (.slice a376 n376 c376) rfl (by kernel_rfl)  (fun w' hw' => y_load rfl (hl376 w' hw')) hS ?_
          refine x_p 9 (.int .i64 s354.1) rfl (by kernel_rfl)  (fun _ => y_move rfl) (fun _ => hS) ?_
          obtain ⟨x378, hx378, hs⟩ := bind_some hs
          obtain ⟨b379, o379, hp379, ha379⟩ := rs_idx Sl29 Sz22 hv376 hx378
          refine x_p 10 (.pointer (some ⟨b379, o379, none⟩)) rfl (by kernel_rfl)  (fun _ => hp379 _ _ _ _ _ _ _ _ _ rfl rfl) (fun _ => hS) ?_
          obtain ⟨v380, hl380, hv380⟩ := at_load Ag22 Sz22 (fun _ => rfl) ha379
          obtain ⟨a380, n380, c380, rfl⟩ := rs_sl hv380
          refine x_l 11 (.slice a380 n380 c380) rfl (by kernel_rfl)  (fun w' hw' => y_load rfl (hl380 w' hw')) hS ?_
          refine x_one (i := 12) (by kernel_rfl) ?_
          obtain ⟨r383, hr383, hs⟩ := bind_some hs
          refine xk_call (b := false) rfl  Bd169 rfl (c_spec_l1Own (M := M) x378 hv380 hO.fut hr383) rfl (by rintro _ _ _ ⟨a382x0, n382x0, c382x0, f382x0, rfl, hC382, hv382x0, hOc382⟩; exact hS.ext hC382) ?_
          rintro _ w382 ⟨a382x0, n382x0, c382x0, f382x0, rfl, hC382, hv382x0, hOc382⟩
          have h0 := h0.ext hC382
          have hv202 := hv202.ext hC382
          have hv216x0 := hv216x0.ext hC382
          have hb222 := hb222.chg hC382 (fun h => nomatch h)
          have hv360 := hv360.ext hC382
          have hv376 := hv376.ext hC382
          have hv380 := hv380.ext hC382
          have hC := hC.ext hC382
          have hO := Own.join0 hO hC382 hOc382
          have hO := hO.perm (R := f382x0 ++ (f360 ++ (([g221]) ++ (f216x0 ++ (f202 ++ ([])))))) (by simp)
          have hS := hS.ext hC382
          refine x_one (i := 13) (by kernel_rfl) ?_
          obtain ⟨w385, g385, ew385, eg385, hC385, hb385⟩ := new_block w382 [(.slice a382x0 n382x0 c382x0)] 22
          refine xk_val (w' := w385) (b := false) (.slice (some ⟨g385, 0, none⟩) 1 1) rfl  (y_bslice rfl (by rw [ew385, eg385]; kernel_rfl)) rfl (fun _ => hS.ext hC385) ?_
          have h0 := h0.ext hC385
          have hv202 := hv202.ext hC385
          have hv216x0 := hv216x0.ext hC385
          have hb222 := hb222.chg hC385 (fun h => nomatch h)
          have hv360 := hv360.ext hC385
          have hv376 := hv376.ext hC385
          have hv380 := hv380.ext hC385
          have hv382x0 := hv382x0.ext hC385
          have hC := hC.ext hC385
          have hO := hO.new (X' := [g385]) hC385 (fun q hq => by rw [List.mem_singleton.1 hq, eg385]; exact Nat.le_refl _) (List.nodup_cons.2 ⟨(fun h => nomatch h), List.nodup_nil⟩) (fun q hq => by rw [List.mem_singleton.1 hq]; exact hb385.lt)
          have hO := hO.perm (R := (g385 :: ((f382x0) ++ ([]))) ++ (f360 ++ (([g221]) ++ (f216x0 ++ (f202 ++ ([])))))) (by simp)
          have hnd385 := hO.nd
          have hv385 := os_of_box (r := (RT.os 3 (RT.int .i64))) (M := M) (css := [[(.slice a382x0 n382x0 c382x0)]]) (fps := [(f382x0 : List Nat)]) (xs := ([r383] : List (List Int))) hb385 ⟨(os_unval hv382x0), trivial⟩ (Nat.le_of_ble_eq_true rfl) hnd385
          have hv385 : (RT.os 22 (RT.os 3 (RT.int .i64))).val M w385 (.slice (some ⟨g385, 0, none⟩) 1 1) [r383] (g385 :: ((f382x0) ++ ([]))) := hv385
          have hS := hS.ext hC385
          refine x_one (i := 14) (by kernel_rfl) ?_
          obtain ⟨y388, hy388, hs⟩ := bind_some hs
          have hO := hO.fr1
          obtain ⟨a387, n387, c387, w387, f387, hr387, hC387, hf387, hv387⟩ := app_os Rw29 hy388 hv360 hv385 hO.inM (fun g hg hq => hO.apart g hq (mem_l hg))
          have hG387 := os_block hv360
          refine xk_val (w' := w387) (b := true) (.slice a387 n387 c387) rfl  (y_append rfl rfl (hr387 _)) rfl (fun h => nomatch h) ?_
          have hO := hO.fr1
          have hO := hO.fr1
          have h0 := h0.mut hC387 (fun g hg => hO.inM g (hG387 g hg)) (fun _ _ h => nomatch h)
          have hv202 := hv202.mut hC387 (fun g hg => hO.inM g (hG387 g hg)) (fun g hg e => hO.apart g (hG387 g hg) (mem_r (mem_r (mem_r (mem_l (e))))))
          have hv216x0 := hv216x0.mut hC387 (fun g hg => hO.inM g (hG387 g hg)) (fun g hg e => hO.apart g (hG387 g hg) (mem_r (mem_r (mem_l (e)))))
          have hb222 := hb222.chg hC387 (fun hg => hO.apart _ (hG387 _ hg) (mem_r (mem_l (List.mem_singleton.2 rfl))))
          have hv376 := hv376.mut hC387 (fun g hg => hO.inM g (hG387 g hg)) (fun _ _ h => nomatch h)
          have hv380 := hv380.mut hC387 (fun g hg => hO.inM g (hG387 g hg)) (fun _ _ h => nomatch h)
          have hC := hC.step hC387 (fun g hg => hO.inN g (hG387 g hg))
          have hO := hO.eat hC387 hf387 (os_nodup hv387) hv387.fpl
          refine x_p 15 (.pointer (some ⟨g221, 1, none⟩)) rfl (by kernel_rfl)  (fun _ => y_faddr rfl Fa108x1) (fun h => nomatch h) ?_
          refine x_p 16 (.pointer (some ⟨g221, 2, none⟩)) rfl (by kernel_rfl)  (fun _ => y_faddr rfl Fa31x1) (fun h => nomatch h) ?_
          refine x_one (i := 17) (by kernel_rfl) ?_
          obtain ⟨w390, hst390, hC390, hb390⟩ := box_store (P := Try.prog) hb222 [(.slice a216x0 n216x0 c216x0), (.int .i64 x212.2.1)] [(.slice a360 n360 c360)] [] [(.slice a387 n387 c387)] rfl rfl (by intro u hu; simp only [List.mem_cons, List.not_mem_nil, or_false] at hu; rcases hu with rfl <;> rfl)
          refine xk_skip (w' := w390) (b := true) rfl (ys_store rfl rfl (hst390 _ _ rfl Sz29)) rfl (fun h => nomatch h) ?_
          have hO := hO.fr1
          have h0 := h0.mut hC390 (fun g hg => hO.inM g ((fun _ h => h) g hg)) (fun _ _ h => nomatch h)
          have hv202 := hv202.mut hC390 (fun g hg => hO.inM g ((fun _ h => h) g hg)) (fun g hg e => hO.apart g ((fun _ h => h) g hg) (mem_r (mem_r (mem_l (e)))))
          have hv216x0 := hv216x0.mut hC390 (fun g hg => hO.inM g ((fun _ h => h) g hg)) (fun g hg e => hO.apart g ((fun _ h => h) g hg) (mem_r (mem_l (e))))
          have hv376 := hv376.mut hC390 (fun g hg => hO.inM g ((fun _ h => h) g hg)) (fun _ _ h => nomatch h)
          have hv380 := hv380.mut hC390 (fun g hg => hO.inM g ((fun _ h => h) g hg)) (fun _ _ h => nomatch h)
          have hv387 := hv387.mut hC390 (fun g hg => hO.inM g ((fun _ h => h) g hg)) (fun g hg e => hO.apart g ((fun _ h => h) g hg) (mem_l (e)))
          have hC := hC.step hC390 (fun g hg => hO.inN g ((fun _ h => h) g hg))
          have hO := hO.ext hC390
          have hb390 : BoxV w390 g221 108 [(.slice a216x0 n216x0 c216x0), (.int .i64 x212.2.1), (.slice a387 n387 c387)] := hb390
          refine x_end (by kernel_rfl) ?_
          clear hS
          refine c_region ?_
          refine pl_val (.int .i64 s354.1) (y_move rfl) ?_
          refine pl_val (.int .i64 (w64 (s354.1 + 1))) (y_add rfl rfl) ?_
          refine pl_val (.int .i64 (w64 (s354.1 + 1))) (y_assign rfl) ?_
          refine c_nil ?_
          cases hs
          have hO := hO.fr3
          have hO := hO.fr3
          have hO := hO.fr2
          have hO := hO.fr3
          exact ⟨_, a387, n387, c387, f387, fr_ovl 62 ⟨rfl, rfl, rfl, rfl, rfl, trivial⟩, hC, hO, h0, hv202, hv216x0, hb390, hv387⟩
        · skip
          refine c_condF (congrArg Value.bool hc370) ?_
          refine wp_exit ?_
          cases hs
          have hO := hO.fr3
          have hO := hO.fr3
          have hO := hO.fr3
          have hO := hO.fr3
          exact ⟨rfl, _, a360, n360, c360, f360, fr_ovl 62 ⟨rfl, rfl, rfl, rfl, trivial⟩, hC, hO, h0, hv202, hv216x0, hb222, hv360⟩
      · skip
        have hO := hO.fr3
        have hO := hO.fr3
        have hO := hO.fr2
        have hO := hO.fr3
        exact ⟨_, (some ⟨g219, 0, none⟩), 0, 0, ([g219]), fr_ovl 62 ⟨rfl, rfl, rfl, rfl, rfl, trivial⟩, hC, hO, h0, hv202, hv216x0, hb222, hv219⟩
      · cases o358 with
        | nx _ => exact True.intro
        | rt r_ =>
          have hs := after_rt hs
          intro a1 w1 hK
          cases hs
          exact hK
        | br s354 =>
          have hs := after_br hs
          rintro a1 w355 ⟨σ, a362, n362, c362, f362, rfl, hC, hO, h0, hv202, hv216x0, hb222, hv362⟩
          refine c_region ?_
          refine pl_val (.slice a202 n202 c202) (y_move rfl) ?_
          refine pl_val (.agg #[(.slice a216x0 n216x0 c216x0), (.int .i64 x212.2.1), (.slice a362 n362 c362)]) (y_load rfl ((box_load Ag108 Sz108 hb222 [] [(.slice a216x0 n216x0 c216x0), (.int .i64 x212.2.1), (.slice a362 n362 c362)] [] rfl rfl (fun h => nomatch h)) _ (Chg.refl _ _))) ?_
          obtain ⟨w391, g391, ew391, eg391, hC391, hb391⟩ := new_block w355 [(.slice a216x0 n216x0 c216x0), (.int .i64 x212.2.1), (.slice a362 n362 c362)] 108
          refine pl_val (w' := w391) (.slice (some ⟨g391, 0, none⟩) 1 1) (y_bslice rfl (by rw [ew391, eg391]; kernel_rfl)) ?_
          have h0 := h0.ext hC391
          have hv202 := hv202.ext hC391
          have hv216x0 := hv216x0.ext hC391
          have hb222 := hb222.chg hC391 (fun h => nomatch h)
          have hv362 := hv362.ext hC391
          have hC := hC.ext hC391
          have hO := hO.fr2
          have hO := hO.new (X' := [g391]) hC391 (fun q hq => by rw [List.mem_singleton.1 hq, eg391]; exact Nat.le_refl _) (List.nodup_cons.2 ⟨(fun h => nomatch h), List.nodup_nil⟩) (fun q hq => by rw [List.mem_singleton.1 hq]; exact hb391.lt)
          have hO := hO.perm (R := (g391 :: ((f216x0 ++ f362) ++ ([]))) ++ (([g221]) ++ (f202 ++ ([])))) (by simp)
          have hnd391 := hO.nd
          have hv391 := os_of_box (r := (RT.pr (RT.os 3 (RT.int .i64)) (RT.pr (RT.int .i64) (RT.os 22 (RT.os 3 (RT.int .i64)))))) (M := M) (css := [[(.slice a216x0 n216x0 c216x0), (.int .i64 x212.2.1), (.slice a362 n362 c362)]]) (fps := [(f216x0 ++ f362 : List Nat)]) (xs := ([(r217, (x212.2.1, s354.2))] : List ((List Int) × (Int × (List (List Int)))))) hb391 ⟨⟨_, _, _, _, rfl, rfl, (os_unval hv216x0), ⟨_, _, _, _, rfl, rfl, ⟨rfl, rfl⟩, (os_unval hv362)⟩⟩, trivial⟩ (Nat.le_of_ble_eq_true rfl) hnd391
          have hv391 : (RT.os 108 (RT.pr (RT.os 3 (RT.int .i64)) (RT.pr (RT.int .i64) (RT.os 22 (RT.os 3 (RT.int .i64)))))).val M w391 (.slice (some ⟨g391, 0, none⟩) 1 1) [(r217, (x212.2.1, s354.2))] (g391 :: ((f216x0 ++ f362) ++ ([]))) := hv391
          obtain ⟨y394, hy394, hs⟩ := bind_some hs
          have hO := hO.fr2
          obtain ⟨a393, n393, c393, w393, f393, hr393, hC393, hf393, hv393⟩ := app_os Rw47 hy394 hv202 hv391 hO.inM (fun g hg hq => hO.apart g hq (mem_l hg))
          have hG393 := os_block hv202
          refine pl_val (w' := w393) (.slice a393 n393 c393) (y_append rfl rfl (hr393 _)) ?_
          have hO := hO.fr1
          have hO := hO.fr1
          have h0 := h0.mut hC393 (fun g hg => hO.inM g (hG393 g hg)) (fun _ _ h => nomatch h)
          have hb222 := hb222.chg hC393 (fun hg => hO.apart _ (hG393 _ hg) (mem_r (mem_l (List.mem_singleton.2 rfl))))
          have hC := hC.step hC393 (fun g hg => hO.inN g (hG393 g hg))
          have hO := hO.eat hC393 hf393 (os_nodup hv393) hv393.fpl
          refine pl_val (.slice a393 n393 c393) (y_assign rfl) ?_
          refine c_nil ?_
          refine c_region ?_
          refine pl_val (.int .i64 k198) (y_move rfl) ?_
          refine pl_val (.int .i64 (w64 (k198 + 1))) (y_add rfl rfl) ?_
          refine pl_val (.int .i64 (w64 (k198 + 1))) (y_assign rfl) ?_
          refine c_nil ?_
          cases hs
          have hO := hO.fr1
          have hO := hO.drop
          exact ⟨_, a393, n393, c393, f393, fr_ovl 62 ⟨rfl, rfl, congrArg (Value.int .i64) hw, trivial⟩, hC, hO, h0, hv393⟩
  · skip
    exact ⟨_, (some ⟨g2, 0, none⟩), 0, 0, ([g2]), fr_ovl 62 ⟨rfl, rfl, rfl, trivial⟩, hC, hO, h0, hv2⟩
  · cases o200 with
    | nx _ => exact True.intro
    | rt r_ =>
      have hs := after_rt hs
      intro a1 w1 hK
      cases hs
      exact hK
    | br s196 =>
      have hs := after_br hs
      rintro a1 w197 ⟨σ, a204, n204, c204, f204, rfl, hC, hO, h0, hv204⟩
      refine c_seq ?_
      refine c_region ?_
      refine pl_val (.slice a204 n204 c204) (y_move rfl) ?_
      refine pl_val (.slice a204 n204 c204) (y_assign rfl) ?_
      refine c_nil ?_
      refine wp_ret ?_
      cases hs
      exact ⟨_, a204, n204, c204, f204, fr_ovl 62 ⟨rfl, trivial⟩, hC, hv204, hO.top⟩

theorem Bd88 : Bodied Try.prog 88 := bodied Try.func88 (by kernel_rfl) rfl

def k_spec_l19Give (M : Nat → Prop) (w0 : World) (r : (Int × Int × (List ((List Int) × (Int × (List (List Int)))))) × Bool) (a : Act) (w : World) : Prop :=
  ∃ (σ : Nat → Value) (rg2 : Nat) (ra0 : Option Addr) (rn0 rc0 : Nat), a = fr 9 (ovl σ [(2, (.pointer (some ⟨rg2, 0, none⟩))), (3, (.bool r.2))]) ∧ BoxV w rg2 49 [(.int .i64 r.1.1), (.int .i64 r.1.2.1), (.slice ra0 rn0 rc0)] ∧ Chg [] w0 w ∧ (RT.rs (RT.pr (RT.rs (RT.int .i64)) (RT.pr (RT.int .i64) (RT.rs (RT.rs (RT.int .i64)))))).val (Past M w0 w) w (.slice ra0 rn0 rc0) r.1.2.2 []
def s_spec_l19Give (net : Int × Int × (List ((List Int) × (Int × (List (List Int)))))) : Option ((Int × Int × (List ((List Int) × (Int × (List (List Int)))))) × Bool) :=
  (s_spec_l19Good (net.1, net.2.1, net.2.2)).bind fun r5 =>
  (bif (!r5) then some ((0, 0, []), false) else some ((net.1, net.2.1, net.2.2), true))
set_option maxHeartbeats 4000000 in
theorem c_spec_l19Give {M : Nat → Prop} {w : World} {pa0 : Option Addr} {pn0 pc0 : Nat} (net : Int × Int × (List ((List Int) × (Int × (List (List Int)))))) (h0 : (RT.rs (RT.pr (RT.rs (RT.int .i64)) (RT.pr (RT.int .i64) (RT.rs (RT.rs (RT.int .i64)))))).val M w (.slice pa0 pn0 pc0) net.2.2 ([])) (hM : ∀ g, w.heap.size ≤ g → M g) {r : (Int × Int × (List ((List Int) × (Int × (List (List Int)))))) × Bool} (hs : s_spec_l19Give net = some r) :
    Gives Try.prog 131 [(.agg #[(.int .i64 net.1), (.int .i64 net.2.1), (.slice pa0 pn0 pc0)])] w (fun v w' => ∃ (ra0 : Option Addr) (rn0 rc0 : Nat), v = (.tuple #[(.agg #[(.int .i64 r.1.1), (.int .i64 r.1.2.1), (.slice ra0 rn0 rc0)]), (.bool r.2)]) ∧ Chg [] w w' ∧ (RT.rs (RT.pr (RT.rs (RT.int .i64)) (RT.pr (RT.int .i64) (RT.rs (RT.rs (RT.int .i64)))))).val (Past M w w') w' (.slice ra0 rn0 rc0) r.1.2.2 []) := by
  refine calls_fr Try.func131 rfl Try.ntmps131 (Nat.le_of_ble_eq_true rfl) ?_
  have hO := Own.start (N := Nw w []) hM Nw.fut
  have hC := Chg.refl [] w
  unfold s_spec_l19Give at hs
  refine wp_mono (Q := KPost (k_spec_l19Give M w r)) ?_ (fun e a w1 h => ?_)
  rotate_left
  · cases e
    case ret =>
      obtain ⟨σ, rg2, ra0, rn0, rc0, rfl, hbrg2, hrest⟩ := h
      exact ret2x Try.results131 (res_cell rfl (box_load Ag49 Sz49 hbrg2 [] _ [] rfl rfl (fun h => nomatch h))) (res_tmp rfl) ⟨ra0, rn0, rc0, rfl, hrest⟩
    all_goals exact (h : False).elim
  refine c_seq ?_
  refine c_region ?_
  obtain ⟨w2, g2, ew2, eg2, hC2, hb2⟩ := new_block w [(.int .i64 net.1), (.int .i64 net.2.1), (.slice pa0 pn0 pc0)] 49
  refine pl_val (w' := w2) (.pointer (some ⟨g2, 0, none⟩)) (y_box rfl (by rw [ew2, eg2]; kernel_rfl)) ?_
  have h0 := h0.ext hC2
  have hC := hC.ext hC2
  have hO := hO.new (X' := [g2]) hC2 (fun q hq => by rw [List.mem_singleton.1 hq, eg2]; exact Nat.le_refl _) (List.nodup_cons.2 ⟨(fun h => nomatch h), List.nodup_nil⟩) (fun q hq => by rw [List.mem_singleton.1 hq]; exact hb2.lt)
  obtain ⟨w3, g3, ew3, eg3, hC3, hb3⟩ := new_block w2 [(.int .i64 0), (.int .i64 0), (.slice none 0 0)] 49
  refine pl_val (w' := w3) (.pointer (some ⟨g3, 0, none⟩)) (y_alloc (by rw [ew3, eg3]; kernel_rfl)) ?_
  have h0 := h0.ext hC3
  have hb2 := hb2.chg hC3 (fun h => nomatch h)
  have hC := hC.ext hC3
  have hO := hO.new (X' := [g3]) hC3 (fun q hq => by rw [List.mem_singleton.1 hq, eg3]; exact Nat.le_refl _) (List.nodup_cons.2 ⟨(fun h => nomatch h), List.nodup_nil⟩) (fun q hq => by rw [List.mem_singleton.1 hq]; exact hb3.lt)
  refine pl_val (.bool false) (y_assign rfl) ?_
  refine c_nil ?_
  refine c_seq ?_
  refine c_seq ?_
  refine c_region ?_
  refine pl_val (.agg #[(.int .i64 net.1), (.int .i64 net.2.1), (.slice pa0 pn0 pc0)]) (y_load rfl ((box_load Ag49 Sz49 hb2 [] [(.int .i64 net.1), (.int .i64 net.2.1), (.slice pa0 pn0 pc0)] [] rfl rfl (fun h => nomatch h)) _ (Chg.refl _ _))) ?_
  obtain ⟨r5, hr5, hs⟩ := bind_some hs
  refine pl_call Bd88 rfl (c_spec_l19Good (M := M) (net.1, net.2.1, net.2.2) h0 hO.fut hr5) ?_
  rintro _ w4 ⟨rfl, hC4⟩
  have h0 := h0.ext hC4
  have hb2 := hb2.chg hC4 (fun h => nomatch h)
  have hb3 := hb3.chg hC4 (fun h => nomatch h)
  have hC := hC.ext hC4
  have hO := hO.ext hC4
  refine pl_val (.bool (!r5)) (y_not rfl) ?_
  refine c_nil ?_
  rcases bif_some hs with ⟨hc6, hs⟩ | ⟨hc6, hs⟩
  · skip
    refine c_condT (congrArg Value.bool hc6) ?_
    refine c_seq ?_
    refine c_region ?_
    refine pl_val (.agg #[(.int .i64 0), (.int .i64 0), (.slice none 0 0)]) (y_build rfl (by kernel_rfl)) ?_
    obtain ⟨w7, hst7, hC7, hb7⟩ := box_store (P := Try.prog) hb3 [] [(.int .i64 0), (.int .i64 0), (.slice none 0 0)] [] [(.int .i64 0), (.int .i64 0), (.slice none 0 0)] rfl rfl (by intro u hu; simp only [List.mem_cons, List.not_mem_nil, or_false] at hu; rcases hu with rfl | rfl | rfl <;> rfl)
    refine pl_skip (w' := w7) (ys_store rfl rfl (hst7 _ _ rfl Sz49)) ?_
    have h0 := h0.mut hC7 (fun g hg => hO.inM g ((fun _ h => h) g hg)) (fun _ _ h => nomatch h)
    have hb2 := hb2.chg hC7 (fun hg => hO.apart _ ((fun _ h => h) _ hg) (mem_l (List.mem_singleton.2 rfl)))
    have hC := hC.step hC7 (fun g hg => hO.inN g ((fun _ h => h) g hg))
    have hO := hO.ext hC7
    have hb7 : BoxV w7 g3 49 [(.int .i64 0), (.int .i64 0), (.slice none 0 0)] := hb7
    refine pl_val (.bool false) (y_assign rfl) ?_
    refine c_nil ?_
    refine wp_ret ?_
    cases hs
    exact ⟨_, g3, none, 0, 0, fr_ovl 9 ⟨rfl, rfl, trivial⟩, hb7, hC, rs_nil⟩
  · skip
    refine c_condF (congrArg Value.bool hc6) ?_
    refine wp_skip ?_
    refine c_seq ?_
    refine c_region ?_
    refine pl_val (.agg #[(.int .i64 net.1), (.int .i64 net.2.1), (.slice pa0 pn0 pc0)]) (y_load rfl ((box_load Ag49 Sz49 hb2 [] [(.int .i64 net.1), (.int .i64 net.2.1), (.slice pa0 pn0 pc0)] [] rfl rfl (fun h => nomatch h)) _ (Chg.refl _ _))) ?_
    obtain ⟨w8, hst8, hC8, hb8⟩ := box_store (P := Try.prog) hb3 [] [(.int .i64 0), (.int .i64 0), (.slice none 0 0)] [] [(.int .i64 net.1), (.int .i64 net.2.1), (.slice pa0 pn0 pc0)] rfl rfl (by intro u hu; simp only [List.mem_cons, List.not_mem_nil, or_false] at hu; rcases hu with rfl | rfl | rfl <;> rfl)
    refine pl_skip (w' := w8) (ys_store rfl rfl (hst8 _ _ rfl Sz49)) ?_
    have h0 := h0.mut hC8 (fun g hg => hO.inM g ((fun _ h => h) g hg)) (fun _ _ h => nomatch h)
    have hb2 := hb2.chg hC8 (fun hg => hO.apart _ ((fun _ h => h) _ hg) (mem_l (List.mem_singleton.2 rfl)))
    have hC := hC.step hC8 (fun g hg => hO.inN g ((fun _ h => h) g hg))
    have hO := hO.ext hC8
    have hb8 : BoxV w8 g3 49 [(.int .i64 net.1), (.int .i64 net.2.1), (.slice pa0 pn0 pc0)] := hb8
    refine pl_val (.bool true) (y_assign rfl) ?_
    refine c_nil ?_
    refine wp_ret ?_
    cases hs
    exact ⟨_, g3, pa0, pn0, pc0, fr_ovl 9 ⟨rfl, rfl, trivial⟩, hb8, hC, (Keeps.out Keeps.refl h0)⟩

theorem Bd132 : Bodied Try.prog 132 := bodied Try.func132 (by kernel_rfl) rfl

def k_spec_l19Give__take0 (M : Nat → Prop) (w0 : World) (qa0 : Option Addr) (qn0 qc0 : Nat) (qf0 : List Nat) (r : (Int × Int × (List ((List Int) × (Int × (List (List Int)))))) × Bool) (a : Act) (w : World) : Prop :=
  ∃ (σ : Nat → Value) (rg2 : Nat) (ra0 : Option Addr) (rn0 rc0 : Nat) (rf0 : List Nat), a = fr 9 (ovl σ [(2, (.pointer (some ⟨rg2, 0, none⟩))), (3, (.bool r.2))]) ∧ BoxV w rg2 49 [(.int .i64 r.1.1), (.int .i64 r.1.2.1), (.slice ra0 rn0 rc0)] ∧ Chg (qf0 ++ ([])) w0 w ∧ (RT.os 108 (RT.pr (RT.os 3 (RT.int .i64)) (RT.pr (RT.int .i64) (RT.os 22 (RT.os 3 (RT.int .i64)))))).val M w (.slice ra0 rn0 rc0) r.1.2.2 rf0 ∧ Own (Nw w0 (qf0 ++ ([]))) (fun _ => True) w (rf0 ++ ([]))
def s_spec_l19Give__take0 (net : Int × Int × (List ((List Int) × (Int × (List (List Int)))))) : Option ((Int × Int × (List ((List Int) × (Int × (List (List Int)))))) × Bool) :=
  (s_spec_l19Good (net.1, net.2.1, net.2.2)).bind fun r5 =>
  (bif (!r5) then some ((0, 0, []), false) else some ((net.1, net.2.1, net.2.2), true))
set_option maxHeartbeats 4000000 in
theorem c_spec_l19Give__take0 {M : Nat → Prop} {w : World} {pa0 : Option Addr} {pn0 pc0 : Nat} {pf0 : List Nat} (net : Int × Int × (List ((List Int) × (Int × (List (List Int)))))) (h0 : (RT.os 108 (RT.pr (RT.os 3 (RT.int .i64)) (RT.pr (RT.int .i64) (RT.os 22 (RT.os 3 (RT.int .i64)))))).val M w (.slice pa0 pn0 pc0) net.2.2 pf0) (hI : Own (Nw w (pf0 ++ ([]))) M w (pf0 ++ ([]))) (hM : ∀ g, w.heap.size ≤ g → M g) {r : (Int × Int × (List ((List Int) × (Int × (List (List Int)))))) × Bool} (hs : s_spec_l19Give__take0 net = some r) :
    Gives Try.prog 131 [(.agg #[(.int .i64 net.1), (.int .i64 net.2.1), (.slice pa0 pn0 pc0)])] w (fun v w' => ∃ (ra0 : Option Addr) (rn0 rc0 : Nat) (rf0 : List Nat), v = (.tuple #[(.agg #[(.int .i64 r.1.1), (.int .i64 r.1.2.1), (.slice ra0 rn0 rc0)]), (.bool r.2)]) ∧ Chg (pf0 ++ ([])) w w' ∧ (RT.os 108 (RT.pr (RT.os 3 (RT.int .i64)) (RT.pr (RT.int .i64) (RT.os 22 (RT.os 3 (RT.int .i64)))))).val M w' (.slice ra0 rn0 rc0) r.1.2.2 rf0 ∧ Own (Nw w (pf0 ++ ([]))) (fun _ => True) w' (rf0 ++ ([]))) := by
  refine calls_fr Try.func131 rfl Try.ntmps131 (Nat.le_of_ble_eq_true rfl) ?_
  have hO := hI
  have hC := Chg.refl (pf0 ++ ([])) w
  unfold s_spec_l19Give__take0 at hs
  refine wp_mono (Q := KPost (k_spec_l19Give__take0 M w pa0 pn0 pc0 pf0 r)) ?_ (fun e a w1 h => ?_)
  rotate_left
  · cases e
    case ret =>
      obtain ⟨σ, rg2, ra0, rn0, rc0, rf0, rfl, hbrg2, hrest⟩ := h
      exact ret2x Try.results131 (res_cell rfl (box_load Ag49 Sz49 hbrg2 [] _ [] rfl rfl (fun h => nomatch h))) (res_tmp rfl) ⟨ra0, rn0, rc0, rf0, rfl, hrest⟩
    all_goals exact (h : False).elim
  refine c_seq ?_
  refine c_region ?_
  obtain ⟨w2, g2, ew2, eg2, hC2, hb2⟩ := new_block w [(.int .i64 net.1), (.int .i64 net.2.1), (.slice pa0 pn0 pc0)] 49
  refine pl_val (w' := w2) (.pointer (some ⟨g2, 0, none⟩)) (y_box rfl (by rw [ew2, eg2]; kernel_rfl)) ?_
  have h0 := h0.ext hC2
  have hC := hC.ext hC2
  have hO := hO.new (X' := [g2]) hC2 (fun q hq => by rw [List.mem_singleton.1 hq, eg2]; exact Nat.le_refl _) (List.nodup_cons.2 ⟨(fun h => nomatch h), List.nodup_nil⟩) (fun q hq => by rw [List.mem_singleton.1 hq]; exact hb2.lt)
  obtain ⟨w3, g3, ew3, eg3, hC3, hb3⟩ := new_block w2 [(.int .i64 0), (.int .i64 0), (.slice none 0 0)] 49
  refine pl_val (w' := w3) (.pointer (some ⟨g3, 0, none⟩)) (y_alloc (by rw [ew3, eg3]; kernel_rfl)) ?_
  have h0 := h0.ext hC3
  have hb2 := hb2.chg hC3 (fun h => nomatch h)
  have hC := hC.ext hC3
  have hO := hO.new (X' := [g3]) hC3 (fun q hq => by rw [List.mem_singleton.1 hq, eg3]; exact Nat.le_refl _) (List.nodup_cons.2 ⟨(fun h => nomatch h), List.nodup_nil⟩) (fun q hq => by rw [List.mem_singleton.1 hq]; exact hb3.lt)
  refine pl_val (.bool false) (y_assign rfl) ?_
  refine c_nil ?_
  refine c_seq ?_
  refine c_seq ?_
  refine c_region ?_
  refine pl_val (.agg #[(.int .i64 net.1), (.int .i64 net.2.1), (.slice pa0 pn0 pc0)]) (y_load rfl ((box_load Ag49 Sz49 hb2 [] [(.int .i64 net.1), (.int .i64 net.2.1), (.slice pa0 pn0 pc0)] [] rfl rfl (fun h => nomatch h)) _ (Chg.refl _ _))) ?_
  have hO := hO.fr2
  obtain ⟨r5, hr5, hs⟩ := bind_some hs
  refine pl_call Bd88 rfl (c_spec_l19Good (M := (Less M pf0)) (net.1, net.2.1, net.2.2) (((Frz.os (Frz.pr (Frz.os Frz.int) (Frz.pr Frz.int (Frz.os (Frz.os Frz.int)))))).val h0 Less.sub Less.not) hO.less.fut hr5) ?_
  rintro _ w4 ⟨rfl, hC4⟩
  have h0 := h0.ext hC4
  have hb2 := hb2.chg hC4 (fun h => nomatch h)
  have hb3 := hb3.chg hC4 (fun h => nomatch h)
  have hC := hC.ext hC4
  have hO := hO.ext hC4
  refine pl_val (.bool (!r5)) (y_not rfl) ?_
  refine c_nil ?_
  rcases bif_some hs with ⟨hc6, hs⟩ | ⟨hc6, hs⟩
  · skip
    refine c_condT (congrArg Value.bool hc6) ?_
    refine c_seq ?_
    refine c_region ?_
    refine pl_val (.agg #[(.int .i64 0), (.int .i64 0), (.slice none 0 0)]) (y_build rfl (by kernel_rfl)) ?_
    obtain ⟨w7, hst7, hC7, hb7⟩ := box_store (P := Try.prog) hb3 [] [(.int .i64 0), (.int .i64 0), (.slice none 0 0)] [] [(.int .i64 0), (.int .i64 0), (.slice none 0 0)] rfl rfl (by intro u hu; simp only [List.mem_cons, List.not_mem_nil, or_false] at hu; rcases hu with rfl | rfl | rfl <;> rfl)
    refine pl_skip (w' := w7) (ys_store rfl rfl (hst7 _ _ rfl Sz49)) ?_
    have hO := hO.fr1
    have h0 := h0.mut hC7 (fun g hg => hO.inM g ((fun _ h => h) g hg)) (fun g hg e => hO.apart g ((fun _ h => h) g hg) (mem_l (e)))
    have hb2 := hb2.chg hC7 (fun hg => hO.apart _ ((fun _ h => h) _ hg) (mem_r (mem_l (List.mem_singleton.2 rfl))))
    have hC := hC.step hC7 (fun g hg => hO.inN g ((fun _ h => h) g hg))
    have hO := hO.ext hC7
    have hb7 : BoxV w7 g3 49 [(.int .i64 0), (.int .i64 0), (.slice none 0 0)] := hb7
    refine pl_val (.bool false) (y_assign rfl) ?_
    refine c_nil ?_
    refine wp_ret ?_
    cases hs
    have hO := hO.drop
    have hO := hO.drop
    have hO := hO.drop
    have hO := hO.nil
    exact ⟨_, g3, none, 0, 0, [], fr_ovl 9 ⟨rfl, rfl, trivial⟩, hb7, hC, os_nil, hO.top⟩
  · skip
    refine c_condF (congrArg Value.bool hc6) ?_
    refine wp_skip ?_
    refine c_seq ?_
    refine c_region ?_
    refine pl_val (.agg #[(.int .i64 net.1), (.int .i64 net.2.1), (.slice pa0 pn0 pc0)]) (y_load rfl ((box_load Ag49 Sz49 hb2 [] [(.int .i64 net.1), (.int .i64 net.2.1), (.slice pa0 pn0 pc0)] [] rfl rfl (fun h => nomatch h)) _ (Chg.refl _ _))) ?_
    obtain ⟨w8, hst8, hC8, hb8⟩ := box_store (P := Try.prog) hb3 [] [(.int .i64 0), (.int .i64 0), (.slice none 0 0)] [] [(.int .i64 net.1), (.int .i64 net.2.1), (.slice pa0 pn0 pc0)] rfl rfl (by intro u hu; simp only [List.mem_cons, List.not_mem_nil, or_false] at hu; rcases hu with rfl | rfl | rfl <;> rfl)
    refine pl_skip (w' := w8) (ys_store rfl rfl (hst8 _ _ rfl Sz49)) ?_
    have hO := hO.fr1
    have h0 := h0.mut hC8 (fun g hg => hO.inM g ((fun _ h => h) g hg)) (fun g hg e => hO.apart g ((fun _ h => h) g hg) (mem_l (e)))
    have hb2 := hb2.chg hC8 (fun hg => hO.apart _ ((fun _ h => h) _ hg) (mem_r (mem_l (List.mem_singleton.2 rfl))))
    have hC := hC.step hC8 (fun g hg => hO.inN g ((fun _ h => h) g hg))
    have hO := hO.ext hC8
    have hb8 : BoxV w8 g3 49 [(.int .i64 net.1), (.int .i64 net.2.1), (.slice pa0 pn0 pc0)] := hb8
    refine pl_val (.bool true) (y_assign rfl) ?_
    refine c_nil ?_
    refine wp_ret ?_
    cases hs
    have hO := hO.drop
    have hO := hO.fr1
    have hO := hO.drop
    exact ⟨_, g3, pa0, pn0, pc0, pf0, fr_ovl 9 ⟨rfl, rfl, trivial⟩, hb8, hC, h0, hO.top⟩

theorem Bd131 : Bodied Try.prog 131 := bodied Try.func131 (by kernel_rfl) rfl

def k_spec_FixVariable (M : Nat → Prop) (w0 : World) (r : (Int × Int × (List ((List Int) × (Int × (List (List Int)))))) × Bool) (a : Act) (w : World) : Prop :=
  ∃ (σ : Nat → Value) (rg6 : Nat) (ra0 : Option Addr) (rn0 rc0 : Nat) (rf0 : List Nat), a = fr 53 (ovl σ [(6, (.pointer (some ⟨rg6, 0, none⟩))), (7, (.bool r.2))]) ∧ BoxV w rg6 49 [(.int .i64 r.1.1), (.int .i64 r.1.2.1), (.slice ra0 rn0 rc0)] ∧ Chg [] w0 w ∧ (RT.os 108 (RT.pr (RT.os 3 (RT.int .i64)) (RT.pr (RT.int .i64) (RT.os 22 (RT.os 3 (RT.int .i64)))))).val M w (.slice ra0 rn0 rc0) r.1.2.2 rf0 ∧ Own (Nw w0 []) (fun _ => True) w (rf0 ++ ([]))
def s_spec_FixVariable (net : Int × Int × (List ((List Int) × (Int × (List (List Int)))))) (v_ : Int) (value : Int) : Option ((Int × Int × (List ((List Int) × (Int × (List (List Int)))))) × Bool) :=
  ((s_spec_l19Good (net.1, net.2.1, net.2.2)).bind fun r8 =>
  (bif (!r8) then some true else (s_spec_l1In v_ 0 (w64 (net.1 - 1))).bind fun r11 =>
  (bif (!r11) then some true else (s_spec_l1In value 0 (w64 (net.2.1 - 1))).bind fun r14 =>
  some (!r14)))).bind fun s4 =>
  (bif s4 then some ((0, 0, []), false) else (s_spec_l19Copy net.2.2).bind fun r19 =>
  (app r19 ([([v_], (1, [[value]]))])).bind fun y48 =>
  (s_spec_l19Give__take0 (net.1, net.2.1, y48)).bind fun r52 =>
  some ((r52.1.1, r52.1.2.1, r52.1.2.2), r52.2))
set_option maxHeartbeats 4000000 in
theorem c_spec_FixVariable {M : Nat → Prop} {w : World} {pa0 : Option Addr} {pn0 pc0 : Nat} (net : Int × Int × (List ((List Int) × (Int × (List (List Int)))))) (v_ : Int) (value : Int) (h0 : (RT.rs (RT.pr (RT.rs (RT.int .i64)) (RT.pr (RT.int .i64) (RT.rs (RT.rs (RT.int .i64)))))).val M w (.slice pa0 pn0 pc0) net.2.2 ([])) (hM : ∀ g, w.heap.size ≤ g → M g) {r : (Int × Int × (List ((List Int) × (Int × (List (List Int)))))) × Bool} (hs : s_spec_FixVariable net v_ value = some r) :
    Gives Try.prog 71 [(.agg #[(.int .i64 net.1), (.int .i64 net.2.1), (.slice pa0 pn0 pc0)]), (.int .i64 v_), (.int .i64 value)] w (fun v w' => ∃ (ra0 : Option Addr) (rn0 rc0 : Nat) (rf0 : List Nat), v = (.tuple #[(.agg #[(.int .i64 r.1.1), (.int .i64 r.1.2.1), (.slice ra0 rn0 rc0)]), (.bool r.2)]) ∧ Chg [] w w' ∧ (RT.os 108 (RT.pr (RT.os 3 (RT.int .i64)) (RT.pr (RT.int .i64) (RT.os 22 (RT.os 3 (RT.int .i64)))))).val M w' (.slice ra0 rn0 rc0) r.1.2.2 rf0 ∧ Own (Nw w []) (fun _ => True) w' (rf0 ++ ([]))) := by
  refine calls_fr Try.func71 rfl Try.ntmps71 (Nat.le_of_ble_eq_true rfl) ?_
  have hO := Own.start (N := Nw w []) hM Nw.fut
  have hC := Chg.refl [] w
  unfold s_spec_FixVariable at hs
  refine wp_mono (Q := KPost (k_spec_FixVariable M w r)) ?_ (fun e a w1 h => ?_)
  rotate_left
  · cases e
    case ret =>
      obtain ⟨σ, rg6, ra0, rn0, rc0, rf0, rfl, hbrg6, hrest⟩ := h
      exact ret2x Try.results71 (res_cell rfl (box_load Ag49 Sz49 hbrg6 [] _ [] rfl rfl (fun h => nomatch h))) (res_tmp rfl) ⟨ra0, rn0, rc0, rf0, rfl, hrest⟩
    all_goals exact (h : False).elim
  refine c_seq ?_
  refine c_region ?_
  obtain ⟨w2, g2, ew2, eg2, hC2, hb2⟩ := new_block w [(.int .i64 net.1), (.int .i64 net.2.1), (.slice pa0 pn0 pc0)] 49
  refine pl_val (w' := w2) (.pointer (some ⟨g2, 0, none⟩)) (y_box rfl (by rw [ew2, eg2]; kernel_rfl)) ?_
  have h0 := h0.ext hC2
  have hC := hC.ext hC2
  have hO := hO.new (X' := [g2]) hC2 (fun q hq => by rw [List.mem_singleton.1 hq, eg2]; exact Nat.le_refl _) (List.nodup_cons.2 ⟨(fun h => nomatch h), List.nodup_nil⟩) (fun q hq => by rw [List.mem_singleton.1 hq]; exact hb2.lt)
  obtain ⟨w3, g3, ew3, eg3, hC3, hb3⟩ := new_block w2 [(.int .i64 0), (.int .i64 0), (.slice none 0 0)] 49
  refine pl_val (w' := w3) (.pointer (some ⟨g3, 0, none⟩)) (y_alloc (by rw [ew3, eg3]; kernel_rfl)) ?_
  have h0 := h0.ext hC3
  have hb2 := hb2.chg hC3 (fun h => nomatch h)
  have hC := hC.ext hC3
  have hO := hO.new (X' := [g3]) hC3 (fun q hq => by rw [List.mem_singleton.1 hq, eg3]; exact Nat.le_refl _) (List.nodup_cons.2 ⟨(fun h => nomatch h), List.nodup_nil⟩) (fun q hq => by rw [List.mem_singleton.1 hq]; exact hb3.lt)
  refine pl_val (.bool false) (y_assign rfl) ?_
  refine c_nil ?_
  refine c_seq ?_
  refine c_seq ?_
  obtain ⟨s4, hm6, hs⟩ := bind_some hs
  refine c_mid (I := fun a w5 => ∃ (σ : Nat → Value), a = fr 53 (ovl σ [(1, (.int .i64 v_)), (2, (.int .i64 value)), (3, (.pointer (some ⟨g2, 0, none⟩))), (6, (.pointer (some ⟨g3, 0, none⟩))), (7, (.bool false)), (27, (.bool s4))]) ∧ Chg [] w3 w5) ?_ ?_
  · replace hs := hm6
    have hMid := Chg.refl [] w3
    refine c_region ?_
    refine pl_val (.agg #[(.int .i64 net.1), (.int .i64 net.2.1), (.slice pa0 pn0 pc0)]) (y_load rfl ((box_load Ag49 Sz49 hb2 [] [(.int .i64 net.1), (.int .i64 net.2.1), (.slice pa0 pn0 pc0)] [] rfl rfl (fun h => nomatch h)) _ (Chg.refl _ _))) ?_
    obtain ⟨r8, hr8, hs⟩ := bind_some hs
    refine pl_call Bd88 rfl (c_spec_l19Good (M := M) (net.1, net.2.1, net.2.2) h0 hO.fut hr8) ?_
    rintro _ w7 ⟨rfl, hC7⟩
    have h0 := h0.ext hC7
    have hb2 := hb2.chg hC7 (fun h => nomatch h)
    have hb3 := hb3.chg hC7 (fun h => nomatch h)
    have hMid := hMid.ext hC7
    have hC := hC.ext hC7
    have hO := hO.ext hC7
    refine pl_val (.bool (!r8)) (y_not rfl) ?_
    refine pl_val (.bool (!r8)) (y_move rfl) ?_
    rcases bif_some hs with ⟨hc9, hs⟩ | ⟨hc9, hs⟩
    · skip
      refine pl_not (tg := 12) (by kernel_rfl) (congrArg Value.bool hc9) ?_
      refine pl_not (tg := 12) (by kernel_rfl) (congrArg Value.bool hc9) ?_
      refine pl_not (tg := 12) (by kernel_rfl) (congrArg Value.bool hc9) ?_
      refine pl_not (tg := 12) (by kernel_rfl) (congrArg Value.bool hc9) ?_
      refine pl_not (tg := 12) (by kernel_rfl) (congrArg Value.bool hc9) ?_
      refine pl_not (tg := 12) (by kernel_rfl) (congrArg Value.bool hc9) ?_
      refine pl_val (.bool true) (y_pick_t (congrArg Value.bool hc9) rfl) ?_
      refine pl_val (.bool true) (y_move rfl) ?_
      refine pl_not (tg := 20) (by kernel_rfl) (by rfl) ?_
      refine pl_not (tg := 20) (by kernel_rfl) (by rfl) ?_
      refine pl_not (tg := 20) (by kernel_rfl) (by rfl) ?_
      refine pl_not (tg := 20) (by kernel_rfl) (by rfl) ?_
      refine pl_not (tg := 20) (by kernel_rfl) (by rfl) ?_
      refine pl_not (tg := 20) (by kernel_rfl) (by rfl) ?_
      refine pl_val (.bool true) (y_pick_t (by rfl) rfl) ?_
      refine c_nil ?_
      cases hs
      exact ⟨_, fr_ovl 53 ⟨rfl, rfl, rfl, rfl, rfl, rfl, trivial⟩, hMid⟩
    · skip
      refine pl_yes (.int .i64 v_) (tg := 12) (by kernel_rfl) (congrArg Value.bool hc9) (y_move rfl) ?_
      refine pl_yes (.pointer (some ⟨g2, 0, none⟩)) (tg := 12) (by kernel_rfl) (congrArg Value.bool hc9) (y_faddr rfl Fa49x0) ?_
      refine pl_yes (.int .i64 net.1) (tg := 12) (by kernel_rfl) (congrArg Value.bool hc9) (y_load rfl ((box_load Ag3 Sz3 hb2 [] [(.int .i64 net.1)] [(.int .i64 net.2.1), (.slice pa0 pn0 pc0)] rfl rfl (fun _ => rfl)) _ (Chg.refl _ _))) ?_
      refine pl_yes (.int .i64 (w64 (net.1 - 1))) (tg := 12) (by kernel_rfl) (congrArg Value.bool hc9) (y_sub rfl rfl) ?_
      obtain ⟨r11, hr11, hs⟩ := bind_some hs
      refine pl_cally (tg := 12) (by kernel_rfl) (congrArg Value.bool hc9) Bd137 rfl (c_spec_l1In (M := M) v_ 0 (w64 (net.1 - 1))  hO.fut hr11) ?_
      rintro _ w10 ⟨rfl, hC10⟩
      have h0 := h0.ext hC10
      have hb2 := hb2.chg hC10 (fun h => nomatch h)
      have hb3 := hb3.chg hC10 (fun h => nomatch h)
      have hMid := hMid.ext hC10
      have hC := hC.ext hC10
      have hO := hO.ext hC10
      refine pl_yes (.bool (!r11)) (tg := 12) (by kernel_rfl) (congrArg Value.bool hc9) (y_not rfl) ?_
      refine pl_val (.bool (!r11)) (y_pick_f (congrArg Value.bool hc9) rfl) ?_
      refine pl_val (.bool (!r11)) (y_move rfl) ?_
      rcases bif_some hs with ⟨hc12, hs⟩ | ⟨hc12, hs⟩
      · skip
        refine pl_not (tg := 20) (by kernel_rfl) (congrArg Value.bool hc12) ?_
        refine pl_not (tg := 20) (by kernel_rfl) (congrArg Value.bool hc12) ?_
        refine pl_not (tg := 20) (by kernel_rfl) (congrArg Value.bool hc12) ?_
        refine pl_not (tg := 20) (by kernel_rfl) (congrArg Value.bool hc12) ?_
        refine pl_not (tg := 20) (by kernel_rfl) (congrArg Value.bool hc12) ?_
        refine pl_not (tg := 20) (by kernel_rfl) (congrArg Value.bool hc12) ?_
        refine pl_val (.bool true) (y_pick_t (congrArg Value.bool hc12) rfl) ?_
        refine c_nil ?_
        cases hs
        exact ⟨_, fr_ovl 53 ⟨rfl, rfl, rfl, rfl, rfl, rfl, trivial⟩, hMid⟩
      · skip
        refine pl_yes (.int .i64 value) (tg := 20) (by kernel_rfl) (congrArg Value.bool hc12) (y_move rfl) ?_
        refine pl_yes (.pointer (some ⟨g2, 1, none⟩)) (tg := 20) (by kernel_rfl) (congrArg Value.bool hc12) (y_faddr rfl Fa49x1) ?_
        refine pl_yes (.int .i64 net.2.1) (tg := 20) (by kernel_rfl) (congrArg Value.bool hc12) (y_load rfl ((box_load Ag3 Sz3 hb2 [(.int .i64 net.1)] [(.int .i64 net.2.1)] [(.slice pa0 pn0 pc0)] rfl rfl (fun _ => rfl)) _ (Chg.refl _ _))) ?_
        refine pl_yes (.int .i64 (w64 (net.2.1 - 1))) (tg := 20) (by kernel_rfl) (congrArg Value.bool hc12) (y_sub rfl rfl) ?_
        obtain ⟨r14, hr14, hs⟩ := bind_some hs
        refine pl_cally (tg := 20) (by kernel_rfl) (congrArg Value.bool hc12) Bd137 rfl (c_spec_l1In (M := M) value 0 (w64 (net.2.1 - 1))  hO.fut hr14) ?_
        rintro _ w13 ⟨rfl, hC13⟩
        have h0 := h0.ext hC13
        have hb2 := hb2.chg hC13 (fun h => nomatch h)
        have hb3 := hb3.chg hC13 (fun h => nomatch h)
        have hMid := hMid.ext hC13
        have hC := hC.ext hC13
        have hO := hO.ext hC13
        refine pl_yes (.bool (!r14)) (tg := 20) (by kernel_rfl) (congrArg Value.bool hc12) (y_not rfl) ?_
        refine pl_val (.bool (!r14)) (y_pick_f (congrArg Value.bool hc12) rfl) ?_
        refine c_nil ?_
        cases hs
        exact ⟨_, fr_ovl 53 ⟨rfl, rfl, rfl, rfl, rfl, rfl, trivial⟩, hMid⟩
  · rintro a1 w5 ⟨σ, rfl, hCs4⟩
    have h0 := h0.ext hCs4
    have hb2 := hb2.chg hCs4 (fun h => nomatch h)
    have hb3 := hb3.chg hCs4 (fun h => nomatch h)
    have hC := hC.ext hCs4
    have hO := hO.ext hCs4
    rcases bif_some hs with ⟨hc15, hs⟩ | ⟨hc15, hs⟩
    · skip
      refine c_condT (congrArg Value.bool hc15) ?_
      refine c_seq ?_
      refine c_region ?_
      refine pl_val (.agg #[(.int .i64 0), (.int .i64 0), (.slice none 0 0)]) (y_build rfl (by kernel_rfl)) ?_
      obtain ⟨w16, hst16, hC16, hb16⟩ := box_store (P := Try.prog) hb3 [] [(.int .i64 0), (.int .i64 0), (.slice none 0 0)] [] [(.int .i64 0), (.int .i64 0), (.slice none 0 0)] rfl rfl (by intro u hu; simp only [List.mem_cons, List.not_mem_nil, or_false] at hu; rcases hu with rfl | rfl | rfl <;> rfl)
      refine pl_skip (w' := w16) (ys_store rfl rfl (hst16 _ _ rfl Sz49)) ?_
      have h0 := h0.mut hC16 (fun g hg => hO.inM g ((fun _ h => h) g hg)) (fun _ _ h => nomatch h)
      have hb2 := hb2.chg hC16 (fun hg => hO.apart _ ((fun _ h => h) _ hg) (mem_l (List.mem_singleton.2 rfl)))
      have hC := hC.step hC16 (fun g hg => hO.inN g ((fun _ h => h) g hg))
      have hO := hO.ext hC16
      have hb16 : BoxV w16 g3 49 [(.int .i64 0), (.int .i64 0), (.slice none 0 0)] := hb16
      refine pl_val (.bool false) (y_assign rfl) ?_
      refine c_nil ?_
      refine wp_ret ?_
      cases hs
      have hO := hO.drop
      have hO := hO.drop
      have hO := hO.nil
      exact ⟨_, g3, none, 0, 0, [], fr_ovl 53 ⟨rfl, rfl, trivial⟩, hb16, hC, os_nil, hO.top⟩
    · skip
      refine c_condF (congrArg Value.bool hc15) ?_
      refine wp_skip ?_
      refine c_seq ?_
      obtain ⟨r19, hr19, hs⟩ := bind_some hs
      refine c_mid (I := fun a w22 => ∃ (σ : Nat → Value) (a18x0 : Option Addr) (c18x0 : Nat) (f18x0 : List Nat) (g21 : Nat) (n18x0 : Nat), a = fr 53 (ovl σ [(1, (.int .i64 v_)), (2, (.int .i64 value)), (6, (.pointer (some ⟨g3, 0, none⟩))), (7, (.bool false)), (8, (.pointer (some ⟨g21, 0, none⟩)))]) ∧ Chg [] w w22 ∧ Own (Nw w []) M w22 (([g21]) ++ (f18x0 ++ (([g3]) ++ []))) ∧ BoxV w22 g3 49 [(.int .i64 0), (.int .i64 0), (.slice none 0 0)] ∧ (RT.os 108 (RT.pr (RT.os 3 (RT.int .i64)) (RT.pr (RT.int .i64) (RT.os 22 (RT.os 3 (RT.int .i64)))))).val M w22 (.slice a18x0 n18x0 c18x0) r19 f18x0 ∧ BoxV w22 g21 49 [(.int .i64 net.1), (.int .i64 net.2.1), (.slice a18x0 n18x0 c18x0)]) ?_ ?_
      · skip
        refine x_start [9] Mx rfl ?_
        have hCw28 := Chg.drew w5
        generalize World.drew w5 = w28 at hCw28 ⊢
        have h0 := h0.ext hCw28
        have hb2 := hb2.chg hCw28 (fun h => nomatch h)
        have hb3 := hb3.chg hCw28 (fun h => nomatch h)
        have hC := hC.ext hCw28
        have hO := hO.ext hCw28
        have hS := Chg.refl [] w28
        refine x_p 0 (.pointer (some ⟨g2, 0, none⟩)) rfl (by kernel_rfl)  (fun _ => y_faddr rfl Fa49x0) (fun _ => hS) ?_
        refine x_l 1 (.int .i64 net.1) rfl (by kernel_rfl)  (fun w' hw' => y_load rfl ((box_load Ag3 Sz3 hb2 [] [(.int .i64 net.1)] [(.int .i64 net.2.1), (.slice pa0 pn0 pc0)] rfl rfl (fun _ => rfl)) w' hw')) hS ?_
        refine x_p 2 (.pointer (some ⟨g2, 1, none⟩)) rfl (by kernel_rfl)  (fun _ => y_faddr rfl Fa49x1) (fun _ => hS) ?_
        refine x_l 3 (.int .i64 net.2.1) rfl (by kernel_rfl)  (fun w' hw' => y_load rfl ((box_load Ag3 Sz3 hb2 [(.int .i64 net.1)] [(.int .i64 net.2.1)] [(.slice pa0 pn0 pc0)] rfl rfl (fun _ => rfl)) w' hw')) hS ?_
        refine x_p 4 (.pointer (some ⟨g2, 2, none⟩)) rfl (by kernel_rfl)  (fun _ => y_faddr rfl Fa49x2) (fun _ => hS) ?_
        refine x_l 5 (.slice pa0 pn0 pc0) rfl (by kernel_rfl)  (fun w' hw' => y_load rfl ((box_load Ag47 Sz47 hb2 [(.int .i64 net.1), (.int .i64 net.2.1)] [(.slice pa0 pn0 pc0)] [] rfl rfl (fun _ => rfl)) w' hw')) hS ?_
        refine x_two (i := 6) (j := 8) (by kernel_rfl) ?_ ?_
        · skip
          refine xk_call (b := false) rfl  Bd132 rfl (c_spec_l19Copy (M := M) net.2.2 h0 hO.fut hr19) rfl (by rintro _ _ _ ⟨a29x0, n29x0, c29x0, f29x0, rfl, hC29, hv29x0, hOc29⟩; exact hS.ext hC29) ?_
          rintro _ w29 ⟨a29x0, n29x0, c29x0, f29x0, rfl, hC29, hv29x0, hOc29⟩
          have h0 := h0.ext hC29
          have hb2 := hb2.chg hC29 (fun h => nomatch h)
          have hb3 := hb3.chg hC29 (fun h => nomatch h)
          have hC := hC.ext hC29
          have hO := Own.join0 hO hC29 hOc29
          have hO := hO.perm (R := f29x0 ++ (([g3]) ++ (([g2]) ++ ([])))) (by simp)
          have hS := hS.ext hC29
          refine x_p 7 (.agg #[(.int .i64 net.1), (.int .i64 net.2.1), (.slice a29x0 n29x0 c29x0)]) rfl (by kernel_rfl)  (fun _ => y_build rfl (by kernel_rfl)) (fun _ => hS) ?_
          refine x_one (i := 8) (by kernel_rfl) ?_
          obtain ⟨w32, g32, ew32, eg32, hC32, hb32⟩ := new_block w29 [(.int .i64 0), (.int .i64 0), (.slice none 0 0)] 49
          refine xk_val (w' := w32) (b := false) (.pointer (some ⟨g32, 0, none⟩)) rfl  (y_alloc (by rw [ew32, eg32]; kernel_rfl)) rfl (fun _ => hS.ext hC32) ?_
          have h0 := h0.ext hC32
          have hb2 := hb2.chg hC32 (fun h => nomatch h)
          have hb3 := hb3.chg hC32 (fun h => nomatch h)
          have hv29x0 := hv29x0.ext hC32
          have hC := hC.ext hC32
          have hO := hO.new (X' := [g32]) hC32 (fun q hq => by rw [List.mem_singleton.1 hq, eg32]; exact Nat.le_refl _) (List.nodup_cons.2 ⟨(fun h => nomatch h), List.nodup_nil⟩) (fun q hq => by rw [List.mem_singleton.1 hq]; exact hb32.lt)
          have hS := hS.ext hC32
          refine x_one (i := 9) (by kernel_rfl) ?_
          obtain ⟨w33, hst33, hC33, hb33⟩ := box_store (P := Try.prog) hb32 [] [(.int .i64 0), (.int .i64 0), (.slice none 0 0)] [] [(.int .i64 net.1), (.int .i64 net.2.1), (.slice a29x0 n29x0 c29x0)] rfl rfl (by intro u hu; simp only [List.mem_cons, List.not_mem_nil, or_false] at hu; rcases hu with rfl | rfl | rfl <;> rfl)
          refine xk_skip (w' := w33) (b := true) rfl (ys_store rfl rfl (hst33 _ _ rfl Sz49)) rfl (fun h => nomatch h) ?_
          have h0 := h0.mut hC33 (fun g hg => hO.inM g ((fun _ h => h) g hg)) (fun _ _ h => nomatch h)
          have hb2 := hb2.chg hC33 (fun hg => hO.apart _ ((fun _ h => h) _ hg) (mem_r (mem_r (mem_l (List.mem_singleton.2 rfl)))))
          have hb3 := hb3.chg hC33 (fun hg => hO.apart _ ((fun _ h => h) _ hg) (mem_r (mem_l (List.mem_singleton.2 rfl))))
          have hv29x0 := hv29x0.mut hC33 (fun g hg => hO.inM g ((fun _ h => h) g hg)) (fun g hg e => hO.apart g ((fun _ h => h) g hg) (mem_l (e)))
          have hC := hC.step hC33 (fun g hg => hO.inN g ((fun _ h => h) g hg))
          have hO := hO.ext hC33
          have hb33 : BoxV w33 g32 49 [(.int .i64 net.1), (.int .i64 net.2.1), (.slice a29x0 n29x0 c29x0)] := hb33
          refine x_end (by kernel_rfl) ?_
          clear hS
          have hO := hO.fr3
          have hO := hO.drop
          have hO := hO.fr2
          have hO := hO.fr2
          have hO := hO.fr2
          exact ⟨_, a29x0, c29x0, f29x0, g32, n29x0, fr_ovl 53 ⟨rfl, rfl, rfl, rfl, rfl, trivial⟩, hC, hO, hb3, hv29x0, hb33⟩
        · skip
          obtain ⟨w34, g34, ew34, eg34, hC34, hb34⟩ := new_block w28 [(.int .i64 0), (.int .i64 0), (.slice none 0 0)] 49
          refine xk_val (w' := w34) (b := false) (.pointer (some ⟨g34, 0, none⟩)) rfl  (y_alloc (by rw [ew34, eg34]; kernel_rfl)) rfl (fun _ => hS.ext hC34) ?_
          have h0 := h0.ext hC34
          have hb2 := hb2.chg hC34 (fun h => nomatch h)
          have hb3 := hb3.chg hC34 (fun h => nomatch h)
          have hC := hC.ext hC34
          have hO := hO.new (X' := [g34]) hC34 (fun q hq => by rw [List.mem_singleton.1 hq, eg34]; exact Nat.le_refl _) (List.nodup_cons.2 ⟨(fun h => nomatch h), List.nodup_nil⟩) (fun q hq => by rw [List.mem_singleton.1 hq]; exact hb34.lt)
          have hS := hS.ext hC34
          refine x_one (i := 6) (by kernel_rfl) ?_
          refine xk_call (b := false) rfl  Bd132 rfl (c_spec_l19Copy (M := M) net.2.2 h0 hO.fut hr19) rfl (by rintro _ _ _ ⟨a35x0, n35x0, c35x0, f35x0, rfl, hC35, hv35x0, hOc35⟩; exact hS.ext hC35) ?_
          rintro _ w35 ⟨a35x0, n35x0, c35x0, f35x0, rfl, hC35, hv35x0, hOc35⟩
          have h0 := h0.ext hC35
          have hb2 := hb2.chg hC35 (fun h => nomatch h)
          have hb3 := hb3.chg hC35 (fun h => nomatch h)
          have hb34 := hb34.chg hC35 (fun h => nomatch h)
          have hC := hC.ext hC35
          have hO := Own.join0 hO hC35 hOc35
          have hO := hO.perm (R := f35x0 ++ (([g34]) ++ (([g3]) ++ (([g2]) ++ ([]))))) (by simp)
          have hS := hS.ext hC35
          refine x_p 7 (.agg #[(.int .i64 net.1), (.int .i64 net.2.1), (.slice a35x0 n35x0 c35x0)]) rfl (by kernel_rfl)  (fun _ => y_build rfl (by kernel_rfl)) (fun _ => hS) ?_
          refine x_one (i := 9) (by kernel_rfl) ?_
          obtain ⟨w38, hst38, hC38, hb38⟩ := box_store (P := Try.prog) hb34 [] [(.int .i64 0), (.int .i64 0), (.slice none 0 0)] [] [(.int .i64 net.1), (.int .i64 net.2.1), (.slice a35x0 n35x0 c35x0)] rfl rfl (by intro u hu; simp only [List.mem_cons, List.not_mem_nil, or_false] at hu; rcases hu with rfl | rfl | rfl <;> rfl)
          refine xk_skip (w' := w38) (b := true) rfl (ys_store rfl rfl (hst38 _ _ rfl Sz49)) rfl (fun h => nomatch h) ?_
          have hO := hO.fr1
          have h0 := h0.mut hC38 (fun g hg => hO.inM g ((fun _ h => h) g hg)) (fun _ _ h => nomatch h)
          have hb2 := hb2.chg hC38 (fun hg => hO.apart _ ((fun _ h => h) _ hg) (mem_r (mem_r (mem_l (List.mem_singleton.2 rfl)))))
          have hb3 := hb3.chg hC38 (fun hg => hO.apart _ ((fun _ h => h) _ hg) (mem_r (mem_l (List.mem_singleton.2 rfl))))
          have hv35x0 := hv35x0.mut hC38 (fun g hg => hO.inM g ((fun _ h => h) g hg)) (fun g hg e => hO.apart g ((fun _ h => h) g hg) (mem_l (e)))
          have hC := hC.step hC38 (fun g hg => hO.inN g ((fun _ h => h) g hg))
          have hO := hO.ext hC38
          have hb38 : BoxV w38 g34 49 [(.int .i64 net.1), (.int .i64 net.2.1), (.slice a35x0 n35x0 c35x0)] := hb38
          refine x_end (by kernel_rfl) ?_
          clear hS
          have hO := hO.fr3
          have hO := hO.drop
          have hO := hO.fr2
          have hO := hO.fr2
          have hO := hO.fr2
          exact ⟨_, a35x0, c35x0, f35x0, g34, n35x0, fr_ovl 53 ⟨rfl, rfl, rfl, rfl, rfl, trivial⟩, hC, hO, hb3, hv35x0, hb38⟩
      · rintro a1 w22 ⟨σ, a18x0, c18x0, f18x0, g21, n18x0, rfl, hC, hO, hb3, hv18x0, hb22⟩
        refine c_seq ?_
        refine c_region ?_
        refine pl_val (.pointer (some ⟨g21, 2, none⟩)) (y_faddr rfl Fa49x2) ?_
        refine pl_val (.slice a18x0 n18x0 c18x0) (y_load rfl ((box_load Ag47 Sz47 hb22 [(.int .i64 net.1), (.int .i64 net.2.1)] [(.slice a18x0 n18x0 c18x0)] [] rfl rfl (fun _ => rfl)) _ (Chg.refl _ _))) ?_
        refine pl_val (.int .i64 v_) (y_move rfl) ?_
        obtain ⟨w39, g39, ew39, eg39, hC39, hb39⟩ := new_block w22 [(.int .i64 v_)] 3
        refine pl_val (w' := w39) (.slice (some ⟨g39, 0, none⟩) 1 1) (y_bslice rfl (by rw [ew39, eg39]; kernel_rfl)) ?_
        have hb3 := hb3.chg hC39 (fun h => nomatch h)
        have hv18x0 := hv18x0.ext hC39
        have hb22 := hb22.chg hC39 (fun h => nomatch h)
        have hC := hC.ext hC39
        have hO := hO.new (X' := [g39]) hC39 (fun q hq => by rw [List.mem_singleton.1 hq, eg39]; exact Nat.le_refl _) (List.nodup_cons.2 ⟨(fun h => nomatch h), List.nodup_nil⟩) (fun q hq => by rw [List.mem_singleton.1 hq]; exact hb39.lt)
        have hv39 := os_of_box (r := (RT.int .i64)) (M := M) (css := [[(.int .i64 v_)]]) (fps := [([] : List Nat)]) (xs := ([v_] : List Int)) hb39 ⟨⟨rfl, rfl⟩, trivial⟩ (Nat.le_of_ble_eq_true rfl) (List.nodup_cons.2 ⟨(fun h => nomatch h), List.nodup_nil⟩)
        have hv39 : (RT.os 3 (RT.int .i64)).val M w39 (.slice (some ⟨g39, 0, none⟩) 1 1) [v_] [g39] := hv39
        refine pl_val (.int .i64 value) (y_move rfl) ?_
        obtain ⟨w41, g41, ew41, eg41, hC41, hb41⟩ := new_block w39 [(.int .i64 value)] 3
        refine pl_val (w' := w41) (.slice (some ⟨g41, 0, none⟩) 1 1) (y_bslice rfl (by rw [ew41, eg41]; kernel_rfl)) ?_
        have hb3 := hb3.chg hC41 (fun h => nomatch h)
        have hv18x0 := hv18x0.ext hC41
        have hb22 := hb22.chg hC41 (fun h => nomatch h)
        have hv39 := hv39.ext hC41
        have hC := hC.ext hC41
        have hO := hO.new (X' := [g41]) hC41 (fun q hq => by rw [List.mem_singleton.1 hq, eg41]; exact Nat.le_refl _) (List.nodup_cons.2 ⟨(fun h => nomatch h), List.nodup_nil⟩) (fun q hq => by rw [List.mem_singleton.1 hq]; exact hb41.lt)
        have hv41 := os_of_box (r := (RT.int .i64)) (M := M) (css := [[(.int .i64 value)]]) (fps := [([] : List Nat)]) (xs := ([value] : List Int)) hb41 ⟨⟨rfl, rfl⟩, trivial⟩ (Nat.le_of_ble_eq_true rfl) (List.nodup_cons.2 ⟨(fun h => nomatch h), List.nodup_nil⟩)
        have hv41 : (RT.os 3 (RT.int .i64)).val M w41 (.slice (some ⟨g41, 0, none⟩) 1 1) [value] [g41] := hv41
        obtain ⟨w43, g43, ew43, eg43, hC43, hb43⟩ := new_block w41 [(.slice (some ⟨g41, 0, none⟩) 1 1)] 22
        refine pl_val (w' := w43) (.slice (some ⟨g43, 0, none⟩) 1 1) (y_bslice rfl (by rw [ew43, eg43]; kernel_rfl)) ?_
        have hb3 := hb3.chg hC43 (fun h => nomatch h)
        have hv18x0 := hv18x0.ext hC43
        have hb22 := hb22.chg hC43 (fun h => nomatch h)
        have hv39 := hv39.ext hC43
        have hv41 := hv41.ext hC43
        have hC := hC.ext hC43
        have hO := hO.new (X' := [g43]) hC43 (fun q hq => by rw [List.mem_singleton.1 hq, eg43]; exact Nat.le_refl _) (List.nodup_cons.2 ⟨(fun h => nomatch h), List.nodup_nil⟩) (fun q hq => by rw [List.mem_singleton.1 hq]; exact hb43.lt)
        have hO := hO.perm (R := (g43 :: ((([g41])) ++ ([]))) ++ (([g39]) ++ (([g21]) ++ (f18x0 ++ (([g3]) ++ ([])))))) (by simp)
        have hnd43 := hO.nd
        have hv43 := os_of_box (r := (RT.os 3 (RT.int .i64))) (M := M) (css := [[(.slice (some ⟨g41, 0, none⟩) 1 1)]]) (fps := [([g41] : List Nat)]) (xs := ([[value]] : List (List Int))) hb43 ⟨(os_unval hv41), trivial⟩ (Nat.le_of_ble_eq_true rfl) hnd43
        have hv43 : (RT.os 22 (RT.os 3 (RT.int .i64))).val M w43 (.slice (some ⟨g43, 0, none⟩) 1 1) [[value]] (g43 :: ((([g41])) ++ ([]))) := hv43
        refine pl_val (.agg #[(.int .i64 1), (.slice (some ⟨g43, 0, none⟩) 1 1)]) (y_build rfl (by kernel_rfl)) ?_
        refine pl_val (.agg #[(.slice (some ⟨g39, 0, none⟩) 1 1), (.int .i64 1), (.slice (some ⟨g43, 0, none⟩) 1 1)]) (y_build rfl (by kernel_rfl)) ?_
        obtain ⟨w45, g45, ew45, eg45, hC45, hb45⟩ := new_block w43 [(.slice (some ⟨g39, 0, none⟩) 1 1), (.int .i64 1), (.slice (some ⟨g43, 0, none⟩) 1 1)] 108
        refine pl_val (w' := w45) (.slice (some ⟨g45, 0, none⟩) 1 1) (y_bslice rfl (by rw [ew45, eg45]; kernel_rfl)) ?_
        have hb3 := hb3.chg hC45 (fun h => nomatch h)
        have hv18x0 := hv18x0.ext hC45
        have hb22 := hb22.chg hC45 (fun h => nomatch h)
        have hv39 := hv39.ext hC45
        have hv43 := hv43.ext hC45
        have hC := hC.ext hC45
        have hO := hO.fr1
        have hO := hO.new (X' := [g45]) hC45 (fun q hq => by rw [List.mem_singleton.1 hq, eg45]; exact Nat.le_refl _) (List.nodup_cons.2 ⟨(fun h => nomatch h), List.nodup_nil⟩) (fun q hq => by rw [List.mem_singleton.1 hq]; exact hb45.lt)
        have hO := hO.perm (R := (g45 :: ((([g39]) ++ (g43 :: ((([g41])) ++ ([])))) ++ ([]))) ++ (([g21]) ++ (f18x0 ++ (([g3]) ++ ([]))))) (by simp)
        have hnd45 := hO.nd
        have hv45 := os_of_box (r := (RT.pr (RT.os 3 (RT.int .i64)) (RT.pr (RT.int .i64) (RT.os 22 (RT.os 3 (RT.int .i64)))))) (M := M) (css := [[(.slice (some ⟨g39, 0, none⟩) 1 1), (.int .i64 1), (.slice (some ⟨g43, 0, none⟩) 1 1)]]) (fps := [([g39] ++ (g43 :: ((([g41])) ++ ([]))) : List Nat)]) (xs := ([([v_], (1, [[value]]))] : List ((List Int) × (Int × (List (List Int)))))) hb45 ⟨⟨_, _, _, _, rfl, rfl, (os_unval hv39), ⟨_, _, _, _, rfl, rfl, ⟨rfl, rfl⟩, (os_unval hv43)⟩⟩, trivial⟩ (Nat.le_of_ble_eq_true rfl) hnd45
        have hv45 : (RT.os 108 (RT.pr (RT.os 3 (RT.int .i64)) (RT.pr (RT.int .i64) (RT.os 22 (RT.os 3 (RT.int .i64)))))).val M w45 (.slice (some ⟨g45, 0, none⟩) 1 1) [([v_], (1, [[value]]))] (g45 :: ((([g39]) ++ (g43 :: ((([g41])) ++ ([])))) ++ ([]))) := hv45
        obtain ⟨y48, hy48, hs⟩ := bind_some hs
        have hO := hO.fr2
        obtain ⟨a47, n47, c47, w47, f47, hr47, hC47, hf47, hv47⟩ := app_os Rw47 hy48 hv18x0 hv45 hO.inM (fun g hg hq => hO.apart g hq (mem_l hg))
        have hG47 := os_block hv18x0
        refine pl_val (w' := w47) (.slice a47 n47 c47) (y_append rfl rfl (hr47 _)) ?_
        have hO := hO.fr1
        have hO := hO.fr1
        have hb3 := hb3.chg hC47 (fun hg => hO.apart _ (hG47 _ hg) (mem_r (mem_r (mem_l (List.mem_singleton.2 rfl)))))
        have hb22 := hb22.chg hC47 (fun hg => hO.apart _ (hG47 _ hg) (mem_r (mem_l (List.mem_singleton.2 rfl))))
        have hC := hC.step hC47 (fun g hg => hO.inN g (hG47 g hg))
        have hO := hO.eat hC47 hf47 (os_nodup hv47) hv47.fpl
        refine pl_val (.pointer (some ⟨g21, 2, none⟩)) (y_faddr rfl Fa49x2) ?_
        obtain ⟨w50, hst50, hC50, hb50⟩ := box_store (P := Try.prog) hb22 [(.int .i64 net.1), (.int .i64 net.2.1)] [(.slice a18x0 n18x0 c18x0)] [] [(.slice a47 n47 c47)] rfl rfl (by intro u hu; simp only [List.mem_cons, List.not_mem_nil, or_false] at hu; rcases hu with rfl <;> rfl)
        refine pl_skip (w' := w50) (ys_store rfl rfl (hst50 _ _ rfl Sz47)) ?_
        have hO := hO.fr1
        have hb3 := hb3.chg hC50 (fun hg => hO.apart _ ((fun _ h => h) _ hg) (mem_r (mem_l (List.mem_singleton.2 rfl))))
        have hv47 := hv47.mut hC50 (fun g hg => hO.inM g ((fun _ h => h) g hg)) (fun g hg e => hO.apart g ((fun _ h => h) g hg) (mem_l (e)))
        have hC := hC.step hC50 (fun g hg => hO.inN g ((fun _ h => h) g hg))
        have hO := hO.ext hC50
        have hb50 : BoxV w50 g21 49 [(.int .i64 net.1), (.int .i64 net.2.1), (.slice a47 n47 c47)] := hb50
        refine c_nil ?_
        refine c_seq ?_
        refine c_region ?_
        refine pl_val (.agg #[(.int .i64 net.1), (.int .i64 net.2.1), (.slice a47 n47 c47)]) (y_load rfl ((box_load Ag49 Sz49 hb50 [] [(.int .i64 net.1), (.int .i64 net.2.1), (.slice a47 n47 c47)] [] rfl rfl (fun h => nomatch h)) _ (Chg.refl _ _))) ?_
        have hO := hO.fr1
        have hL51 := hO
        have hI51 := Own.lend (F := (f47 ++ ([]))) (R := ([g21]) ++ (([g3]) ++ ([]))) (Own.perm (hL51) (by simp))
        obtain ⟨r52, hr52, hs⟩ := bind_some hs
        refine pl_call Bd131 rfl (c_spec_l19Give__take0 (M := M) (net.1, net.2.1, y48) hv47 hI51 hI51.fut hr52) ?_
        rintro _ w51 ⟨a51x0, n51x0, c51x0, f51x0, rfl, hC51, hv51x0, hOc51⟩
        have hO := hO.perm (R := (f47 ++ ([])) ++ (([g21]) ++ (([g3]) ++ ([])))) (by simp)
        have hb3 := hb3.chg hC51 (fun hg => hO.apart _ ((fun _ h => h) _ hg) (mem_r (mem_l (List.mem_singleton.2 rfl))))
        have hb50 := hb50.chg hC51 (fun hg => hO.apart _ ((fun _ h => h) _ hg) (mem_l (List.mem_singleton.2 rfl)))
        have hC := hC.step hC51 (fun g hg => hO.inN g ((fun _ h => h) g hg))
        have hO := Own.join hO hC51 hOc51
        have hO := hO.perm (R := f51x0 ++ (([g21]) ++ (([g3]) ++ ([])))) (by simp)
        refine pl_val (.agg #[(.int .i64 r52.1.1), (.int .i64 r52.1.2.1), (.slice a51x0 n51x0 c51x0)]) (y_extract rfl (by kernel_rfl)) ?_
        refine pl_val (.bool r52.2) (y_extract rfl (by kernel_rfl)) ?_
        obtain ⟨w54, hst54, hC54, hb54⟩ := box_store (P := Try.prog) hb3 [] [(.int .i64 0), (.int .i64 0), (.slice none 0 0)] [] [(.int .i64 r52.1.1), (.int .i64 r52.1.2.1), (.slice a51x0 n51x0 c51x0)] rfl rfl (by intro u hu; simp only [List.mem_cons, List.not_mem_nil, or_false] at hu; rcases hu with rfl | rfl | rfl <;> rfl)
        refine pl_skip (w' := w54) (ys_store rfl rfl (hst54 _ _ rfl Sz49)) ?_
        have hO := hO.fr2
        have hb50 := hb50.chg hC54 (fun hg => hO.apart _ ((fun _ h => h) _ hg) (mem_r (mem_l (List.mem_singleton.2 rfl))))
        have hv51x0 := hv51x0.mut hC54 (fun g hg => hO.inM g ((fun _ h => h) g hg)) (fun g hg e => hO.apart g ((fun _ h => h) g hg) (mem_l (e)))
        have hC := hC.step hC54 (fun g hg => hO.inN g ((fun _ h => h) g hg))
        have hO := hO.ext hC54
        have hb54 : BoxV w54 g3 49 [(.int .i64 r52.1.1), (.int .i64 r52.1.2.1), (.slice a51x0 n51x0 c51x0)] := hb54
        refine pl_val (.bool r52.2) (y_assign rfl) ?_
        refine c_nil ?_
        refine wp_ret ?_
        cases hs
        have hO := hO.drop
        have hO := hO.fr1
        have hO := hO.drop
        exact ⟨_, g3, a51x0, n51x0, c51x0, f51x0, fr_ovl 53 ⟨rfl, rfl, trivial⟩, hb54, hC, hv51x0, hO.top⟩

def k_impl_isTemplateSize (M : Nat → Prop) (w0 : World) (r : Bool) (a : Act) (w : World) : Prop :=
  ∃ (σ : Nat → Value) , a = fr 9 (ovl σ [(2, (.bool r))]) ∧ Chg [] w0 w
def s_impl_isTemplateSize (n : Int) : Option (Bool) :=
  (bif (decide (1 ≤ n)) then some (decide (n ≤ 4)) else some false)
set_option maxHeartbeats 4000000 in
theorem c_impl_isTemplateSize {M : Nat → Prop} {w : World}  (n : Int)  (hM : ∀ g, w.heap.size ≤ g → M g) {r : Bool} (hs : s_impl_isTemplateSize n = some r) :
    Gives Try.prog 90 [(.int .i64 n)] w (fun v w' => v = (.bool r) ∧ Chg [] w w') := by
  refine calls_fr Try.func90 rfl Try.ntmps90 (Nat.le_of_ble_eq_true rfl) ?_
  have hO := Own.start (N := Nw w []) hM Nw.fut
  have hC := Chg.refl [] w
  unfold s_impl_isTemplateSize at hs
  refine wp_mono (Q := KPost (k_impl_isTemplateSize M w r)) ?_ (fun e a w1 h => ?_)
  rotate_left
  · cases e
    case ret =>
      obtain ⟨σ, rfl, hrest⟩ := h
      exact ret1x Try.results90 (res_tmp rfl) ⟨rfl, hrest⟩
    all_goals exact (h : False).elim
  refine c_seq ?_
  refine c_region ?_
  refine pl_val (.bool false) (y_assign rfl) ?_
  refine c_nil ?_
  refine c_seq ?_
  refine c_region ?_
  refine pl_val (.int .i64 n) (y_move rfl) ?_
  refine pl_val (.bool (decide (1 ≤ n))) (y_geq rfl rfl) ?_
  refine pl_val (.bool (decide (1 ≤ n))) (y_move rfl) ?_
  rcases bif_some hs with ⟨hc1, hs⟩ | ⟨hc1, hs⟩
  · skip
    refine pl_yes (.int .i64 n) (tg := 5) (by kernel_rfl) (congrArg Value.bool hc1) (y_move rfl) ?_
    refine pl_yes (.bool (decide (n ≤ 4))) (tg := 5) (by kernel_rfl) (congrArg Value.bool hc1) (y_leq rfl rfl) ?_
    refine pl_val (.bool (decide (n ≤ 4))) (y_pick_t (congrArg Value.bool hc1) rfl) ?_
    refine pl_val (.bool (decide (n ≤ 4))) (y_assign rfl) ?_
    refine c_nil ?_
    refine wp_ret ?_
    cases hs
    exact ⟨_, fr_ovl 9 ⟨rfl, trivial⟩, hC⟩
  · skip
    refine pl_not (tg := 5) (by kernel_rfl) (congrArg Value.bool hc1) ?_
    refine pl_not (tg := 5) (by kernel_rfl) (congrArg Value.bool hc1) ?_
    refine pl_val (.bool false) (y_pick_f (congrArg Value.bool hc1) rfl) ?_
    refine pl_val (.bool false) (y_assign rfl) ?_
    refine c_nil ?_
    refine wp_ret ?_
    cases hs
    exact ⟨_, fr_ovl 9 ⟨rfl, trivial⟩, hC⟩

def k_impl_inSize (M : Nat → Prop) (w0 : World) (r : Bool) (a : Act) (w : World) : Prop :=
  ∃ (σ : Nat → Value) , a = fr 21 (ovl σ [(4, (.bool r))]) ∧ Chg [] w0 w
def s_impl_inSize (list : List Int) (n : Int) : Option (Bool) :=
  (forR (S := Unit) (R := Bool) (fun _ x8 s5 =>
  (bif (decide (x8 < 0)) then some (.rt false) else (bif (decide (n ≤ x8)) then some (.rt false) else some (.nx ())))) 0 list ()).bind fun o9 => after o9 (fun r_ => some r_) (fun s5 =>
  some true)
set_option maxHeartbeats 4000000 in
theorem c_impl_inSize {M : Nat → Prop} {w : World} {pa0 : Option Addr} {pn0 pc0 : Nat} (list : List Int) (n : Int) (h0 : (RT.rs (RT.int .i64)).val M w (.slice pa0 pn0 pc0) list ([])) (hM : ∀ g, w.heap.size ≤ g → M g) {r : Bool} (hs : s_impl_inSize list n = some r) :
    Gives Try.prog 113 [(.slice pa0 pn0 pc0), (.int .i64 n)] w (fun v w' => v = (.bool r) ∧ Chg [] w w') := by
  refine calls_fr Try.func113 rfl Try.ntmps113 (Nat.le_of_ble_eq_true rfl) ?_
  have hO := Own.start (N := Nw w []) hM Nw.fut
  have hC := Chg.refl [] w
  unfold s_impl_inSize at hs
  refine wp_mono (Q := KPost (k_impl_inSize M w r)) ?_ (fun e a w1 h => ?_)
  rotate_left
  · cases e
    case ret =>
      obtain ⟨σ, rfl, hrest⟩ := h
      exact ret1x Try.results113 (res_tmp rfl) ⟨rfl, hrest⟩
    all_goals exact (h : False).elim
  refine c_seq ?_
  refine c_region ?_
  refine pl_val (.bool false) (y_assign rfl) ?_
  refine c_nil ?_
  refine c_seq ?_
  refine c_seq ?_
  refine c_region ?_
  refine pl_val (.slice pa0 pn0 pc0) (y_move rfl) ?_
  refine pl_val (.int .i64 (list.length : Int)) (y_len' Sl22 (rs_len h0) rfl) ?_
  refine pl_val (.int .i64 0) (y_move rfl) ?_
  refine c_nil ?_
  obtain ⟨o9, hl10, hs⟩ := bind_some hs
  refine wp_block ?_
  refine wp_forR (id := 0) (I := fun i_ xs_ s5 a w6 => ∃ k7 : Nat, i_ = (k7 : Int) ∧ List.drop k7 list = xs_ ∧ (∃ (σ : Nat → Value), a = fr 21 (ovl σ [(1, (.int .i64 n)), (7, (.slice pa0 pn0 pc0)), (8, (.int .i64 (list.length : Int))), (9, (.int .i64 (k7 : Int)))]) ∧ Chg [] w w6 ∧ Own (Nw w []) M w6 ([]) ∧ (RT.rs (RT.int .i64)).val M w6 (.slice pa0 pn0 pc0) list ([]))) (J := fun s5 a w6 => ∃ (σ : Nat → Value), a = fr 21 (ovl σ []) ∧ Chg [] w w6 ∧ Own (Nw w []) M w6 ([]) ∧ (RT.rs (RT.int .i64)).val M w6 (.slice pa0 pn0 pc0) list ([])) (K := (k_impl_inSize M w)) ?_ ?_ list 0 () o9 _ _ ?_ hl10 ?_
  · rintro _ s5 a w6 ⟨k7, rfl, hd, σ, rfl, hC, hO, h0⟩
    have hlt := drop_nil_ge hd
    refine c_seq ?_
    refine c_region ?_
    refine pl_val (.bool (decide ((k7 : Int) < (list.length : Int)))) (y_lss rfl rfl) ?_
    refine c_nil ?_
    refine c_seq ?_
    refine c_condF (congrArg Value.bool (decide_eq_false hlt)) ?_
    refine wp_exit ?_
    exact ⟨rfl, _, fr_ovl 21 trivial, hC, hO, h0⟩
  · rintro _ x8 xs_ s5 o9 a w6 ⟨k7, rfl, hd, σ, rfl, hC, hO, h0⟩ hs
    have hlt := drop_cons_lt hd
    have hxk7 := drop_cons_idx hd
    refine c_seq ?_
    refine c_region ?_
    refine pl_val (.bool (decide ((k7 : Int) < (list.length : Int)))) (y_lss rfl rfl) ?_
    refine c_nil ?_
    refine c_seq ?_
    refine c_condT (congrArg Value.bool (decide_eq_true hlt)) ?_
    refine wp_skip ?_
    refine c_seq ?_
    refine wp_block ?_
    refine c_seq ?_
    refine c_region ?_
    obtain ⟨b11, o11, hp11, ha11⟩ := rs_idx Sl22 Sz3 h0 hxk7
    refine pl_val (.pointer (some ⟨b11, o11, none⟩)) (hp11 _ _ _ _ _ _ _ _ _ rfl rfl) ?_
    refine pl_val (.int .i64 x8) (y_load rfl ((at_load_int Ag3 Sz3 ha11) _ (Chg.refl _ _))) ?_
    refine pl_val (.int .i64 x8) (y_assign rfl) ?_
    refine c_nil ?_
    refine c_seq ?_
    refine c_region ?_
    refine pl_val (.int .i64 x8) (y_move rfl) ?_
    refine pl_val (.bool (decide (x8 < 0))) (y_lss rfl rfl) ?_
    refine pl_val (.bool (decide (x8 < 0))) (y_move rfl) ?_
    rcases bif_some hs with ⟨hc12, hs⟩ | ⟨hc12, hs⟩
    · skip
      refine pl_not (tg := 15) (by kernel_rfl) (congrArg Value.bool hc12) ?_
      refine pl_not (tg := 15) (by kernel_rfl) (congrArg Value.bool hc12) ?_
      refine pl_not (tg := 15) (by kernel_rfl) (congrArg Value.bool hc12) ?_
      refine pl_val (.bool true) (y_pick_t (congrArg Value.bool hc12) rfl) ?_
      refine c_nil ?_
      refine c_condT (by rfl) ?_
      refine c_seq ?_
      refine c_region ?_
      refine pl_val (.bool false) (y_assign rfl) ?_
      refine c_nil ?_
      refine wp_ret ?_
      cases hs
      exact ⟨_, fr_ovl 21 ⟨rfl, trivial⟩, hC⟩
    · skip
      refine pl_yes (.int .i64 x8) (tg := 15) (by kernel_rfl) (congrArg Value.bool hc12) (y_move rfl) ?_
      refine pl_yes (.int .i64 n) (tg := 15) (by kernel_rfl) (congrArg Value.bool hc12) (y_move rfl) ?_
      refine pl_yes (.bool (decide (n ≤ x8))) (tg := 15) (by kernel_rfl) (congrArg Value.bool hc12) (y_geq rfl rfl) ?_
      refine pl_val (.bool (decide (n ≤ x8))) (y_pick_f (congrArg Value.bool hc12) rfl) ?_
      refine c_nil ?_
      rcases bif_some hs with ⟨hc13, hs⟩ | ⟨hc13, hs⟩
      · skip
        refine c_condT (congrArg Value.bool hc13) ?_
        refine c_seq ?_
        refine c_region ?_
        refine pl_val (.bool false) (y_assign rfl) ?_
        refine c_nil ?_
        refine wp_ret ?_
        cases hs
        exact ⟨_, fr_ovl 21 ⟨rfl, trivial⟩, hC⟩
      · skip
        refine c_condF (congrArg Value.bool hc13) ?_
        refine wp_skip ?_
        refine c_region ?_
        refine pl_val (.int .i64 (w64 ((k7 : Int) + 1))) (y_add rfl rfl) ?_
        refine pl_val (.int .i64 (w64 ((k7 : Int) + 1))) (y_move rfl) ?_
        refine c_nil ?_
        cases hs
        exact ⟨_, rfl, drop_cons_next hd, _, fr_ovl 21 ⟨rfl, rfl, rfl, congrArg (Value.int .i64) (w64_succ hlt (Int.natCast_nonneg _) (rs_max h0)), trivial⟩, hC, hO, h0⟩
  · skip
    exact ⟨0, rfl, rfl, _, fr_ovl 21 ⟨rfl, rfl, rfl, rfl, trivial⟩, hC, hO, h0⟩
  · cases o9 with
    | nx _ => exact True.intro
    | rt r_ =>
      have hs := after_rt hs
      intro a1 w1 hK
      cases hs
      exact hK
    | br s5 =>
      have hs := after_br hs
      rintro a1 w6 ⟨σ, rfl, hC, hO, h0⟩
      refine c_seq ?_
      refine c_region ?_
      refine pl_val (.bool true) (y_assign rfl) ?_
      refine c_nil ?_
      refine wp_ret ?_
      cases hs
      exact ⟨_, fr_ovl 21 ⟨rfl, trivial⟩, hC⟩

def k_impl_compareLists (M : Nat → Prop) (w0 : World) (r : Int) (a : Act) (w : World) : Prop :=
  ∃ (σ : Nat → Value) , a = fr 48 (ovl σ [(4, (.int .i64 r))]) ∧ Chg [] w0 w
def s_impl_compareLists (s_ : List Int) (t : List Int) : Option (Int) :=
  (iter (S := Int) (R := Int) (fun s25 =>
  (bif ((decide (s25 < (s_.length : Int))) && (decide (s25 < (t.length : Int)))) then (idx s_ s25).bind fun x42 =>
  (idx t s25).bind fun x44 =>
  (bif (x42 != x44) then (idx s_ s25).bind fun x48 =>
  (idx t s25).bind fun x50 =>
  (bif (decide (x48 < x50)) then some (.rt (-1)) else some (.rt 1)) else some (.nx (w64 (s25 + 1)))) else some (.br s25))) FU 0).bind fun o29 => after o29 (fun r_ => some r_) (fun s25 =>
  (bif (decide ((s_.length : Int) < (t.length : Int))) then some (-1) else (bif (decide ((t.length : Int) < (s_.length : Int))) then some 1 else some 0)))
set_option maxHeartbeats 4000000 in
theorem c_impl_compareLists {M : Nat → Prop} {w : World} {pa0 : Option Addr} {pn0 pc0 : Nat} {pa1 : Option Addr} {pn1 pc1 : Nat} (s_ : List Int) (t : List Int) (h0 : (RT.rs (RT.int .i64)).val M w (.slice pa0 pn0 pc0) s_ ([])) (h1 : (RT.rs (RT.int .i64)).val M w (.slice pa1 pn1 pc1) t ([])) (hM : ∀ g, w.heap.size ≤ g → M g) {r : Int} (hs : s_impl_compareLists s_ t = some r) :
    Gives Try.prog 180 [(.slice pa0 pn0 pc0), (.slice pa1 pn1 pc1)] w (fun v w' => v = (.int .i64 r) ∧ Chg [] w w') := by
  refine calls_fr Try.func180 rfl Try.ntmps180 (Nat.le_of_ble_eq_true rfl) ?_
  have hO := Own.start (N := Nw w []) hM Nw.fut
  have hC := Chg.refl [] w
  unfold s_impl_compareLists at hs
  refine wp_mono (Q := KPost (k_impl_compareLists M w r)) ?_ (fun e a w1 h => ?_)
  rotate_left
  · cases e
    case ret =>
      obtain ⟨σ, rfl, hrest⟩ := h
      exact ret1x Try.results180 (res_tmp rfl) ⟨rfl, hrest⟩
    all_goals exact (h : False).elim
  refine c_seq ?_
  refine c_region ?_
  refine pl_val (.int .i64 0) (y_assign rfl) ?_
  refine c_nil ?_
  refine c_seq ?_
  refine c_seq ?_
  refine c_region ?_
  refine pl_val (.int .i64 0) (y_assign rfl) ?_
  refine c_nil ?_
  obtain ⟨o29, hl30, hs⟩ := bind_some hs
  refine wp_block ?_
  refine wp_iter (id := 0) (I := fun s25 a w26 => ∃ (σ : Nat → Value), a = fr 48 (ovl σ [(0, (.slice pa0 pn0 pc0)), (1, (.slice pa1 pn1 pc1)), (5, (.int .i64 s25))]) ∧ Chg [] w w26 ∧ Own (Nw w []) M w26 ([]) ∧ (RT.rs (RT.int .i64)).val M w26 (.slice pa0 pn0 pc0) s_ ([]) ∧ (RT.rs (RT.int .i64)).val M w26 (.slice pa1 pn1 pc1) t ([])) (J := fun s25 a w26 => ∃ (σ : Nat → Value), a = fr 48 (ovl σ [(0, (.slice pa0 pn0 pc0)), (1, (.slice pa1 pn1 pc1))]) ∧ Chg [] w w26 ∧ Own (Nw w []) M w26 ([]) ∧ (RT.rs (RT.int .i64)).val M w26 (.slice pa0 pn0 pc0) s_ ([]) ∧ (RT.rs (RT.int .i64)).val M w26 (.slice pa1 pn1 pc1) t ([])) (K := (k_impl_compareLists M w)) ?_ FU 0 o29 _ _ ?_ hl30 ?_
  · rintro s25 o29 a w26 ⟨σ, rfl, hC, hO, h0, h1⟩ hs
    refine c_seq ?_
    refine c_seq ?_
    refine c_mid (I := fun a w32 => ∃ (σ : Nat → Value), a = fr 48 (ovl σ [(0, (.slice pa0 pn0 pc0)), (1, (.slice pa1 pn1 pc1)), (5, (.int .i64 s25)), (15, (.bool ((decide (s25 < (s_.length : Int))) && (decide (s25 < (t.length : Int))))))]) ∧ Chg [] w26 w32) ?_ ?_
    · have hMid := Chg.refl [] w26
      refine c_region ?_
      refine pl_val (.int .i64 s25) (y_move rfl) ?_
      refine pl_val (.slice pa0 pn0 pc0) (y_move rfl) ?_
      refine pl_val (.int .i64 (s_.length : Int)) (y_len' Sl22 (rs_len h0) rfl) ?_
      refine pl_val (.bool (decide (s25 < (s_.length : Int)))) (y_lss rfl rfl) ?_
      refine pl_val (.bool (decide (s25 < (s_.length : Int)))) (y_move rfl) ?_
      rcases Bool.eq_false_or_eq_true ((decide (s25 < (s_.length : Int)))) with hc34 | hc34
      · skip
        refine pl_yes (.int .i64 s25) (tg := 10) (by kernel_rfl) (congrArg Value.bool hc34) (y_move rfl) ?_
        refine pl_yes (.slice pa1 pn1 pc1) (tg := 10) (by kernel_rfl) (congrArg Value.bool hc34) (y_move rfl) ?_
        refine pl_yes (.int .i64 (t.length : Int)) (tg := 10) (by kernel_rfl) (congrArg Value.bool hc34) (y_len' Sl22 (rs_len h1) rfl) ?_
        refine pl_yes (.bool (decide (s25 < (t.length : Int)))) (tg := 10) (by kernel_rfl) (congrArg Value.bool hc34) (y_lss rfl rfl) ?_
        refine pl_val (.bool ((decide (s25 < (s_.length : Int))) && (decide (s25 < (t.length : Int))))) (y_pick_t (congrArg Value.bool hc34) (congrArg Value.bool (by rw [hc34]; rfl))) ?_
        refine c_nil ?_
        exact ⟨_, fr_ovl 48 ⟨rfl, rfl, rfl, rfl, trivial⟩, hMid⟩
      · skip
        refine pl_not (tg := 10) (by kernel_rfl) (congrArg Value.bool hc34) ?_
        refine pl_not (tg := 10) (by kernel_rfl) (congrArg Value.bool hc34) ?_
        refine pl_not (tg := 10) (by kernel_rfl) (congrArg Value.bool hc34) ?_
        refine pl_not (tg := 10) (by kernel_rfl) (congrArg Value.bool hc34) ?_
        refine pl_val (.bool ((decide (s25 < (s_.length : Int))) && (decide (s25 < (t.length : Int))))) (y_pick_f (congrArg Value.bool hc34) (congrArg Value.bool (by rw [hc34]; rfl))) ?_
        refine c_nil ?_
        exact ⟨_, fr_ovl 48 ⟨rfl, rfl, rfl, rfl, trivial⟩, hMid⟩
    · rintro a1 w32 ⟨σ, rfl, hCs31⟩
      have h0 := h0.ext hCs31
      have h1 := h1.ext hCs31
      have hC := hC.ext hCs31
      have hO := hO.ext hCs31
      rcases bif_some hs with ⟨hc35, hs⟩ | ⟨hc35, hs⟩
      · skip
        refine c_condT (congrArg Value.bool hc35) ?_
        refine wp_skip ?_
        refine c_seq ?_
        refine wp_block ?_
        refine c_seq ?_
        refine x_start [] Mx rfl ?_
        have hCw41 := Chg.drew w32
        generalize World.drew w32 = w41 at hCw41 ⊢
        have h0 := h0.ext hCw41
        have h1 := h1.ext hCw41
        have hC := hC.ext hCw41
        have hO := hO.ext hCw41
        have hS := Chg.refl [] w41
        refine x_p 0 (.slice pa0 pn0 pc0) rfl (by kernel_rfl)  (fun _ => y_move rfl) (fun _ => hS) ?_
        refine x_p 1 (.int .i64 s25) rfl (by kernel_rfl)  (fun _ => y_move rfl) (fun _ => hS) ?_
        obtain ⟨x42, hx42, hs⟩ := bind_some hs
        obtain ⟨b43, o43, hp43, ha43⟩ := rs_idx Sl22 Sz3 h0 hx42
        refine x_p 2 (.pointer (some ⟨b43, o43, none⟩)) rfl (by kernel_rfl)  (fun _ => hp43 _ _ _ _ _ _ _ _ _ rfl rfl) (fun _ => hS) ?_
        refine x_l 3 (.int .i64 x42) rfl (by kernel_rfl)  (fun w' hw' => y_load rfl ((at_load_int Ag3 Sz3 ha43) w' hw')) hS ?_
        refine x_p 4 (.slice pa1 pn1 pc1) rfl (by kernel_rfl)  (fun _ => y_move rfl) (fun _ => hS) ?_
        refine x_p 5 (.int .i64 s25) rfl (by kernel_rfl)  (fun _ => y_move rfl) (fun _ => hS) ?_
        obtain ⟨x44, hx44, hs⟩ := bind_some hs
        obtain ⟨b45, o45, hp45, ha45⟩ := rs_idx Sl22 Sz3 h1 hx44
        refine x_p 6 (.pointer (some ⟨b45, o45, none⟩)) rfl (by kernel_rfl)  (fun _ => hp45 _ _ _ _ _ _ _ _ _ rfl rfl) (fun _ => hS) ?_
        refine x_l 7 (.int .i64 x44) rfl (by kernel_rfl)  (fun w' hw' => y_load rfl ((at_load_int Ag3 Sz3 ha45) w' hw')) hS ?_
        refine x_p 8 (.bool (x42 != x44)) rfl (by kernel_rfl)  (fun _ => y_neq rfl rfl) (fun _ => hS) ?_
        refine x_end (by kernel_rfl) ?_
        clear hS
        rcases bif_some hs with ⟨hc46, hs⟩ | ⟨hc46, hs⟩
        · skip
          refine c_condT (congrArg Value.bool hc46) ?_
          refine c_seq ?_
          refine c_seq ?_
          refine x_start [] Mx rfl ?_
          have hCw47 := Chg.drew w41
          generalize World.drew w41 = w47 at hCw47 ⊢
          have h0 := h0.ext hCw47
          have h1 := h1.ext hCw47
          have hC := hC.ext hCw47
          have hO := hO.ext hCw47
          have hS := Chg.refl [] w47
          refine x_p 0 (.slice pa0 pn0 pc0) rfl (by kernel_rfl)  (fun _ => y_move rfl) (fun _ => hS) ?_
          refine x_p 1 (.int .i64 s25) rfl (by kernel_rfl)  (fun _ => y_move rfl) (fun _ => hS) ?_
          obtain ⟨x48, hx48, hs⟩ := bind_some hs
          obtain ⟨b49, o49, hp49, ha49⟩ := rs_idx Sl22 Sz3 h0 hx48
          refine x_p 2 (.pointer (some ⟨b49, o49, none⟩)) rfl (by kernel_rfl)  (fun _ => hp49 _ _ _ _ _ _ _ _ _ rfl rfl) (fun _ => hS) ?_
          refine x_l 3 (.int .i64 x48) rfl (by kernel_rfl)  (fun w' hw' => y_load rfl ((at_load_int Ag3 Sz3 ha49) w' hw')) hS ?_
          refine x_p 4 (.slice pa1 pn1 pc1) rfl (by kernel_rfl)  (fun _ => y_move rfl) (fun _ => hS) ?_
          refine x_p 5 (.int .i64 s25) rfl (by kernel_rfl)  (fun _ => y_move rfl) (fun _ => hS) ?_
          obtain ⟨x50, hx50, hs⟩ := bind_some hs
          obtain ⟨b51, o51, hp51, ha51⟩ := rs_idx Sl22 Sz3 h1 hx50
          refine x_p 6 (.pointer (some ⟨b51, o51, none⟩)) rfl (by kernel_rfl)  (fun _ => hp51 _ _ _ _ _ _ _ _ _ rfl rfl) (fun _ => hS) ?_
          refine x_l 7 (.int .i64 x50) rfl (by kernel_rfl)  (fun w' hw' => y_load rfl ((at_load_int Ag3 Sz3 ha51) w' hw')) hS ?_
          refine x_p 8 (.bool (decide (x48 < x50))) rfl (by kernel_rfl)  (fun _ => y_lss rfl rfl) (fun _ => hS) ?_
          refine x_end (by kernel_rfl) ?_
          clear hS
          rcases bif_some hs with ⟨hc52, hs⟩ | ⟨hc52, hs⟩
          · skip
            refine c_condT (congrArg Value.bool hc52) ?_
            refine c_seq ?_
            refine c_region ?_
            refine pl_val (.int .i64 (-1)) (y_assign rfl) ?_
            refine c_nil ?_
            refine wp_ret ?_
            cases hs
            exact ⟨_, fr_ovl 48 ⟨rfl, trivial⟩, hC⟩
          · skip
            refine c_condF (congrArg Value.bool hc52) ?_
            refine wp_skip ?_
            refine c_seq ?_
            refine c_region ?_
            refine pl_val (.int .i64 1) (y_assign rfl) ?_
            refine c_nil ?_
            refine wp_ret ?_
            cases hs
            exact ⟨_, fr_ovl 48 ⟨rfl, trivial⟩, hC⟩
        · skip
          refine c_condF (congrArg Value.bool hc46) ?_
          refine wp_skip ?_
          refine c_region ?_
          refine pl_val (.int .i64 s25) (y_move rfl) ?_
          refine pl_val (.int .i64 (w64 (s25 + 1))) (y_add rfl rfl) ?_
          refine pl_val (.int .i64 (w64 (s25 + 1))) (y_assign rfl) ?_
          refine c_nil ?_
          cases hs
          exact ⟨_, fr_ovl 48 ⟨rfl, rfl, rfl, trivial⟩, hC, hO, h0, h1⟩
      · skip
        refine c_condF (congrArg Value.bool hc35) ?_
        refine wp_exit ?_
        cases hs
        exact ⟨rfl, _, fr_ovl 48 ⟨rfl, rfl, trivial⟩, hC, hO, h0, h1⟩
  · skip
    exact ⟨_, fr_ovl 48 ⟨rfl, rfl, rfl, trivial⟩, hC, hO, h0, h1⟩
  · cases o29 with
    | nx _ => exact True.intro
    | rt r_ =>
      have hs := after_rt hs
      intro a1 w1 hK
      cases hs
      exact hK
    | br s25 =>
      have hs := after_br hs
      rintro a1 w26 ⟨σ, rfl, hC, hO, h0, h1⟩
      refine c_seq ?_
      refine wp_block ?_
      refine c_seq ?_
      refine c_region ?_
      refine pl_val (.slice pa0 pn0 pc0) (y_move rfl) ?_
      refine pl_val (.int .i64 (s_.length : Int)) (y_len' Sl22 (rs_len h0) rfl) ?_
      refine pl_val (.slice pa1 pn1 pc1) (y_move rfl) ?_
      refine pl_val (.int .i64 (t.length : Int)) (y_len' Sl22 (rs_len h1) rfl) ?_
      refine pl_val (.bool (decide ((s_.length : Int) < (t.length : Int)))) (y_lss rfl rfl) ?_
      refine pl_val (.bool (decide ((s_.length : Int) < (t.length : Int)))) (y_assign rfl) ?_
      refine c_nil ?_
      rcases bif_some hs with ⟨hc53, hs⟩ | ⟨hc53, hs⟩
      · skip
        refine c_condT (congrArg Value.bool hc53) ?_
        refine c_seq ?_
        refine c_region ?_
        refine pl_val (.int .i64 (-1)) (y_assign rfl) ?_
        refine c_nil ?_
        refine wp_ret ?_
        cases hs
        exact ⟨_, fr_ovl 48 ⟨rfl, trivial⟩, hC⟩
      · skip
        refine c_condF (congrArg Value.bool hc53) ?_
        refine c_seq ?_
        refine c_region ?_
        refine pl_val (.slice pa0 pn0 pc0) (y_move rfl) ?_
        refine pl_val (.int .i64 (s_.length : Int)) (y_len' Sl22 (rs_len h0) rfl) ?_
        refine pl_val (.slice pa1 pn1 pc1) (y_move rfl) ?_
        refine pl_val (.int .i64 (t.length : Int)) (y_len' Sl22 (rs_len h1) rfl) ?_
        refine pl_val (.bool (decide ((t.length : Int) < (s_.length : Int)))) (y_gtr rfl rfl) ?_
        refine pl_val (.bool (decide ((t.length : Int) < (s_.length : Int)))) (y_assign rfl) ?_
        refine c_nil ?_
        rcases bif_some hs with ⟨hc54, hs⟩ | ⟨hc54, hs⟩
        · skip
          refine c_condT (congrArg Value.bool hc54) ?_
          refine c_seq ?_
          refine c_region ?_
          refine pl_val (.int .i64 1) (y_assign rfl) ?_
          refine c_nil ?_
          refine wp_ret ?_
          cases hs
          exact ⟨_, fr_ovl 48 ⟨rfl, trivial⟩, hC⟩
        · skip
          refine c_condF (congrArg Value.bool hc54) ?_
          refine wp_skip ?_
          refine c_seq ?_
          refine c_region ?_
          refine pl_val (.int .i64 0) (y_assign rfl) ?_
          refine c_nil ?_
          refine wp_ret ?_
          cases hs
          exact ⟨_, fr_ovl 48 ⟨rfl, trivial⟩, hC⟩

theorem Bd113 : Bodied Try.prog 113 := bodied Try.func113 (by kernel_rfl) rfl

theorem Bd180 : Bodied Try.prog 180 := bodied Try.func180 (by kernel_rfl) rfl

def k_impl_isRelation (M : Nat → Prop) (w0 : World) (r : Bool) (a : Act) (w : World) : Prop :=
  ∃ (σ : Nat → Value) , a = fr 50 (ovl σ [(4, (.bool r))]) ∧ Chg [] w0 w
def s_impl_isRelation (n : Int) (r_ : Int × (List (List Int))) : Option (Bool) :=
  (bif ((decide (r_.1 < 1)) || (decide (3 < r_.1))) then some false else (forC (S := Unit) (R := Bool) (fun k26 s24 =>
  (idx r_.2 k26).bind fun x30 =>
  (bif ((x30.length : Int) != r_.1) then some (.rt false) else (s_impl_inSize x30 n).bind fun r36 =>
  (bif (!r36) then some (.rt false) else (bif (decide (0 < k26)) then (idx r_.2 (w64 (k26 - 1))).bind fun x39 =>
  (s_impl_compareLists x39 x30).bind fun r44 =>
  (bif (decide (0 ≤ r44)) then some (.rt false) else some (.nx ())) else some (.nx ()))))) 0 (r_.2.length : Int) ()).bind fun o28 => after o28 (fun r_ => some r_) (fun s24 =>
  some true))
set_option maxHeartbeats 4000000 in
theorem c_impl_isRelation {M : Nat → Prop} {w : World} {pa0 : Option Addr} {pn0 pc0 : Nat} (n : Int) (r_ : Int × (List (List Int))) (h0 : (RT.rs (RT.rs (RT.int .i64))).val M w (.slice pa0 pn0 pc0) r_.2 ([])) (hM : ∀ g, w.heap.size ≤ g → M g) {r : Bool} (hs : s_impl_isRelation n r_ = some r) :
    Gives Try.prog 147 [(.int .i64 n), (.agg #[(.int .i64 r_.1), (.slice pa0 pn0 pc0)])] w (fun v w' => v = (.bool r) ∧ Chg [] w w') := by
  refine calls_fr Try.func147 rfl Try.ntmps147 (Nat.le_of_ble_eq_true rfl) ?_
  have hO := Own.start (N := Nw w []) hM Nw.fut
  have hC := Chg.refl [] w
  unfold s_impl_isRelation at hs
  refine wp_mono (Q := KPost (k_impl_isRelation M w r)) ?_ (fun e a w1 h => ?_)
  rotate_left
  · cases e
    case ret =>
      obtain ⟨σ, rfl, hrest⟩ := h
      exact ret1x Try.results147 (res_tmp rfl) ⟨rfl, hrest⟩
    all_goals exact (h : False).elim
  refine c_seq ?_
  refine c_region ?_
  obtain ⟨w2, g2, ew2, eg2, hC2, hb2⟩ := new_block w [(.int .i64 r_.1), (.slice pa0 pn0 pc0)] 31
  refine pl_val (w' := w2) (.pointer (some ⟨g2, 0, none⟩)) (y_box rfl (by rw [ew2, eg2]; kernel_rfl)) ?_
  have h0 := h0.ext hC2
  have hC := hC.ext hC2
  have hO := hO.new (X' := [g2]) hC2 (fun q hq => by rw [List.mem_singleton.1 hq, eg2]; exact Nat.le_refl _) (List.nodup_cons.2 ⟨(fun h => nomatch h), List.nodup_nil⟩) (fun q hq => by rw [List.mem_singleton.1 hq]; exact hb2.lt)
  refine pl_val (.bool false) (y_assign rfl) ?_
  refine c_nil ?_
  refine c_seq ?_
  refine c_seq ?_
  refine c_mid (I := fun a w4 => ∃ (σ : Nat → Value), a = fr 50 (ovl σ [(0, (.int .i64 n)), (3, (.pointer (some ⟨g2, 0, none⟩))), (4, (.bool false)), (14, (.bool ((decide (r_.1 < 1)) || (decide (3 < r_.1)))))]) ∧ Chg [] w2 w4) ?_ ?_
  · have hMid := Chg.refl [] w2
    refine c_region ?_
    refine pl_val (.pointer (some ⟨g2, 0, none⟩)) (y_faddr rfl Fa31x0) ?_
    refine pl_val (.int .i64 r_.1) (y_load rfl ((box_load Ag3 Sz3 hb2 [] [(.int .i64 r_.1)] [(.slice pa0 pn0 pc0)] rfl rfl (fun _ => rfl)) _ (Chg.refl _ _))) ?_
    refine pl_val (.bool (decide (r_.1 < 1))) (y_lss rfl rfl) ?_
    refine pl_val (.bool (decide (r_.1 < 1))) (y_move rfl) ?_
    rcases Bool.eq_false_or_eq_true ((decide (r_.1 < 1))) with hc6 | hc6
    · skip
      refine pl_not (tg := 10) (by kernel_rfl) (congrArg Value.bool hc6) ?_
      refine pl_not (tg := 10) (by kernel_rfl) (congrArg Value.bool hc6) ?_
      refine pl_not (tg := 10) (by kernel_rfl) (congrArg Value.bool hc6) ?_
      refine pl_val (.bool ((decide (r_.1 < 1)) || (decide (3 < r_.1)))) (y_pick_t (congrArg Value.bool hc6) (congrArg Value.bool (by rw [hc6]; rfl))) ?_
      refine c_nil ?_
      exact ⟨_, fr_ovl 50 ⟨rfl, rfl, rfl, rfl, trivial⟩, hMid⟩
    · skip
      refine pl_yes (.pointer (some ⟨g2, 0, none⟩)) (tg := 10) (by kernel_rfl) (congrArg Value.bool hc6) (y_faddr rfl Fa31x0) ?_
      refine pl_yes (.int .i64 r_.1) (tg := 10) (by kernel_rfl) (congrArg Value.bool hc6) (y_load rfl ((box_load Ag3 Sz3 hb2 [] [(.int .i64 r_.1)] [(.slice pa0 pn0 pc0)] rfl rfl (fun _ => rfl)) _ (Chg.refl _ _))) ?_
      refine pl_yes (.bool (decide (3 < r_.1))) (tg := 10) (by kernel_rfl) (congrArg Value.bool hc6) (y_gtr rfl rfl) ?_
      refine pl_val (.bool ((decide (r_.1 < 1)) || (decide (3 < r_.1)))) (y_pick_f (congrArg Value.bool hc6) (congrArg Value.bool (by rw [hc6]; rfl))) ?_
      refine c_nil ?_
      exact ⟨_, fr_ovl 50 ⟨rfl, rfl, rfl, rfl, trivial⟩, hMid⟩
  · rintro a1 w4 ⟨σ, rfl, hCs3⟩
    have h0 := h0.ext hCs3
    have hb2 := hb2.chg hCs3 (fun h => nomatch h)
    have hC := hC.ext hCs3
    have hO := hO.ext hCs3
    rcases bif_some hs with ⟨hc7, hs⟩ | ⟨hc7, hs⟩
    · skip
      refine c_condT (congrArg Value.bool hc7) ?_
      refine c_seq ?_
      refine c_region ?_
      refine pl_val (.bool false) (y_assign rfl) ?_
      refine c_nil ?_
      refine wp_ret ?_
      cases hs
      exact ⟨_, fr_ovl 50 ⟨rfl, trivial⟩, hC⟩
    · skip
      refine c_condF (congrArg Value.bool hc7) ?_
      refine wp_skip ?_
      refine c_seq ?_
      refine c_seq ?_
      refine c_region ?_
      refine pl_val (.pointer (some ⟨g2, 1, none⟩)) (y_faddr rfl Fa31x1) ?_
      refine pl_val (.slice pa0 pn0 pc0) (y_load rfl ((box_load Ag29 Sz29 hb2 [(.int .i64 r_.1)] [(.slice pa0 pn0 pc0)] [] rfl rfl (fun _ => rfl)) _ (Chg.refl _ _))) ?_
      refine pl_val (.int .i64 (r_.2.length : Int)) (y_len' Sl29 (rs_len h0) rfl) ?_
      refine pl_val (.int .i64 0) (y_move rfl) ?_
      refine c_nil ?_
      obtain ⟨o28, hl29, hs⟩ := bind_some hs
      refine wp_block ?_
      refine wp_forC (id := 0) (r_.2.length : Int) (I := fun k26 s24 a w25 => ∃ (σ : Nat → Value), a = fr 50 (ovl σ [(0, (.int .i64 n)), (3, (.pointer (some ⟨g2, 0, none⟩))), (16, (.slice pa0 pn0 pc0)), (17, (.int .i64 (r_.2.length : Int))), (18, (.int .i64 k26))]) ∧ Chg [] w w25 ∧ Own (Nw w []) M w25 (([g2]) ++ []) ∧ (RT.rs (RT.rs (RT.int .i64))).val M w25 (.slice pa0 pn0 pc0) r_.2 ([]) ∧ BoxV w25 g2 31 [(.int .i64 r_.1), (.slice pa0 pn0 pc0)]) (J := fun s24 a w25 => ∃ (σ : Nat → Value), a = fr 50 (ovl σ []) ∧ Chg [] w w25 ∧ Own (Nw w []) M w25 (([g2]) ++ []) ∧ (RT.rs (RT.rs (RT.int .i64))).val M w25 (.slice pa0 pn0 pc0) r_.2 ([]) ∧ BoxV w25 g2 31 [(.int .i64 r_.1), (.slice pa0 pn0 pc0)]) (K := (k_impl_isRelation M w)) ?_ ?_ 0 () o28 _ _ ?_ hl29 ?_
      · rintro k26 s24 a w25 ⟨σ, rfl, hC, hO, h0, hb2⟩ hlt
        refine c_seq ?_
        refine c_region ?_
        refine pl_val (.bool (decide (k26 < (r_.2.length : Int)))) (y_lss rfl rfl) ?_
        refine c_nil ?_
        refine c_seq ?_
        refine c_condF (congrArg Value.bool (decide_eq_false hlt)) ?_
        refine wp_exit ?_
        exact ⟨rfl, _, fr_ovl 50 trivial, hC, hO, h0, hb2⟩
      · rintro k26 s24 o28 a w25 ⟨σ, rfl, hC, hO, h0, hb2⟩ hlt hw hs
        refine c_seq ?_
        refine c_region ?_
        refine pl_val (.bool (decide (k26 < (r_.2.length : Int)))) (y_lss rfl rfl) ?_
        refine c_nil ?_
        refine c_seq ?_
        refine c_condT (congrArg Value.bool (decide_eq_true hlt)) ?_
        refine wp_skip ?_
        refine c_seq ?_
        refine wp_block ?_
        refine c_seq ?_
        refine c_region ?_
        refine pl_val (.int .i64 k26) (y_move rfl) ?_
        obtain ⟨x30, hx30, hs⟩ := bind_some hs
        obtain ⟨b31, o31, hp31, ha31⟩ := rs_idx Sl29 Sz22 h0 hx30
        refine pl_val (.pointer (some ⟨b31, o31, none⟩)) (hp31 _ _ _ _ _ _ _ _ _ rfl rfl) ?_
        obtain ⟨v32, hl32, hv32⟩ := at_load Ag22 Sz22 (fun _ => rfl) ha31
        obtain ⟨a32, n32, c32, rfl⟩ := rs_sl hv32
        refine pl_val (.slice a32 n32 c32) (y_load rfl (hl32 _ (Chg.refl _ _))) ?_
        refine pl_val (.int .i64 k26) (y_assign rfl) ?_
        refine pl_val (.slice a32 n32 c32) (y_assign rfl) ?_
        refine c_nil ?_
        refine c_seq ?_
        refine c_region ?_
        refine pl_val (.slice a32 n32 c32) (y_move rfl) ?_
        refine pl_val (.int .i64 (x30.length : Int)) (y_len' Sl22 (rs_len hv32) rfl) ?_
        refine pl_val (.pointer (some ⟨g2, 0, none⟩)) (y_faddr rfl Fa31x0) ?_
        refine pl_val (.int .i64 r_.1) (y_load rfl ((box_load Ag3 Sz3 hb2 [] [(.int .i64 r_.1)] [(.slice pa0 pn0 pc0)] rfl rfl (fun _ => rfl)) _ (Chg.refl _ _))) ?_
        refine pl_val (.bool ((x30.length : Int) != r_.1)) (y_neq rfl rfl) ?_
        refine pl_val (.bool ((x30.length : Int) != r_.1)) (y_move rfl) ?_
        rcases bif_some hs with ⟨hc34, hs⟩ | ⟨hc34, hs⟩
        · skip
          refine pl_not (tg := 28) (by kernel_rfl) (congrArg Value.bool hc34) ?_
          refine pl_not (tg := 28) (by kernel_rfl) (congrArg Value.bool hc34) ?_
          refine pl_not (tg := 28) (by kernel_rfl) (congrArg Value.bool hc34) ?_
          refine pl_not (tg := 28) (by kernel_rfl) (congrArg Value.bool hc34) ?_
          refine pl_val (.bool true) (y_pick_t (congrArg Value.bool hc34) rfl) ?_
          refine pl_val (.bool true) (y_move rfl) ?_
          refine pl_not (tg := 34) (by kernel_rfl) (by rfl) ?_
          refine pl_not (tg := 34) (by kernel_rfl) (by rfl) ?_
          refine pl_not (tg := 34) (by kernel_rfl) (by rfl) ?_
          refine pl_nou (tg := 37) (by kernel_rfl) rfl ?_
          refine pl_nou (tg := 37) (by kernel_rfl) rfl ?_
          refine pl_nou (tg := 37) (by kernel_rfl) rfl ?_
          refine pl_nou (tg := 37) (by kernel_rfl) rfl ?_
          refine pl_nou (tg := 37) (by kernel_rfl) rfl ?_
          refine pl_nou (tg := 37) (by kernel_rfl) rfl ?_
          refine pl_nou (tg := 37) (by kernel_rfl) rfl ?_
          refine pl_nou (tg := 37) (by kernel_rfl) rfl ?_
          refine pl_nou (tg := 37) (by kernel_rfl) rfl ?_
          refine pl_not (tg := 34) (by kernel_rfl) (by rfl) ?_
          refine pl_val (.bool true) (y_pick_t (by rfl) rfl) ?_
          refine c_nil ?_
          refine c_condT (by rfl) ?_
          refine c_seq ?_
          refine c_region ?_
          refine pl_val (.bool false) (y_assign rfl) ?_
          refine c_nil ?_
          refine wp_ret ?_
          cases hs
          exact ⟨_, fr_ovl 50 ⟨rfl, trivial⟩, hC⟩
        · skip
          refine pl_yes (.slice a32 n32 c32) (tg := 28) (by kernel_rfl) (congrArg Value.bool hc34) (y_move rfl) ?_
          refine pl_yes (.int .i64 n) (tg := 28) (by kernel_rfl) (congrArg Value.bool hc34) (y_move rfl) ?_
          obtain ⟨r36, hr36, hs⟩ := bind_some hs
          refine pl_cally (tg := 28) (by kernel_rfl) (congrArg Value.bool hc34) Bd113 rfl (c_impl_inSize (M := M) x30 n hv32 hO.fut hr36) ?_
          rintro _ w35 ⟨rfl, hC35⟩
          have h0 := h0.ext hC35
          have hb2 := hb2.chg hC35 (fun h => nomatch h)
          have hv32 := hv32.ext hC35
          have hC := hC.ext hC35
          have hO := hO.ext hC35
          refine pl_yes (.bool (!r36)) (tg := 28) (by kernel_rfl) (congrArg Value.bool hc34) (y_not rfl) ?_
          refine pl_val (.bool (!r36)) (y_pick_f (congrArg Value.bool hc34) rfl) ?_
          refine pl_val (.bool (!r36)) (y_move rfl) ?_
          rcases bif_some hs with ⟨hc37, hs⟩ | ⟨hc37, hs⟩
          · skip
            refine pl_not (tg := 34) (by kernel_rfl) (congrArg Value.bool hc37) ?_
            refine pl_not (tg := 34) (by kernel_rfl) (congrArg Value.bool hc37) ?_
            refine pl_not (tg := 34) (by kernel_rfl) (congrArg Value.bool hc37) ?_
            refine pl_nou (tg := 37) (by kernel_rfl) rfl ?_
            refine pl_nou (tg := 37) (by kernel_rfl) rfl ?_
            refine pl_nou (tg := 37) (by kernel_rfl) rfl ?_
            refine pl_nou (tg := 37) (by kernel_rfl) rfl ?_
            refine pl_nou (tg := 37) (by kernel_rfl) rfl ?_
            refine pl_nou (tg := 37) (by kernel_rfl) rfl ?_
            refine pl_nou (tg := 37) (by kernel_rfl) rfl ?_
            refine pl_nou (tg := 37) (by kernel_rfl) rfl ?_
            refine pl_nou (tg := 37) (by kernel_rfl) rfl ?_
            refine pl_not (tg := 34) (by kernel_rfl) (congrArg Value.bool hc37) ?_
            refine pl_val (.bool true) (y_pick_t (congrArg Value.bool hc37) rfl) ?_
            refine c_nil ?_
            refine c_condT (by rfl) ?_
            refine c_seq ?_
            refine c_region ?_
            refine pl_val (.bool false) (y_assign rfl) ?_
            refine c_nil ?_
            refine wp_ret ?_
            cases hs
            exact ⟨_, fr_ovl 50 ⟨rfl, trivial⟩, hC⟩
          · skip
            refine pl_yes (.int .i64 k26) (tg := 34) (by kernel_rfl) (congrArg Value.bool hc37) (y_move rfl) ?_
            refine pl_yes (.bool (decide (0 < k26))) (tg := 34) (by kernel_rfl) (congrArg Value.bool hc37) (y_gtr rfl rfl) ?_
            refine pl_yes (.bool (decide (0 < k26))) (tg := 34) (by kernel_rfl) (congrArg Value.bool hc37) (y_move rfl) ?_
            rcases bif_some hs with ⟨hc38, hs⟩ | ⟨hc38, hs⟩
            · skip
              refine pl_yes (.pointer (some ⟨g2, 1, none⟩)) (tg := 37) (by kernel_rfl) (congrArg Value.bool hc38) (y_faddr rfl Fa31x1) ?_
              refine pl_yes (.slice pa0 pn0 pc0) (tg := 37) (by kernel_rfl) (congrArg Value.bool hc38) (y_load rfl ((box_load Ag29 Sz29 hb2 [(.int .i64 r_.1)] [(.slice pa0 pn0 pc0)] [] rfl rfl (fun _ => rfl)) _ (Chg.refl _ _))) ?_
              refine pl_yes (.int .i64 k26) (tg := 37) (by kernel_rfl) (congrArg Value.bool hc38) (y_move rfl) ?_
              refine pl_yes (.int .i64 (w64 (k26 - 1))) (tg := 37) (by kernel_rfl) (congrArg Value.bool hc38) (y_sub rfl rfl) ?_
              obtain ⟨x39, hx39, hs⟩ := bind_some hs
              obtain ⟨b40, o40, hp40, ha40⟩ := rs_idx Sl29 Sz22 h0 hx39
              refine pl_yes (.pointer (some ⟨b40, o40, none⟩)) (tg := 37) (by kernel_rfl) (congrArg Value.bool hc38) (hp40 _ _ _ _ _ _ _ _ _ rfl rfl) ?_
              obtain ⟨v41, hl41, hv41⟩ := at_load Ag22 Sz22 (fun _ => rfl) ha40
              obtain ⟨a41, n41, c41, rfl⟩ := rs_sl hv41
              refine pl_yes (.slice a41 n41 c41) (tg := 37) (by kernel_rfl) (congrArg Value.bool hc38) (y_load rfl (hl41 _ (Chg.refl _ _))) ?_
              refine pl_yes (.slice a32 n32 c32) (tg := 37) (by kernel_rfl) (congrArg Value.bool hc38) (y_move rfl) ?_
              obtain ⟨r44, hr44, hs⟩ := bind_some hs
              refine pl_cally (tg := 37) (by kernel_rfl) (congrArg Value.bool hc38) Bd180 rfl (c_impl_compareLists (M := M) x39 x30 hv41 hv32 hO.fut hr44) ?_
              rintro _ w43 ⟨rfl, hC43⟩
              have h0 := h0.ext hC43
              have hb2 := hb2.chg hC43 (fun h => nomatch h)
              have hv32 := hv32.ext hC43
              have hv41 := hv41.ext hC43
              have hC := hC.ext hC43
              have hO := hO.ext hC43
              refine pl_yes (.bool (decide (0 ≤ r44))) (tg := 37) (by kernel_rfl) (congrArg Value.bool hc38) (y_geq rfl rfl) ?_
              refine pl_yes (.bool (decide (0 ≤ r44))) (tg := 34) (by kernel_rfl) (congrArg Value.bool hc37) (y_pick_t (congrArg Value.bool hc38) rfl) ?_
              refine pl_val (.bool (decide (0 ≤ r44))) (y_pick_f (congrArg Value.bool hc37) rfl) ?_
              refine c_nil ?_
              rcases bif_some hs with ⟨hc45, hs⟩ | ⟨hc45, hs⟩
              · skip
                refine c_condT (congrArg Value.bool hc45) ?_
                refine c_seq ?_
                refine c_region ?_
                refine pl_val (.bool false) (y_assign rfl) ?_
                refine c_nil ?_
                refine wp_ret ?_
                cases hs
                exact ⟨_, fr_ovl 50 ⟨rfl, trivial⟩, hC⟩
              · skip
                refine c_condF (congrArg Value.bool hc45) ?_
                refine wp_skip ?_
                refine c_region ?_
                refine pl_val (.int .i64 (w64 (k26 + 1))) (y_add rfl rfl) ?_
                refine pl_val (.int .i64 (w64 (k26 + 1))) (y_move rfl) ?_
                refine c_nil ?_
                cases hs
                exact ⟨_, fr_ovl 50 ⟨rfl, rfl, rfl, rfl, congrArg (Value.int .i64) hw, trivial⟩, hC, hO, h0, hb2⟩
            · skip
              refine pl_not (tg := 37) (by kernel_rfl) (congrArg Value.bool hc38) ?_
              refine pl_not (tg := 37) (by kernel_rfl) (congrArg Value.bool hc38) ?_
              refine pl_not (tg := 37) (by kernel_rfl) (congrArg Value.bool hc38) ?_
              refine pl_not (tg := 37) (by kernel_rfl) (congrArg Value.bool hc38) ?_
              refine pl_not (tg := 37) (by kernel_rfl) (congrArg Value.bool hc38) ?_
              refine pl_not (tg := 37) (by kernel_rfl) (congrArg Value.bool hc38) ?_
              refine pl_not (tg := 37) (by kernel_rfl) (congrArg Value.bool hc38) ?_
              refine pl_not (tg := 37) (by kernel_rfl) (congrArg Value.bool hc38) ?_
              refine pl_not (tg := 37) (by kernel_rfl) (congrArg Value.bool hc38) ?_
              refine pl_yes (.bool false) (tg := 34) (by kernel_rfl) (congrArg Value.bool hc37) (y_pick_f (congrArg Value.bool hc38) rfl) ?_
              refine pl_val (.bool false) (y_pick_f (congrArg Value.bool hc37) rfl) ?_
              refine c_nil ?_
              refine c_condF (by rfl) ?_
              refine wp_skip ?_
              refine c_region ?_
              refine pl_val (.int .i64 (w64 (k26 + 1))) (y_add rfl rfl) ?_
              refine pl_val (.int .i64 (w64 (k26 + 1))) (y_move rfl) ?_
              refine c_nil ?_
              cases hs
              exact ⟨_, fr_ovl 50 ⟨rfl, rfl, rfl, rfl, congrArg (Value.int .i64) hw, trivial⟩, hC, hO, h0, hb2⟩
      · skip
        exact ⟨_, fr_ovl 50 ⟨rfl, rfl, rfl, rfl, rfl, trivial⟩, hC, hO, h0, hb2⟩
      · cases o28 with
        | nx _ => exact True.intro
        | rt r_ =>
          have hs := after_rt hs
          intro a1 w1 hK
          cases hs
          exact hK
        | br s24 =>
          have hs := after_br hs
          rintro a1 w25 ⟨σ, rfl, hC, hO, h0, hb2⟩
          refine c_seq ?_
          refine c_region ?_
          refine pl_val (.bool true) (y_assign rfl) ?_
          refine c_nil ?_
          refine wp_ret ?_
          cases hs
          exact ⟨_, fr_ovl 50 ⟨rfl, trivial⟩, hC⟩

theorem Bd147 : Bodied Try.prog 147 := bodied Try.func147 (by kernel_rfl) rfl

def k_impl_isConstraint (M : Nat → Prop) (w0 : World) (r : Bool) (a : Act) (w : World) : Prop :=
  ∃ (σ : Nat → Value) , a = fr 26 (ovl σ [(6, (.bool r))]) ∧ Chg [] w0 w
def s_impl_isConstraint (vars : Int) (size : Int) (c : (List Int) × (Int × (List (List Int)))) : Option (Bool) :=
  (s_impl_isRelation size (c.2.1, c.2.2)).bind fun r5 =>
  (bif r5 then (bif ((c.1.length : Int) == c.2.1) then (s_impl_inSize c.1 vars).bind fun r9 =>
  some r9 else some false) else some false)
set_option maxHeartbeats 4000000 in
theorem c_impl_isConstraint {M : Nat → Prop} {w : World} {pa0 : Option Addr} {pn0 pc0 : Nat} {pa1 : Option Addr} {pn1 pc1 : Nat} (vars : Int) (size : Int) (c : (List Int) × (Int × (List (List Int)))) (h0 : (RT.rs (RT.int .i64)).val M w (.slice pa0 pn0 pc0) c.1 ([])) (h1 : (RT.rs (RT.rs (RT.int .i64))).val M w (.slice pa1 pn1 pc1) c.2.2 ([])) (hM : ∀ g, w.heap.size ≤ g → M g) {r : Bool} (hs : s_impl_isConstraint vars size c = some r) :
    Gives Try.prog 91 [(.int .i64 vars), (.int .i64 size), (.agg #[(.slice pa0 pn0 pc0), (.int .i64 c.2.1), (.slice pa1 pn1 pc1)])] w (fun v w' => v = (.bool r) ∧ Chg [] w w') := by
  refine calls_fr Try.func91 rfl Try.ntmps91 (Nat.le_of_ble_eq_true rfl) ?_
  have hO := Own.start (N := Nw w []) hM Nw.fut
  have hC := Chg.refl [] w
  unfold s_impl_isConstraint at hs
  refine wp_mono (Q := KPost (k_impl_isConstraint M w r)) ?_ (fun e a w1 h => ?_)
  rotate_left
  · cases e
    case ret =>
      obtain ⟨σ, rfl, hrest⟩ := h
      exact ret1x Try.results91 (res_tmp rfl) ⟨rfl, hrest⟩
    all_goals exact (h : False).elim
  refine c_seq ?_
  refine c_region ?_
  obtain ⟨w3, g3, ew3, eg3, hC3, hb3⟩ := new_block w [(.slice pa0 pn0 pc0), (.int .i64 c.2.1), (.slice pa1 pn1 pc1)] 108
  refine pl_val (w' := w3) (.pointer (some ⟨g3, 0, none⟩)) (y_box rfl (by rw [ew3, eg3]; kernel_rfl)) ?_
  have h0 := h0.ext hC3
  have h1 := h1.ext hC3
  have hC := hC.ext hC3
  have hO := hO.new (X' := [g3]) hC3 (fun q hq => by rw [List.mem_singleton.1 hq, eg3]; exact Nat.le_refl _) (List.nodup_cons.2 ⟨(fun h => nomatch h), List.nodup_nil⟩) (fun q hq => by rw [List.mem_singleton.1 hq]; exact hb3.lt)
  refine pl_val (.bool false) (y_assign rfl) ?_
  refine c_nil ?_
  refine c_seq ?_
  refine c_region ?_
  refine pl_val (.int .i64 size) (y_move rfl) ?_
  refine pl_val (.pointer (some ⟨g3, 1, none⟩)) (y_faddr rfl Fa108x1) ?_
  refine pl_val (.agg #[(.int .i64 c.2.1), (.slice pa1 pn1 pc1)]) (y_load rfl ((box_load Ag31 Sz31 hb3 [(.slice pa0 pn0 pc0)] [(.int .i64 c.2.1), (.slice pa1 pn1 pc1)] [] rfl rfl (fun h => nomatch h)) _ (Chg.refl _ _))) ?_
  obtain ⟨r5, hr5, hs⟩ := bind_some hs
  refine pl_call Bd147 rfl (c_impl_isRelation (M := M) size (c.2.1, c.2.2) h1 hO.fut hr5) ?_
  rintro _ w4 ⟨rfl, hC4⟩
  have h0 := h0.ext hC4
  have h1 := h1.ext hC4
  have hb3 := hb3.chg hC4 (fun h => nomatch h)
  have hC := hC.ext hC4
  have hO := hO.ext hC4
  refine pl_val (.bool r5) (y_move rfl) ?_
  rcases bif_some hs with ⟨hc6, hs⟩ | ⟨hc6, hs⟩
  · skip
    refine pl_yes (.pointer (some ⟨g3, 0, none⟩)) (tg := 11) (by kernel_rfl) (congrArg Value.bool hc6) (y_faddr rfl Fa108x0) ?_
    refine pl_yes (.slice pa0 pn0 pc0) (tg := 11) (by kernel_rfl) (congrArg Value.bool hc6) (y_load rfl ((box_load Ag22 Sz22 hb3 [] [(.slice pa0 pn0 pc0)] [(.int .i64 c.2.1), (.slice pa1 pn1 pc1)] rfl rfl (fun _ => rfl)) _ (Chg.refl _ _))) ?_
    refine pl_yes (.int .i64 (c.1.length : Int)) (tg := 11) (by kernel_rfl) (congrArg Value.bool hc6) (y_len' Sl22 (rs_len h0) rfl) ?_
    refine pl_yes (.pointer (some ⟨g3, 1, none⟩)) (tg := 11) (by kernel_rfl) (congrArg Value.bool hc6) (y_faddr rfl Fa108x1) ?_
    refine pl_yes (.pointer (some ⟨g3, 1, none⟩)) (tg := 11) (by kernel_rfl) (congrArg Value.bool hc6) (y_faddr rfl Fa31x0) ?_
    refine pl_yes (.int .i64 c.2.1) (tg := 11) (by kernel_rfl) (congrArg Value.bool hc6) (y_load rfl ((box_load Ag3 Sz3 hb3 [(.slice pa0 pn0 pc0)] [(.int .i64 c.2.1)] [(.slice pa1 pn1 pc1)] rfl rfl (fun _ => rfl)) _ (Chg.refl _ _))) ?_
    refine pl_yes (.bool ((c.1.length : Int) == c.2.1)) (tg := 11) (by kernel_rfl) (congrArg Value.bool hc6) (y_eql rfl rfl) ?_
    refine pl_val (.bool ((c.1.length : Int) == c.2.1)) (y_pick_t (congrArg Value.bool hc6) rfl) ?_
    refine pl_val (.bool ((c.1.length : Int) == c.2.1)) (y_move rfl) ?_
    rcases bif_some hs with ⟨hc7, hs⟩ | ⟨hc7, hs⟩
    · skip
      refine pl_yes (.pointer (some ⟨g3, 0, none⟩)) (tg := 20) (by kernel_rfl) (congrArg Value.bool hc7) (y_faddr rfl Fa108x0) ?_
      refine pl_yes (.slice pa0 pn0 pc0) (tg := 20) (by kernel_rfl) (congrArg Value.bool hc7) (y_load rfl ((box_load Ag22 Sz22 hb3 [] [(.slice pa0 pn0 pc0)] [(.int .i64 c.2.1), (.slice pa1 pn1 pc1)] rfl rfl (fun _ => rfl)) _ (Chg.refl _ _))) ?_
      refine pl_yes (.int .i64 vars) (tg := 20) (by kernel_rfl) (congrArg Value.bool hc7) (y_move rfl) ?_
      obtain ⟨r9, hr9, hs⟩ := bind_some hs
      refine pl_cally (tg := 20) (by kernel_rfl) (congrArg Value.bool hc7) Bd113 rfl (c_impl_inSize (M := M) c.1 vars h0 hO.fut hr9) ?_
      rintro _ w8 ⟨rfl, hC8⟩
      have h0 := h0.ext hC8
      have h1 := h1.ext hC8
      have hb3 := hb3.chg hC8 (fun h => nomatch h)
      have hC := hC.ext hC8
      have hO := hO.ext hC8
      refine pl_val (.bool r9) (y_pick_t (congrArg Value.bool hc7) rfl) ?_
      refine pl_val (.bool r9) (y_assign rfl) ?_
      refine c_nil ?_
      refine wp_ret ?_
      cases hs
      exact ⟨_, fr_ovl 26 ⟨rfl, trivial⟩, hC⟩
    · skip
      refine pl_not (tg := 20) (by kernel_rfl) (congrArg Value.bool hc7) ?_
      refine pl_not (tg := 20) (by kernel_rfl) (congrArg Value.bool hc7) ?_
      refine pl_not (tg := 20) (by kernel_rfl) (congrArg Value.bool hc7) ?_
      refine pl_not (tg := 20) (by kernel_rfl) (congrArg Value.bool hc7) ?_
      refine pl_val (.bool false) (y_pick_f (congrArg Value.bool hc7) rfl) ?_
      refine pl_val (.bool false) (y_assign rfl) ?_
      refine c_nil ?_
      refine wp_ret ?_
      cases hs
      exact ⟨_, fr_ovl 26 ⟨rfl, trivial⟩, hC⟩
  · skip
    refine pl_not (tg := 11) (by kernel_rfl) (congrArg Value.bool hc6) ?_
    refine pl_not (tg := 11) (by kernel_rfl) (congrArg Value.bool hc6) ?_
    refine pl_not (tg := 11) (by kernel_rfl) (congrArg Value.bool hc6) ?_
    refine pl_not (tg := 11) (by kernel_rfl) (congrArg Value.bool hc6) ?_
    refine pl_not (tg := 11) (by kernel_rfl) (congrArg Value.bool hc6) ?_
    refine pl_not (tg := 11) (by kernel_rfl) (congrArg Value.bool hc6) ?_
    refine pl_not (tg := 11) (by kernel_rfl) (congrArg Value.bool hc6) ?_
    refine pl_val (.bool false) (y_pick_f (congrArg Value.bool hc6) rfl) ?_
    refine pl_val (.bool false) (y_move rfl) ?_
    refine pl_not (tg := 20) (by kernel_rfl) (by rfl) ?_
    refine pl_not (tg := 20) (by kernel_rfl) (by rfl) ?_
    refine pl_not (tg := 20) (by kernel_rfl) (by rfl) ?_
    refine pl_not (tg := 20) (by kernel_rfl) (by rfl) ?_
    refine pl_val (.bool false) (y_pick_f (by rfl) rfl) ?_
    refine pl_val (.bool false) (y_assign rfl) ?_
    refine c_nil ?_
    refine wp_ret ?_
    cases hs
    exact ⟨_, fr_ovl 26 ⟨rfl, trivial⟩, hC⟩

theorem Bd90 : Bodied Try.prog 90 := bodied Try.func90 (by kernel_rfl) rfl

theorem Bd91 : Bodied Try.prog 91 := bodied Try.func91 (by kernel_rfl) rfl

def k_impl_IsNetwork (M : Nat → Prop) (w0 : World) (r : Bool) (a : Act) (w : World) : Prop :=
  ∃ (σ : Nat → Value) , a = fr 40 (ovl σ [(2, (.bool r))]) ∧ Chg [] w0 w
def s_impl_IsNetwork (net : Int × Int × (List ((List Int) × (Int × (List (List Int)))))) : Option (Bool) :=
  ((bif (decide (net.1 < 0)) then some true else (bif (decide (9 < net.1)) then some true else (s_impl_isTemplateSize net.2.1).bind fun r9 =>
  (bif (!r9) then some true else some (decide (40 < (net.2.2.length : Int))))))).bind fun s3 =>
  (bif s3 then some false else (forR (S := Unit) (R := Bool) (fun _ x24 s21 =>
  (s_impl_isConstraint net.1 net.2.1 (x24.1, (x24.2.1, x24.2.2))).bind fun r34 =>
  (bif (!r34) then some (.rt false) else some (.nx ()))) 0 net.2.2 ()).bind fun o25 => after o25 (fun r_ => some r_) (fun s21 =>
  some true))
set_option maxHeartbeats 4000000 in
theorem c_impl_IsNetwork {M : Nat → Prop} {w : World} {pa0 : Option Addr} {pn0 pc0 : Nat} (net : Int × Int × (List ((List Int) × (Int × (List (List Int)))))) (h0 : (RT.rs (RT.pr (RT.rs (RT.int .i64)) (RT.pr (RT.int .i64) (RT.rs (RT.rs (RT.int .i64)))))).val M w (.slice pa0 pn0 pc0) net.2.2 ([])) (hM : ∀ g, w.heap.size ≤ g → M g) {r : Bool} (hs : s_impl_IsNetwork net = some r) :
    Gives Try.prog 33 [(.agg #[(.int .i64 net.1), (.int .i64 net.2.1), (.slice pa0 pn0 pc0)])] w (fun v w' => v = (.bool r) ∧ Chg [] w w') := by
  refine calls_fr Try.func33 rfl Try.ntmps33 (Nat.le_of_ble_eq_true rfl) ?_
  have hO := Own.start (N := Nw w []) hM Nw.fut
  have hC := Chg.refl [] w
  unfold s_impl_IsNetwork at hs
  refine wp_mono (Q := KPost (k_impl_IsNetwork M w r)) ?_ (fun e a w1 h => ?_)
  rotate_left
  · cases e
    case ret =>
      obtain ⟨σ, rfl, hrest⟩ := h
      exact ret1x Try.results33 (res_tmp rfl) ⟨rfl, hrest⟩
    all_goals exact (h : False).elim
  refine c_seq ?_
  refine c_region ?_
  obtain ⟨w2, g2, ew2, eg2, hC2, hb2⟩ := new_block w [(.int .i64 net.1), (.int .i64 net.2.1), (.slice pa0 pn0 pc0)] 49
  refine pl_val (w' := w2) (.pointer (some ⟨g2, 0, none⟩)) (y_box rfl (by rw [ew2, eg2]; kernel_rfl)) ?_
  have h0 := h0.ext hC2
  have hC := hC.ext hC2
  have hO := hO.new (X' := [g2]) hC2 (fun q hq => by rw [List.mem_singleton.1 hq, eg2]; exact Nat.le_refl _) (List.nodup_cons.2 ⟨(fun h => nomatch h), List.nodup_nil⟩) (fun q hq => by rw [List.mem_singleton.1 hq]; exact hb2.lt)
  refine pl_val (.bool false) (y_assign rfl) ?_
  refine c_nil ?_
  refine c_seq ?_
  refine c_seq ?_
  obtain ⟨s3, hm5, hs⟩ := bind_some hs
  refine c_mid (I := fun a w4 => ∃ (σ : Nat → Value), a = fr 40 (ovl σ [(1, (.pointer (some ⟨g2, 0, none⟩))), (2, (.bool false)), (24, (.bool s3))]) ∧ Chg [] w2 w4) ?_ ?_
  · replace hs := hm5
    have hMid := Chg.refl [] w2
    refine c_region ?_
    refine pl_val (.pointer (some ⟨g2, 0, none⟩)) (y_faddr rfl Fa49x0) ?_
    refine pl_val (.int .i64 net.1) (y_load rfl ((box_load Ag3 Sz3 hb2 [] [(.int .i64 net.1)] [(.int .i64 net.2.1), (.slice pa0 pn0 pc0)] rfl rfl (fun _ => rfl)) _ (Chg.refl _ _))) ?_
    refine pl_val (.bool (decide (net.1 < 0))) (y_lss rfl rfl) ?_
    refine pl_val (.bool (decide (net.1 < 0))) (y_move rfl) ?_
    rcases bif_some hs with ⟨hc6, hs⟩ | ⟨hc6, hs⟩
    · skip
      refine pl_not (tg := 8) (by kernel_rfl) (congrArg Value.bool hc6) ?_
      refine pl_not (tg := 8) (by kernel_rfl) (congrArg Value.bool hc6) ?_
      refine pl_not (tg := 8) (by kernel_rfl) (congrArg Value.bool hc6) ?_
      refine pl_val (.bool true) (y_pick_t (congrArg Value.bool hc6) rfl) ?_
      refine pl_val (.bool true) (y_move rfl) ?_
      refine pl_not (tg := 13) (by kernel_rfl) (by rfl) ?_
      refine pl_not (tg := 13) (by kernel_rfl) (by rfl) ?_
      refine pl_not (tg := 13) (by kernel_rfl) (by rfl) ?_
      refine pl_not (tg := 13) (by kernel_rfl) (by rfl) ?_
      refine pl_val (.bool true) (y_pick_t (by rfl) rfl) ?_
      refine pl_val (.bool true) (y_move rfl) ?_
      refine pl_not (tg := 19) (by kernel_rfl) (by rfl) ?_
      refine pl_not (tg := 19) (by kernel_rfl) (by rfl) ?_
      refine pl_not (tg := 19) (by kernel_rfl) (by rfl) ?_
      refine pl_not (tg := 19) (by kernel_rfl) (by rfl) ?_
      refine pl_val (.bool true) (y_pick_t (by rfl) rfl) ?_
      refine c_nil ?_
      cases hs
      exact ⟨_, fr_ovl 40 ⟨rfl, rfl, rfl, trivial⟩, hMid⟩
    · skip
      refine pl_yes (.pointer (some ⟨g2, 0, none⟩)) (tg := 8) (by kernel_rfl) (congrArg Value.bool hc6) (y_faddr rfl Fa49x0) ?_
      refine pl_yes (.int .i64 net.1) (tg := 8) (by kernel_rfl) (congrArg Value.bool hc6) (y_load rfl ((box_load Ag3 Sz3 hb2 [] [(.int .i64 net.1)] [(.int .i64 net.2.1), (.slice pa0 pn0 pc0)] rfl rfl (fun _ => rfl)) _ (Chg.refl _ _))) ?_
      refine pl_yes (.bool (decide (9 < net.1))) (tg := 8) (by kernel_rfl) (congrArg Value.bool hc6) (y_gtr rfl rfl) ?_
      refine pl_val (.bool (decide (9 < net.1))) (y_pick_f (congrArg Value.bool hc6) rfl) ?_
      refine pl_val (.bool (decide (9 < net.1))) (y_move rfl) ?_
      rcases bif_some hs with ⟨hc7, hs⟩ | ⟨hc7, hs⟩
      · skip
        refine pl_not (tg := 13) (by kernel_rfl) (congrArg Value.bool hc7) ?_
        refine pl_not (tg := 13) (by kernel_rfl) (congrArg Value.bool hc7) ?_
        refine pl_not (tg := 13) (by kernel_rfl) (congrArg Value.bool hc7) ?_
        refine pl_not (tg := 13) (by kernel_rfl) (congrArg Value.bool hc7) ?_
        refine pl_val (.bool true) (y_pick_t (congrArg Value.bool hc7) rfl) ?_
        refine pl_val (.bool true) (y_move rfl) ?_
        refine pl_not (tg := 19) (by kernel_rfl) (by rfl) ?_
        refine pl_not (tg := 19) (by kernel_rfl) (by rfl) ?_
        refine pl_not (tg := 19) (by kernel_rfl) (by rfl) ?_
        refine pl_not (tg := 19) (by kernel_rfl) (by rfl) ?_
        refine pl_val (.bool true) (y_pick_t (by rfl) rfl) ?_
        refine c_nil ?_
        cases hs
        exact ⟨_, fr_ovl 40 ⟨rfl, rfl, rfl, trivial⟩, hMid⟩
      · skip
        refine pl_yes (.pointer (some ⟨g2, 1, none⟩)) (tg := 13) (by kernel_rfl) (congrArg Value.bool hc7) (y_faddr rfl Fa49x1) ?_
        refine pl_yes (.int .i64 net.2.1) (tg := 13) (by kernel_rfl) (congrArg Value.bool hc7) (y_load rfl ((box_load Ag3 Sz3 hb2 [(.int .i64 net.1)] [(.int .i64 net.2.1)] [(.slice pa0 pn0 pc0)] rfl rfl (fun _ => rfl)) _ (Chg.refl _ _))) ?_
        obtain ⟨r9, hr9, hs⟩ := bind_some hs
        refine pl_cally (tg := 13) (by kernel_rfl) (congrArg Value.bool hc7) Bd90 rfl (c_impl_isTemplateSize (M := M) net.2.1  hO.fut hr9) ?_
        rintro _ w8 ⟨rfl, hC8⟩
        have h0 := h0.ext hC8
        have hb2 := hb2.chg hC8 (fun h => nomatch h)
        have hMid := hMid.ext hC8
        have hC := hC.ext hC8
        have hO := hO.ext hC8
        refine pl_yes (.bool (!r9)) (tg := 13) (by kernel_rfl) (congrArg Value.bool hc7) (y_not rfl) ?_
        refine pl_val (.bool (!r9)) (y_pick_f (congrArg Value.bool hc7) rfl) ?_
        refine pl_val (.bool (!r9)) (y_move rfl) ?_
        rcases bif_some hs with ⟨hc10, hs⟩ | ⟨hc10, hs⟩
        · skip
          refine pl_not (tg := 19) (by kernel_rfl) (congrArg Value.bool hc10) ?_
          refine pl_not (tg := 19) (by kernel_rfl) (congrArg Value.bool hc10) ?_
          refine pl_not (tg := 19) (by kernel_rfl) (congrArg Value.bool hc10) ?_
          refine pl_not (tg := 19) (by kernel_rfl) (congrArg Value.bool hc10) ?_
          refine pl_val (.bool true) (y_pick_t (congrArg Value.bool hc10) rfl) ?_
          refine c_nil ?_
          cases hs
          exact ⟨_, fr_ovl 40 ⟨rfl, rfl, rfl, trivial⟩, hMid⟩
        · skip
          refine pl_yes (.pointer (some ⟨g2, 2, none⟩)) (tg := 19) (by kernel_rfl) (congrArg Value.bool hc10) (y_faddr rfl Fa49x2) ?_
          refine pl_yes (.slice pa0 pn0 pc0) (tg := 19) (by kernel_rfl) (congrArg Value.bool hc10) (y_load rfl ((box_load Ag47 Sz47 hb2 [(.int .i64 net.1), (.int .i64 net.2.1)] [(.slice pa0 pn0 pc0)] [] rfl rfl (fun _ => rfl)) _ (Chg.refl _ _))) ?_
          refine pl_yes (.int .i64 (net.2.2.length : Int)) (tg := 19) (by kernel_rfl) (congrArg Value.bool hc10) (y_len' Sl47 (rs_len h0) rfl) ?_
          refine pl_yes (.bool (decide (40 < (net.2.2.length : Int)))) (tg := 19) (by kernel_rfl) (congrArg Value.bool hc10) (y_gtr rfl rfl) ?_
          refine pl_val (.bool (decide (40 < (net.2.2.length : Int)))) (y_pick_f (congrArg Value.bool hc10) rfl) ?_
          refine c_nil ?_
          cases hs
          exact ⟨_, fr_ovl 40 ⟨rfl, rfl, rfl, trivial⟩, hMid⟩
  · rintro a1 w4 ⟨σ, rfl, hCs3⟩
    have h0 := h0.ext hCs3
    have hb2 := hb2.chg hCs3 (fun h => nomatch h)
    have hC := hC.ext hCs3
    have hO := hO.ext hCs3
    rcases bif_some hs with ⟨hc11, hs⟩ | ⟨hc11, hs⟩
    · skip
      refine c_condT (congrArg Value.bool hc11) ?_
      refine c_seq ?_
      refine c_region ?_
      refine pl_val (.bool false) (y_assign rfl) ?_
      refine c_nil ?_
      refine wp_ret ?_
      cases hs
      exact ⟨_, fr_ovl 40 ⟨rfl, trivial⟩, hC⟩
    · skip
      refine c_condF (congrArg Value.bool hc11) ?_
      refine wp_skip ?_
      refine c_seq ?_
      refine c_seq ?_
      refine c_region ?_
      refine pl_val (.pointer (some ⟨g2, 2, none⟩)) (y_faddr rfl Fa49x2) ?_
      refine pl_val (.slice pa0 pn0 pc0) (y_load rfl ((box_load Ag47 Sz47 hb2 [(.int .i64 net.1), (.int .i64 net.2.1)] [(.slice pa0 pn0 pc0)] [] rfl rfl (fun _ => rfl)) _ (Chg.refl _ _))) ?_
      refine pl_val (.int .i64 (net.2.2.length : Int)) (y_len' Sl47 (rs_len h0) rfl) ?_
      refine pl_val (.int .i64 0) (y_move rfl) ?_
      refine c_nil ?_
      obtain ⟨o25, hl26, hs⟩ := bind_some hs
      refine wp_block ?_
      refine wp_forR (id := 0) (I := fun i_ xs_ s21 a w22 => ∃ k23 : Nat, i_ = (k23 : Int) ∧ List.drop k23 net.2.2 = xs_ ∧ (∃ (σ : Nat → Value), a = fr 40 (ovl σ [(1, (.pointer (some ⟨g2, 0, none⟩))), (26, (.slice pa0 pn0 pc0)), (27, (.int .i64 (net.2.2.length : Int))), (28, (.int .i64 (k23 : Int)))]) ∧ Chg [] w w22 ∧ Own (Nw w []) M w22 (([g2]) ++ []) ∧ (RT.rs (RT.pr (RT.rs (RT.int .i64)) (RT.pr (RT.int .i64) (RT.rs (RT.rs (RT.int .i64)))))).val M w22 (.slice pa0 pn0 pc0) net.2.2 ([]) ∧ BoxV w22 g2 49 [(.int .i64 net.1), (.int .i64 net.2.1), (.slice pa0 pn0 pc0)])) (J := fun s21 a w22 => ∃ (σ : Nat → Value), a = fr 40 (ovl σ []) ∧ Chg [] w w22 ∧ Own (Nw w []) M w22 (([g2]) ++ []) ∧ (RT.rs (RT.pr (RT.rs (RT.int .i64)) (RT.pr (RT.int .i64) (RT.rs (RT.rs (RT.int .i64)))))).val M w22 (.slice pa0 pn0 pc0) net.2.2 ([]) ∧ BoxV w22 g2 49 [(.int .i64 net.1), (.int .i64 net.2.1), (.slice pa0 pn0 pc0)]) (K := (k_impl_IsNetwork M w)) ?_ ?_ net.2.2 0 () o25 _ _ ?_ hl26 ?_
      · rintro _ s21 a w22 ⟨k23, rfl, hd, σ, rfl, hC, hO, h0, hb2⟩
        have hlt := drop_nil_ge hd
        refine c_seq ?_
        refine c_region ?_
        refine pl_val (.bool (decide ((k23 : Int) < (net.2.2.length : Int)))) (y_lss rfl rfl) ?_
        refine c_nil ?_
        refine c_seq ?_
        refine c_condF (congrArg Value.bool (decide_eq_false hlt)) ?_
        refine wp_exit ?_
        exact ⟨rfl, _, fr_ovl 40 trivial, hC, hO, h0, hb2⟩
      · rintro _ x24 xs_ s21 o25 a w22 ⟨k23, rfl, hd, σ, rfl, hC, hO, h0, hb2⟩ hs
        have hlt := drop_cons_lt hd
        have hxk23 := drop_cons_idx hd
        refine c_seq ?_
        refine c_region ?_
        refine pl_val (.bool (decide ((k23 : Int) < (net.2.2.length : Int)))) (y_lss rfl rfl) ?_
        refine c_nil ?_
        refine c_seq ?_
        refine c_condT (congrArg Value.bool (decide_eq_true hlt)) ?_
        refine wp_skip ?_
        refine c_seq ?_
        refine wp_block ?_
        refine c_seq ?_
        refine c_region ?_
        obtain ⟨b27, o27, hp27, ha27⟩ := rs_idx Sl47 Sz108 h0 hxk23
        refine pl_val (.pointer (some ⟨b27, o27, none⟩)) (hp27 _ _ _ _ _ _ _ _ _ rfl rfl) ?_
        obtain ⟨v28, hl28, hv28⟩ := at_load Ag108 Sz108 (by intro h; cases h) ha27
        obtain ⟨cs28, rfl, hr28⟩ := hv28
        obtain ⟨cc28x1, cd28x1, rfl, hh28x1, ht28x1⟩ := pr_open hr28
        obtain ⟨a28x1, n28x1, c28x1, rfl, hv28x1⟩ := rs_rel hh28x1
        obtain ⟨cc28x3, cd28x3, rfl, hh28x3, ht28x3⟩ := pr_open ht28x1
        obtain rfl := int_rel hh28x3
        obtain ⟨a28x4, n28x4, c28x4, rfl, hv28x4⟩ := rs_rel ht28x3
        refine pl_val (.agg #[(.slice a28x1 n28x1 c28x1), (.int .i64 x24.2.1), (.slice a28x4 n28x4 c28x4)]) (y_load rfl (hl28 _ (Chg.refl _ _))) ?_
        obtain ⟨w31, g31, ew31, eg31, hC31, hb31⟩ := new_block w22 [(.slice none 0 0), (.int .i64 0), (.slice none 0 0)] 108
        refine pl_val (w' := w31) (.pointer (some ⟨g31, 0, none⟩)) (y_alloc (by rw [ew31, eg31]; kernel_rfl)) ?_
        have h0 := h0.ext hC31
        have hb2 := hb2.chg hC31 (fun h => nomatch h)
        have hv28x1 := hv28x1.ext hC31
        have hv28x4 := hv28x4.ext hC31
        have hC := hC.ext hC31
        have hO := hO.new (X' := [g31]) hC31 (fun q hq => by rw [List.mem_singleton.1 hq, eg31]; exact Nat.le_refl _) (List.nodup_cons.2 ⟨(fun h => nomatch h), List.nodup_nil⟩) (fun q hq => by rw [List.mem_singleton.1 hq]; exact hb31.lt)
        obtain ⟨w32, hst32, hC32, hb32⟩ := box_store (P := Try.prog) hb31 [] [(.slice none 0 0), (.int .i64 0), (.slice none 0 0)] [] [(.slice a28x1 n28x1 c28x1), (.int .i64 x24.2.1), (.slice a28x4 n28x4 c28x4)] rfl rfl (by intro u hu; simp only [List.mem_cons, List.not_mem_nil, or_false] at hu; rcases hu with rfl | rfl | rfl <;> rfl)
        refine pl_skip (w' := w32) (ys_store rfl rfl (hst32 _ _ rfl Sz108)) ?_
        have h0 := h0.mut hC32 (fun g hg => hO.inM g ((fun _ h => h) g hg)) (fun _ _ h => nomatch h)
        have hb2 := hb2.chg hC32 (fun hg => hO.apart _ ((fun _ h => h) _ hg) (mem_l (List.mem_singleton.2 rfl)))
        have hv28x1 := hv28x1.mut hC32 (fun g hg => hO.inM g ((fun _ h => h) g hg)) (fun _ _ h => nomatch h)
        have hv28x4 := hv28x4.mut hC32 (fun g hg => hO.inM g ((fun _ h => h) g hg)) (fun _ _ h => nomatch h)
        have hC := hC.step hC32 (fun g hg => hO.inN g ((fun _ h => h) g hg))
        have hO := hO.ext hC32
        have hb32 : BoxV w32 g31 108 [(.slice a28x1 n28x1 c28x1), (.int .i64 x24.2.1), (.slice a28x4 n28x4 c28x4)] := hb32
        refine c_nil ?_
        refine c_seq ?_
        refine c_region ?_
        refine pl_val (.pointer (some ⟨g2, 0, none⟩)) (y_faddr rfl Fa49x0) ?_
        refine pl_val (.int .i64 net.1) (y_load rfl ((box_load Ag3 Sz3 hb2 [] [(.int .i64 net.1)] [(.int .i64 net.2.1), (.slice pa0 pn0 pc0)] rfl rfl (fun _ => rfl)) _ (Chg.refl _ _))) ?_
        refine pl_val (.pointer (some ⟨g2, 1, none⟩)) (y_faddr rfl Fa49x1) ?_
        refine pl_val (.int .i64 net.2.1) (y_load rfl ((box_load Ag3 Sz3 hb2 [(.int .i64 net.1)] [(.int .i64 net.2.1)] [(.slice pa0 pn0 pc0)] rfl rfl (fun _ => rfl)) _ (Chg.refl _ _))) ?_
        refine pl_val (.agg #[(.slice a28x1 n28x1 c28x1), (.int .i64 x24.2.1), (.slice a28x4 n28x4 c28x4)]) (y_load rfl ((box_load Ag108 Sz108 hb32 [] [(.slice a28x1 n28x1 c28x1), (.int .i64 x24.2.1), (.slice a28x4 n28x4 c28x4)] [] rfl rfl (fun h => nomatch h)) _ (Chg.refl _ _))) ?_
        obtain ⟨r34, hr34, hs⟩ := bind_some hs
        refine pl_call Bd91 rfl (c_impl_isConstraint (M := M) net.1 net.2.1 (x24.1, (x24.2.1, x24.2.2)) hv28x1 hv28x4 hO.fut hr34) ?_
        rintro _ w33 ⟨rfl, hC33⟩
        have h0 := h0.ext hC33
        have hb2 := hb2.chg hC33 (fun h => nomatch h)
        have hv28x1 := hv28x1.ext hC33
        have hv28x4 := hv28x4.ext hC33
        have hb32 := hb32.chg hC33 (fun h => nomatch h)
        have hC := hC.ext hC33
        have hO := hO.ext hC33
        refine pl_val (.bool (!r34)) (y_not rfl) ?_
        refine c_nil ?_
        rcases bif_some hs with ⟨hc35, hs⟩ | ⟨hc35, hs⟩
        · skip
          refine c_condT (congrArg Value.bool hc35) ?_
          refine c_seq ?_
          refine c_region ?_
          refine pl_val (.bool false) (y_assign rfl) ?_
          refine c_nil ?_
          refine wp_ret ?_
          cases hs
          exact ⟨_, fr_ovl 40 ⟨rfl, trivial⟩, hC⟩
        · skip
          refine c_condF (congrArg Value.bool hc35) ?_
          refine wp_skip ?_
          refine c_region ?_
          refine pl_val (.int .i64 (w64 ((k23 : Int) + 1))) (y_add rfl rfl) ?_
          refine pl_val (.int .i64 (w64 ((k23 : Int) + 1))) (y_move rfl) ?_
          refine c_nil ?_
          cases hs
          have hO := hO.drop
          exact ⟨_, rfl, drop_cons_next hd, _, fr_ovl 40 ⟨rfl, rfl, rfl, congrArg (Value.int .i64) (w64_succ hlt (Int.natCast_nonneg _) (rs_max h0)), trivial⟩, hC, hO, h0, hb2⟩
      · skip
        exact ⟨0, rfl, rfl, _, fr_ovl 40 ⟨rfl, rfl, rfl, rfl, trivial⟩, hC, hO, h0, hb2⟩
      · cases o25 with
        | nx _ => exact True.intro
        | rt r_ =>
          have hs := after_rt hs
          intro a1 w1 hK
          cases hs
          exact hK
        | br s21 =>
          have hs := after_br hs
          rintro a1 w22 ⟨σ, rfl, hC, hO, h0, hb2⟩
          refine c_seq ?_
          refine c_region ?_
          refine pl_val (.bool true) (y_assign rfl) ?_
          refine c_nil ?_
          refine wp_ret ?_
          cases hs
          exact ⟨_, fr_ovl 40 ⟨rfl, trivial⟩, hC⟩

def k_impl_clone (M : Nat → Prop) (w0 : World) (r : (List Int)) (a : Act) (w : World) : Prop :=
  ∃ (σ : Nat → Value) (ra0 : Option Addr) (rn0 rc0 : Nat) (rf0 : List Nat), a = fr 6 (ovl σ [(2, (.slice ra0 rn0 rc0))]) ∧ Chg [] w0 w ∧ (RT.os 3 (RT.int .i64)).val M w (.slice ra0 rn0 rc0) r rf0 ∧ Own (Nw w0 []) (fun _ => True) w (rf0 ++ ([]))
def s_impl_clone (list : List Int) : Option ((List Int)) :=
  (app ([]) list).bind fun y5 =>
  some y5
set_option maxHeartbeats 4000000 in
theorem c_impl_clone {M : Nat → Prop} {w : World} {pa0 : Option Addr} {pn0 pc0 : Nat} (list : List Int) (h0 : (RT.rs (RT.int .i64)).val M w (.slice pa0 pn0 pc0) list ([])) (hM : ∀ g, w.heap.size ≤ g → M g) {r : (List Int)} (hs : s_impl_clone list = some r) :
    Gives Try.prog 170 [(.slice pa0 pn0 pc0)] w (fun v w' => ∃ (ra0 : Option Addr) (rn0 rc0 : Nat) (rf0 : List Nat), v = (.slice ra0 rn0 rc0) ∧ Chg [] w w' ∧ (RT.os 3 (RT.int .i64)).val M w' (.slice ra0 rn0 rc0) r rf0 ∧ Own (Nw w []) (fun _ => True) w' (rf0 ++ ([]))) := by
  refine calls_fr Try.func170 rfl Try.ntmps170 (Nat.le_of_ble_eq_true rfl) ?_
  have hO := Own.start (N := Nw w []) hM Nw.fut
  have hC := Chg.refl [] w
  unfold s_impl_clone at hs
  refine wp_mono (Q := KPost (k_impl_clone M w r)) ?_ (fun e a w1 h => ?_)
  rotate_left
  · cases e
    case ret =>
      obtain ⟨σ, ra0, rn0, rc0, rf0, rfl, hrest⟩ := h
      exact ret1x Try.results170 (res_tmp rfl) ⟨ra0, rn0, rc0, rf0, rfl, hrest⟩
    all_goals exact (h : False).elim
  refine c_seq ?_
  refine c_region ?_
  refine pl_val (.slice none 0 0) (y_assign rfl) ?_
  refine c_nil ?_
  refine c_seq ?_
  refine c_region ?_
  obtain ⟨w2, g2, ew2, eg2, hC2, hb2⟩ := new_block w [] 3
  refine pl_val (w' := w2) (.slice (some ⟨g2, 0, none⟩) 0 0) (y_bslice rfl (by rw [ew2, eg2]; kernel_rfl)) ?_
  have h0 := h0.ext hC2
  have hC := hC.ext hC2
  have hO := hO.new (X' := [g2]) hC2 (fun q hq => by rw [List.mem_singleton.1 hq, eg2]; exact Nat.le_refl _) (List.nodup_cons.2 ⟨(fun h => nomatch h), List.nodup_nil⟩) (fun q hq => by rw [List.mem_singleton.1 hq]; exact hb2.lt)
  have hv2 := os_of_box (r := (RT.int .i64)) (M := M) (css := []) (fps := []) (xs := ([] : List Int)) hb2 trivial (Nat.zero_le _) (List.nodup_cons.2 ⟨(fun h => nomatch h), List.nodup_nil⟩)
  have hv2 : (RT.os 3 (RT.int .i64)).val M w2 (.slice (some ⟨g2, 0, none⟩) 0 0) [] [g2] := hv2
  refine pl_val (.slice pa0 pn0 pc0) (y_move rfl) ?_
  obtain ⟨y5, hy5, hs⟩ := bind_some hs
  obtain ⟨a4, n4, c4, w4, f4, hr4, hC4, hf4, hv4⟩ := app_rs Rw22 hy5 hv2 h0 hO.inM
  have hG4 := os_block hv2
  refine pl_val (w' := w4) (.slice a4 n4 c4) (y_append rfl rfl (hr4 _)) ?_
  have h0 := h0.mut hC4 (fun g hg => hO.inM g (hG4 g hg)) (fun _ _ h => nomatch h)
  have hC := hC.step hC4 (fun g hg => hO.inN g (hG4 g hg))
  have hO := hO.grow hC4 hf4 (os_nodup hv4) hv4.fpl
  refine pl_val (.slice a4 n4 c4) (y_assign rfl) ?_
  refine c_nil ?_
  refine wp_ret ?_
  cases hs
  exact ⟨_, a4, n4, c4, f4, fr_ovl 6 ⟨rfl, trivial⟩, hC, hv4, hO.top⟩

theorem Bd170 : Bodied Try.prog 170 := bodied Try.func170 (by kernel_rfl) rfl

def k_impl_cloneRows (M : Nat → Prop) (w0 : World) (r : (List (List Int))) (a : Act) (w : World) : Prop :=
  ∃ (σ : Nat → Value) (ra0 : Option Addr) (rn0 rc0 : Nat) (rf0 : List Nat), a = fr 20 (ovl σ [(2, (.slice ra0 rn0 rc0))]) ∧ Chg [] w0 w ∧ (RT.os 22 (RT.os 3 (RT.int .i64))).val M w (.slice ra0 rn0 rc0) r rf0 ∧ Own (Nw w0 []) (fun _ => True) w (rf0 ++ ([]))
def s_impl_cloneRows (rows : List (List Int)) : Option ((List (List Int))) :=
  (forR (S := (List (List Int))) (R := (List (List Int))) (fun _ x20 s17 =>
  (s_impl_clone x20).bind fun r31 =>
  (app s17 ([r31])).bind fun y36 =>
  some (.nx y36)) 0 rows ([])).bind fun o21 => after o21 (fun r_ => some r_) (fun s17 =>
  some s17)
set_option maxHeartbeats 4000000 in
theorem c_impl_cloneRows {M : Nat → Prop} {w : World} {pa0 : Option Addr} {pn0 pc0 : Nat} (rows : List (List Int)) (h0 : (RT.rs (RT.rs (RT.int .i64))).val M w (.slice pa0 pn0 pc0) rows ([])) (hM : ∀ g, w.heap.size ≤ g → M g) {r : (List (List Int))} (hs : s_impl_cloneRows rows = some r) :
    Gives Try.prog 189 [(.slice pa0 pn0 pc0)] w (fun v w' => ∃ (ra0 : Option Addr) (rn0 rc0 : Nat) (rf0 : List Nat), v = (.slice ra0 rn0 rc0) ∧ Chg [] w w' ∧ (RT.os 22 (RT.os 3 (RT.int .i64))).val M w' (.slice ra0 rn0 rc0) r rf0 ∧ Own (Nw w []) (fun _ => True) w' (rf0 ++ ([]))) := by
  refine calls_fr Try.func189 rfl Try.ntmps189 (Nat.le_of_ble_eq_true rfl) ?_
  have hO := Own.start (N := Nw w []) hM Nw.fut
  have hC := Chg.refl [] w
  unfold s_impl_cloneRows at hs
  refine wp_mono (Q := KPost (k_impl_cloneRows M w r)) ?_ (fun e a w1 h => ?_)
  rotate_left
  · cases e
    case ret =>
      obtain ⟨σ, ra0, rn0, rc0, rf0, rfl, hrest⟩ := h
      exact ret1x Try.results189 (res_tmp rfl) ⟨ra0, rn0, rc0, rf0, rfl, hrest⟩
    all_goals exact (h : False).elim
  refine c_seq ?_
  refine c_region ?_
  refine pl_val (.slice none 0 0) (y_assign rfl) ?_
  refine c_nil ?_
  refine c_seq ?_
  refine c_region ?_
  obtain ⟨w2, g2, ew2, eg2, hC2, hb2⟩ := new_block w [] 22
  refine pl_val (w' := w2) (.slice (some ⟨g2, 0, none⟩) 0 0) (y_bslice rfl (by rw [ew2, eg2]; kernel_rfl)) ?_
  have h0 := h0.ext hC2
  have hC := hC.ext hC2
  have hO := hO.new (X' := [g2]) hC2 (fun q hq => by rw [List.mem_singleton.1 hq, eg2]; exact Nat.le_refl _) (List.nodup_cons.2 ⟨(fun h => nomatch h), List.nodup_nil⟩) (fun q hq => by rw [List.mem_singleton.1 hq]; exact hb2.lt)
  have hv2 := os_of_box (r := (RT.os 3 (RT.int .i64))) (M := M) (css := []) (fps := []) (xs := ([] : List (List Int))) hb2 trivial (Nat.zero_le _) (List.nodup_cons.2 ⟨(fun h => nomatch h), List.nodup_nil⟩)
  have hv2 : (RT.os 22 (RT.os 3 (RT.int .i64))).val M w2 (.slice (some ⟨g2, 0, none⟩) 0 0) [] [g2] := hv2
  refine pl_val (.slice (some ⟨g2, 0, none⟩) 0 0) (y_assign rfl) ?_
  refine c_nil ?_
  refine c_seq ?_
  refine c_seq ?_
  refine c_region ?_
  refine pl_val (.slice pa0 pn0 pc0) (y_move rfl) ?_
  refine pl_val (.int .i64 (rows.length : Int)) (y_len' Sl29 (rs_len h0) rfl) ?_
  refine pl_val (.int .i64 0) (y_move rfl) ?_
  refine c_nil ?_
  obtain ⟨o21, hl22, hs⟩ := bind_some hs
  refine wp_block ?_
  refine wp_forR (id := 0) (I := fun i_ xs_ s17 a w18 => ∃ k19 : Nat, i_ = (k19 : Int) ∧ List.drop k19 rows = xs_ ∧ (∃ (σ : Nat → Value) (a23 : Option Addr) (n23 : Nat) (c23 : Nat) (f23 : List Nat), a = fr 20 (ovl σ [(3, (.slice a23 n23 c23)), (7, (.slice pa0 pn0 pc0)), (8, (.int .i64 (rows.length : Int))), (9, (.int .i64 (k19 : Int)))]) ∧ Chg [] w w18 ∧ Own (Nw w []) M w18 (f23 ++ []) ∧ (RT.rs (RT.rs (RT.int .i64))).val M w18 (.slice pa0 pn0 pc0) rows ([]) ∧ (RT.os 22 (RT.os 3 (RT.int .i64))).val M w18 (.slice a23 n23 c23) s17 f23)) (J := fun s17 a w18 => ∃ (σ : Nat → Value) (a25 : Option Addr) (n25 : Nat) (c25 : Nat) (f25 : List Nat), a = fr 20 (ovl σ [(3, (.slice a25 n25 c25))]) ∧ Chg [] w w18 ∧ Own (Nw w []) M w18 (f25 ++ []) ∧ (RT.rs (RT.rs (RT.int .i64))).val M w18 (.slice pa0 pn0 pc0) rows ([]) ∧ (RT.os 22 (RT.os 3 (RT.int .i64))).val M w18 (.slice a25 n25 c25) s17 f25) (K := (k_impl_cloneRows M w)) ?_ ?_ rows 0 ([]) o21 _ _ ?_ hl22 ?_
  · rintro _ s17 a w18 ⟨k19, rfl, hd, σ, a23, n23, c23, f23, rfl, hC, hO, h0, hv23⟩
    have hlt := drop_nil_ge hd
    refine c_seq ?_
    refine c_region ?_
    refine pl_val (.bool (decide ((k19 : Int) < (rows.length : Int)))) (y_lss rfl rfl) ?_
    refine c_nil ?_
    refine c_seq ?_
    refine c_condF (congrArg Value.bool (decide_eq_false hlt)) ?_
    refine wp_exit ?_
    exact ⟨rfl, _, a23, n23, c23, f23, fr_ovl 20 ⟨rfl, trivial⟩, hC, hO, h0, hv23⟩
  · rintro _ x20 xs_ s17 o21 a w18 ⟨k19, rfl, hd, σ, a23, n23, c23, f23, rfl, hC, hO, h0, hv23⟩ hs
    have hlt := drop_cons_lt hd
    have hxk19 := drop_cons_idx hd
    refine c_seq ?_
    refine c_region ?_
    refine pl_val (.bool (decide ((k19 : Int) < (rows.length : Int)))) (y_lss rfl rfl) ?_
    refine c_nil ?_
    refine c_seq ?_
    refine c_condT (congrArg Value.bool (decide_eq_true hlt)) ?_
    refine wp_skip ?_
    refine c_seq ?_
    refine wp_block ?_
    refine c_seq ?_
    refine c_region ?_
    obtain ⟨b27, o27, hp27, ha27⟩ := rs_idx Sl29 Sz22 h0 hxk19
    refine pl_val (.pointer (some ⟨b27, o27, none⟩)) (hp27 _ _ _ _ _ _ _ _ _ rfl rfl) ?_
    obtain ⟨v28, hl28, hv28⟩ := at_load Ag22 Sz22 (fun _ => rfl) ha27
    obtain ⟨a28, n28, c28, rfl⟩ := rs_sl hv28
    refine pl_val (.slice a28 n28 c28) (y_load rfl (hl28 _ (Chg.refl _ _))) ?_
    refine pl_val (.slice a28 n28 c28) (y_assign rfl) ?_
    refine c_nil ?_
    refine c_region ?_
    refine pl_val (.slice a23 n23 c23) (y_move rfl) ?_
    refine pl_val (.slice a28 n28 c28) (y_move rfl) ?_
    obtain ⟨r31, hr31, hs⟩ := bind_some hs
    refine pl_call Bd170 rfl (c_impl_clone (M := M) x20 hv28 hO.fut hr31) ?_
    rintro _ w30 ⟨a30x0, n30x0, c30x0, f30x0, rfl, hC30, hv30x0, hOc30⟩
    have h0 := h0.ext hC30
    have hv23 := hv23.ext hC30
    have hv28 := hv28.ext hC30
    have hC := hC.ext hC30
    have hO := Own.join0 hO hC30 hOc30
    have hO := hO.perm (R := f30x0 ++ (f23 ++ ([]))) (by simp)
    obtain ⟨w33, g33, ew33, eg33, hC33, hb33⟩ := new_block w30 [(.slice a30x0 n30x0 c30x0)] 22
    refine pl_val (w' := w33) (.slice (some ⟨g33, 0, none⟩) 1 1) (y_bslice rfl (by rw [ew33, eg33]; kernel_rfl)) ?_
    have h0 := h0.ext hC33
    have hv23 := hv23.ext hC33
    have hv28 := hv28.ext hC33
    have hv30x0 := hv30x0.ext hC33
    have hC := hC.ext hC33
    have hO := hO.new (X' := [g33]) hC33 (fun q hq => by rw [List.mem_singleton.1 hq, eg33]; exact Nat.le_refl _) (List.nodup_cons.2 ⟨(fun h => nomatch h), List.nodup_nil⟩) (fun q hq => by rw [List.mem_singleton.1 hq]; exact hb33.lt)
    have hO := hO.perm (R := (g33 :: ((f30x0) ++ ([]))) ++ (f23 ++ ([]))) (by simp)
    have hnd33 := hO.nd
    have hv33 := os_of_box (r := (RT.os 3 (RT.int .i64))) (M := M) (css := [[(.slice a30x0 n30x0 c30x0)]]) (fps := [(f30x0 : List Nat)]) (xs := ([r31] : List (List Int))) hb33 ⟨(os_unval hv30x0), trivial⟩ (Nat.le_of_ble_eq_true rfl) hnd33
    have hv33 : (RT.os 22 (RT.os 3 (RT.int .i64))).val M w33 (.slice (some ⟨g33, 0, none⟩) 1 1) [r31] (g33 :: ((f30x0) ++ ([]))) := hv33
    obtain ⟨y36, hy36, hs⟩ := bind_some hs
    have hO := hO.fr1
    obtain ⟨a35, n35, c35, w35, f35, hr35, hC35, hf35, hv35⟩ := app_os Rw29 hy36 hv23 hv33 hO.inM (fun g hg hq => hO.apart g hq (mem_l hg))
    have hG35 := os_block hv23
    refine pl_val (w' := w35) (.slice a35 n35 c35) (y_append rfl rfl (hr35 _)) ?_
    have hO := hO.fr1
    have hO := hO.fr1
    have h0 := h0.mut hC35 (fun g hg => hO.inM g (hG35 g hg)) (fun _ _ h => nomatch h)
    have hv28 := hv28.mut hC35 (fun g hg => hO.inM g (hG35 g hg)) (fun _ _ h => nomatch h)
    have hC := hC.step hC35 (fun g hg => hO.inN g (hG35 g hg))
    have hO := hO.eat hC35 hf35 (os_nodup hv35) hv35.fpl
    refine pl_val (.slice a35 n35 c35) (y_assign rfl) ?_
    refine c_nil ?_
    refine c_region ?_
    refine pl_val (.int .i64 (w64 ((k19 : Int) + 1))) (y_add rfl rfl) ?_
    refine pl_val (.int .i64 (w64 ((k19 : Int) + 1))) (y_move rfl) ?_
    refine c_nil ?_
    cases hs
    exact ⟨_, rfl, drop_cons_next hd, _, a35, n35, c35, f35, fr_ovl 20 ⟨rfl, rfl, rfl, congrArg (Value.int .i64) (w64_succ hlt (Int.natCast_nonneg _) (rs_max h0)), trivial⟩, hC, hO, h0, hv35⟩
  · skip
    exact ⟨0, rfl, rfl, _, (some ⟨g2, 0, none⟩), 0, 0, ([g2]), fr_ovl 20 ⟨rfl, rfl, rfl, rfl, trivial⟩, hC, hO, h0, hv2⟩
  · cases o21 with
    | nx _ => exact True.intro
    | rt r_ =>
      have hs := after_rt hs
      intro a1 w1 hK
      cases hs
      exact hK
    | br s17 =>
      have hs := after_br hs
      rintro a1 w18 ⟨σ, a25, n25, c25, f25, rfl, hC, hO, h0, hv25⟩
      refine c_seq ?_
      refine c_region ?_
      refine pl_val (.slice a25 n25 c25) (y_move rfl) ?_
      refine pl_val (.slice a25 n25 c25) (y_assign rfl) ?_
      refine c_nil ?_
      refine wp_ret ?_
      cases hs
      exact ⟨_, a25, n25, c25, f25, fr_ovl 20 ⟨rfl, trivial⟩, hC, hv25, hO.top⟩

theorem Bd189 : Bodied Try.prog 189 := bodied Try.func189 (by kernel_rfl) rfl

def k_impl_cloneRelation (M : Nat → Prop) (w0 : World) (r : (Int × (List (List Int)))) (a : Act) (w : World) : Prop :=
  ∃ (σ : Nat → Value) (rg2 : Nat) (ra0 : Option Addr) (rn0 rc0 : Nat) (rf0 : List Nat), a = fr 9 (ovl σ [(2, (.pointer (some ⟨rg2, 0, none⟩)))]) ∧ BoxV w rg2 31 [(.int .i64 r.1), (.slice ra0 rn0 rc0)] ∧ Chg [] w0 w ∧ (RT.os 22 (RT.os 3 (RT.int .i64))).val M w (.slice ra0 rn0 rc0) r.2 rf0 ∧ Own (Nw w0 []) (fun _ => True) w (rf0 ++ ([]))
def s_impl_cloneRelation (r_ : Int × (List (List Int))) : Option ((Int × (List (List Int)))) :=
  (s_impl_cloneRows r_.2).bind fun r6 =>
  some (r_.1, r6)
set_option maxHeartbeats 4000000 in
theorem c_impl_cloneRelation {M : Nat → Prop} {w : World} {pa0 : Option Addr} {pn0 pc0 : Nat} (r_ : Int × (List (List Int))) (h0 : (RT.rs (RT.rs (RT.int .i64))).val M w (.slice pa0 pn0 pc0) r_.2 ([])) (hM : ∀ g, w.heap.size ≤ g → M g) {r : (Int × (List (List Int)))} (hs : s_impl_cloneRelation r_ = some r) :
    Gives Try.prog 171 [(.agg #[(.int .i64 r_.1), (.slice pa0 pn0 pc0)])] w (fun v w' => ∃ (ra0 : Option Addr) (rn0 rc0 : Nat) (rf0 : List Nat), v = (.agg #[(.int .i64 r.1), (.slice ra0 rn0 rc0)]) ∧ Chg [] w w' ∧ (RT.os 22 (RT.os 3 (RT.int .i64))).val M w' (.slice ra0 rn0 rc0) r.2 rf0 ∧ Own (Nw w []) (fun _ => True) w' (rf0 ++ ([]))) := by
  refine calls_fr Try.func171 rfl Try.ntmps171 (Nat.le_of_ble_eq_true rfl) ?_
  have hO := Own.start (N := Nw w []) hM Nw.fut
  have hC := Chg.refl [] w
  unfold s_impl_cloneRelation at hs
  refine wp_mono (Q := KPost (k_impl_cloneRelation M w r)) ?_ (fun e a w1 h => ?_)
  rotate_left
  · cases e
    case ret =>
      obtain ⟨σ, rg2, ra0, rn0, rc0, rf0, rfl, hbrg2, hrest⟩ := h
      exact ret1x Try.results171 (res_cell rfl (box_load Ag31 Sz31 hbrg2 [] _ [] rfl rfl (fun h => nomatch h))) ⟨ra0, rn0, rc0, rf0, rfl, hrest⟩
    all_goals exact (h : False).elim
  refine c_seq ?_
  refine c_region ?_
  obtain ⟨w2, g2, ew2, eg2, hC2, hb2⟩ := new_block w [(.int .i64 r_.1), (.slice pa0 pn0 pc0)] 31
  refine pl_val (w' := w2) (.pointer (some ⟨g2, 0, none⟩)) (y_box rfl (by rw [ew2, eg2]; kernel_rfl)) ?_
  have h0 := h0.ext hC2
  have hC := hC.ext hC2
  have hO := hO.new (X' := [g2]) hC2 (fun q hq => by rw [List.mem_singleton.1 hq, eg2]; exact Nat.le_refl _) (List.nodup_cons.2 ⟨(fun h => nomatch h), List.nodup_nil⟩) (fun q hq => by rw [List.mem_singleton.1 hq]; exact hb2.lt)
  obtain ⟨w3, g3, ew3, eg3, hC3, hb3⟩ := new_block w2 [(.int .i64 0), (.slice none 0 0)] 31
  refine pl_val (w' := w3) (.pointer (some ⟨g3, 0, none⟩)) (y_alloc (by rw [ew3, eg3]; kernel_rfl)) ?_
  have h0 := h0.ext hC3
  have hb2 := hb2.chg hC3 (fun h => nomatch h)
  have hC := hC.ext hC3
  have hO := hO.new (X' := [g3]) hC3 (fun q hq => by rw [List.mem_singleton.1 hq, eg3]; exact Nat.le_refl _) (List.nodup_cons.2 ⟨(fun h => nomatch h), List.nodup_nil⟩) (fun q hq => by rw [List.mem_singleton.1 hq]; exact hb3.lt)
  refine c_nil ?_
  refine c_seq ?_
  refine x_start [6] Mx rfl ?_
  have hCw4 := Chg.drew w3
  generalize World.drew w3 = w4 at hCw4 ⊢
  have h0 := h0.ext hCw4
  have hb2 := hb2.chg hCw4 (fun h => nomatch h)
  have hb3 := hb3.chg hCw4 (fun h => nomatch h)
  have hC := hC.ext hCw4
  have hO := hO.ext hCw4
  have hS := Chg.refl [] w4
  refine x_p 0 (.pointer (some ⟨g2, 0, none⟩)) rfl (by kernel_rfl)  (fun _ => y_faddr rfl Fa31x0) (fun _ => hS) ?_
  refine x_l 1 (.int .i64 r_.1) rfl (by kernel_rfl)  (fun w' hw' => y_load rfl ((box_load Ag3 Sz3 hb2 [] [(.int .i64 r_.1)] [(.slice pa0 pn0 pc0)] rfl rfl (fun _ => rfl)) w' hw')) hS ?_
  refine x_p 2 (.pointer (some ⟨g2, 1, none⟩)) rfl (by kernel_rfl)  (fun _ => y_faddr rfl Fa31x1) (fun _ => hS) ?_
  refine x_l 3 (.slice pa0 pn0 pc0) rfl (by kernel_rfl)  (fun w' hw' => y_load rfl ((box_load Ag29 Sz29 hb2 [(.int .i64 r_.1)] [(.slice pa0 pn0 pc0)] [] rfl rfl (fun _ => rfl)) w' hw')) hS ?_
  refine x_one (i := 4) (by kernel_rfl) ?_
  obtain ⟨r6, hr6, hs⟩ := bind_some hs
  refine xk_call (b := false) rfl  Bd189 rfl (c_impl_cloneRows (M := M) r_.2 h0 hO.fut hr6) rfl (by rintro _ _ _ ⟨a5x0, n5x0, c5x0, f5x0, rfl, hC5, hv5x0, hOc5⟩; exact hS.ext hC5) ?_
  rintro _ w5 ⟨a5x0, n5x0, c5x0, f5x0, rfl, hC5, hv5x0, hOc5⟩
  have h0 := h0.ext hC5
  have hb2 := hb2.chg hC5 (fun h => nomatch h)
  have hb3 := hb3.chg hC5 (fun h => nomatch h)
  have hC := hC.ext hC5
  have hO := Own.join0 hO hC5 hOc5
  have hO := hO.perm (R := f5x0 ++ (([g3]) ++ (([g2]) ++ ([])))) (by simp)
  have hS := hS.ext hC5
  refine x_p 5 (.agg #[(.int .i64 r_.1), (.slice a5x0 n5x0 c5x0)]) rfl (by kernel_rfl)  (fun _ => y_build rfl (by kernel_rfl)) (fun _ => hS) ?_
  refine x_one (i := 6) (by kernel_rfl) ?_
  obtain ⟨w8, hst8, hC8, hb8⟩ := box_store (P := Try.prog) hb3 [] [(.int .i64 0), (.slice none 0 0)] [] [(.int .i64 r_.1), (.slice a5x0 n5x0 c5x0)] rfl rfl (by intro u hu; simp only [List.mem_cons, List.not_mem_nil, or_false] at hu; rcases hu with rfl | rfl <;> rfl)
  refine xk_skip (w' := w8) (b := true) rfl (ys_store rfl rfl (hst8 _ _ rfl Sz31)) rfl (fun h => nomatch h) ?_
  have hO := hO.fr1
  have h0 := h0.mut hC8 (fun g hg => hO.inM g ((fun _ h => h) g hg)) (fun _ _ h => nomatch h)
  have hb2 := hb2.chg hC8 (fun hg => hO.apart _ ((fun _ h => h) _ hg) (mem_r (mem_l (List.mem_singleton.2 rfl))))
  have hv5x0 := hv5x0.mut hC8 (fun g hg => hO.inM g ((fun _ h => h) g hg)) (fun g hg e => hO.apart g ((fun _ h => h) g hg) (mem_l (e)))
  have hC := hC.step hC8 (fun g hg => hO.inN g ((fun _ h => h) g hg))
  have hO := hO.ext hC8
  have hb8 : BoxV w8 g3 31 [(.int .i64 r_.1), (.slice a5x0 n5x0 c5x0)] := hb8
  refine x_end (by kernel_rfl) ?_
  clear hS
  refine wp_ret ?_
  cases hs
  have hO := hO.drop
  have hO := hO.fr1
  have hO := hO.drop
  exact ⟨_, g3, a5x0, n5x0, c5x0, f5x0, fr_ovl 9 ⟨rfl, trivial⟩, hb8, hC, hv5x0, hO.top⟩

theorem Bd171 : Bodied Try.prog 171 := bodied Try.func171 (by kernel_rfl) rfl

def k_impl_cloneConstraints (M : Nat → Prop) (w0 : World) (r : (List ((List Int) × (Int × (List (List Int)))))) (a : Act) (w : World) : Prop :=
  ∃ (σ : Nat → Value) (ra0 : Option Addr) (rn0 rc0 : Nat) (rf0 : List Nat), a = fr 25 (ovl σ [(2, (.slice ra0 rn0 rc0))]) ∧ Chg [] w0 w ∧ (RT.os 108 (RT.pr (RT.os 3 (RT.int .i64)) (RT.pr (RT.int .i64) (RT.os 22 (RT.os 3 (RT.int .i64)))))).val M w (.slice ra0 rn0 rc0) r rf0 ∧ Own (Nw w0 []) (fun _ => True) w (rf0 ++ ([]))
def s_impl_cloneConstraints (list : List ((List Int) × (Int × (List (List Int))))) : Option ((List ((List Int) × (Int × (List (List Int)))))) :=
  (forR (S := (List ((List Int) × (Int × (List (List Int)))))) (R := (List ((List Int) × (Int × (List (List Int)))))) (fun _ x27 s24 =>
  (s_impl_clone x27.1).bind fun r42 =>
  (s_impl_cloneRelation (x27.2.1, x27.2.2)).bind fun r45 =>
  (app s24 ([(r42, (r45.1, r45.2))])).bind fun y50 =>
  some (.nx y50)) 0 list ([])).bind fun o28 => after o28 (fun r_ => some r_) (fun s24 =>
  some s24)
set_option maxHeartbeats 4000000 in
theorem c_impl_cloneConstraints {M : Nat → Prop} {w : World} {pa0 : Option Addr} {pn0 pc0 : Nat} (list : List ((List Int) × (Int × (List (List Int))))) (h0 : (RT.rs (RT.pr (RT.rs (RT.int .i64)) (RT.pr (RT.int .i64) (RT.rs (RT.rs (RT.int .i64)))))).val M w (.slice pa0 pn0 pc0) list ([])) (hM : ∀ g, w.heap.size ≤ g → M g) {r : (List ((List Int) × (Int × (List (List Int)))))} (hs : s_impl_cloneConstraints list = some r) :
    Gives Try.prog 134 [(.slice pa0 pn0 pc0)] w (fun v w' => ∃ (ra0 : Option Addr) (rn0 rc0 : Nat) (rf0 : List Nat), v = (.slice ra0 rn0 rc0) ∧ Chg [] w w' ∧ (RT.os 108 (RT.pr (RT.os 3 (RT.int .i64)) (RT.pr (RT.int .i64) (RT.os 22 (RT.os 3 (RT.int .i64)))))).val M w' (.slice ra0 rn0 rc0) r rf0 ∧ Own (Nw w []) (fun _ => True) w' (rf0 ++ ([]))) := by
  refine calls_fr Try.func134 rfl Try.ntmps134 (Nat.le_of_ble_eq_true rfl) ?_
  have hO := Own.start (N := Nw w []) hM Nw.fut
  have hC := Chg.refl [] w
  unfold s_impl_cloneConstraints at hs
  refine wp_mono (Q := KPost (k_impl_cloneConstraints M w r)) ?_ (fun e a w1 h => ?_)
  rotate_left
  · cases e
    case ret =>
      obtain ⟨σ, ra0, rn0, rc0, rf0, rfl, hrest⟩ := h
      exact ret1x Try.results134 (res_tmp rfl) ⟨ra0, rn0, rc0, rf0, rfl, hrest⟩
    all_goals exact (h : False).elim
  refine c_seq ?_
  refine c_region ?_
  refine pl_val (.slice none 0 0) (y_assign rfl) ?_
  refine c_nil ?_
  refine c_seq ?_
  refine c_region ?_
  obtain ⟨w2, g2, ew2, eg2, hC2, hb2⟩ := new_block w [] 108
  refine pl_val (w' := w2) (.slice (some ⟨g2, 0, none⟩) 0 0) (y_bslice rfl (by rw [ew2, eg2]; kernel_rfl)) ?_
  have h0 := h0.ext hC2
  have hC := hC.ext hC2
  have hO := hO.new (X' := [g2]) hC2 (fun q hq => by rw [List.mem_singleton.1 hq, eg2]; exact Nat.le_refl _) (List.nodup_cons.2 ⟨(fun h => nomatch h), List.nodup_nil⟩) (fun q hq => by rw [List.mem_singleton.1 hq]; exact hb2.lt)
  have hv2 := os_of_box (r := (RT.pr (RT.os 3 (RT.int .i64)) (RT.pr (RT.int .i64) (RT.os 22 (RT.os 3 (RT.int .i64)))))) (M := M) (css := []) (fps := []) (xs := ([] : List ((List Int) × (Int × (List (List Int)))))) hb2 trivial (Nat.zero_le _) (List.nodup_cons.2 ⟨(fun h => nomatch h), List.nodup_nil⟩)
  have hv2 : (RT.os 108 (RT.pr (RT.os 3 (RT.int .i64)) (RT.pr (RT.int .i64) (RT.os 22 (RT.os 3 (RT.int .i64)))))).val M w2 (.slice (some ⟨g2, 0, none⟩) 0 0) [] [g2] := hv2
  refine pl_val (.slice (some ⟨g2, 0, none⟩) 0 0) (y_assign rfl) ?_
  refine c_nil ?_
  refine c_seq ?_
  refine c_seq ?_
  refine c_region ?_
  refine pl_val (.slice pa0 pn0 pc0) (y_move rfl) ?_
  refine pl_val (.int .i64 (list.length : Int)) (y_len' Sl47 (rs_len h0) rfl) ?_
  refine pl_val (.int .i64 0) (y_move rfl) ?_
  refine c_nil ?_
  obtain ⟨o28, hl29, hs⟩ := bind_some hs
  refine wp_block ?_
  refine wp_forR (id := 0) (I := fun i_ xs_ s24 a w25 => ∃ k26 : Nat, i_ = (k26 : Int) ∧ List.drop k26 list = xs_ ∧ (∃ (σ : Nat → Value) (a30 : Option Addr) (n30 : Nat) (c30 : Nat) (f30 : List Nat), a = fr 25 (ovl σ [(3, (.slice a30 n30 c30)), (7, (.slice pa0 pn0 pc0)), (8, (.int .i64 (list.length : Int))), (9, (.int .i64 (k26 : Int)))]) ∧ Chg [] w w25 ∧ Own (Nw w []) M w25 (f30 ++ []) ∧ (RT.rs (RT.pr (RT.rs (RT.int .i64)) (RT.pr (RT.int .i64) (RT.rs (RT.rs (RT.int .i64)))))).val M w25 (.slice pa0 pn0 pc0) list ([]) ∧ (RT.os 108 (RT.pr (RT.os 3 (RT.int .i64)) (RT.pr (RT.int .i64) (RT.os 22 (RT.os 3 (RT.int .i64)))))).val M w25 (.slice a30 n30 c30) s24 f30)) (J := fun s24 a w25 => ∃ (σ : Nat → Value) (a32 : Option Addr) (n32 : Nat) (c32 : Nat) (f32 : List Nat), a = fr 25 (ovl σ [(3, (.slice a32 n32 c32))]) ∧ Chg [] w w25 ∧ Own (Nw w []) M w25 (f32 ++ []) ∧ (RT.rs (RT.pr (RT.rs (RT.int .i64)) (RT.pr (RT.int .i64) (RT.rs (RT.rs (RT.int .i64)))))).val M w25 (.slice pa0 pn0 pc0) list ([]) ∧ (RT.os 108 (RT.pr (RT.os 3 (RT.int .i64)) (RT.pr (RT.int .i64) (RT.os 22 (RT.os 3 (RT.int .i64)))))).val M w25 (.slice a32 n32 c32) s24 f32) (K := (k_impl_cloneConstraints M w)) ?_ ?_ list 0 ([]) o28 _ _ ?_ hl29 ?_
  · rintro _ s24 a w25 ⟨k26, rfl, hd, σ, a30, n30, c30, f30, rfl, hC, hO, h0, hv30⟩
    have hlt := drop_nil_ge hd
    refine c_seq ?_
    refine c_region ?_
    refine pl_val (.bool (decide ((k26 : Int) < (list.length : Int)))) (y_lss rfl rfl) ?_
    refine c_nil ?_
    refine c_seq ?_
    refine c_condF (congrArg Value.bool (decide_eq_false hlt)) ?_
    refine wp_exit ?_
    exact ⟨rfl, _, a30, n30, c30, f30, fr_ovl 25 ⟨rfl, trivial⟩, hC, hO, h0, hv30⟩
  · rintro _ x27 xs_ s24 o28 a w25 ⟨k26, rfl, hd, σ, a30, n30, c30, f30, rfl, hC, hO, h0, hv30⟩ hs
    have hlt := drop_cons_lt hd
    have hxk26 := drop_cons_idx hd
    refine c_seq ?_
    refine c_region ?_
    refine pl_val (.bool (decide ((k26 : Int) < (list.length : Int)))) (y_lss rfl rfl) ?_
    refine c_nil ?_
    refine c_seq ?_
    refine c_condT (congrArg Value.bool (decide_eq_true hlt)) ?_
    refine wp_skip ?_
    refine c_seq ?_
    refine wp_block ?_
    refine c_seq ?_
    refine c_region ?_
    obtain ⟨b34, o34, hp34, ha34⟩ := rs_idx Sl47 Sz108 h0 hxk26
    refine pl_val (.pointer (some ⟨b34, o34, none⟩)) (hp34 _ _ _ _ _ _ _ _ _ rfl rfl) ?_
    obtain ⟨v35, hl35, hv35⟩ := at_load Ag108 Sz108 (by intro h; cases h) ha34
    obtain ⟨cs35, rfl, hr35⟩ := hv35
    obtain ⟨cc35x1, cd35x1, rfl, hh35x1, ht35x1⟩ := pr_open hr35
    obtain ⟨a35x1, n35x1, c35x1, rfl, hv35x1⟩ := rs_rel hh35x1
    obtain ⟨cc35x3, cd35x3, rfl, hh35x3, ht35x3⟩ := pr_open ht35x1
    obtain rfl := int_rel hh35x3
    obtain ⟨a35x4, n35x4, c35x4, rfl, hv35x4⟩ := rs_rel ht35x3
    refine pl_val (.agg #[(.slice a35x1 n35x1 c35x1), (.int .i64 x27.2.1), (.slice a35x4 n35x4 c35x4)]) (y_load rfl (hl35 _ (Chg.refl _ _))) ?_
    obtain ⟨w38, g38, ew38, eg38, hC38, hb38⟩ := new_block w25 [(.slice none 0 0), (.int .i64 0), (.slice none 0 0)] 108
    refine pl_val (w' := w38) (.pointer (some ⟨g38, 0, none⟩)) (y_alloc (by rw [ew38, eg38]; kernel_rfl)) ?_
    have h0 := h0.ext hC38
    have hv30 := hv30.ext hC38
    have hv35x1 := hv35x1.ext hC38
    have hv35x4 := hv35x4.ext hC38
    have hC := hC.ext hC38
    have hO := hO.new (X' := [g38]) hC38 (fun q hq => by rw [List.mem_singleton.1 hq, eg38]; exact Nat.le_refl _) (List.nodup_cons.2 ⟨(fun h => nomatch h), List.nodup_nil⟩) (fun q hq => by rw [List.mem_singleton.1 hq]; exact hb38.lt)
    obtain ⟨w39, hst39, hC39, hb39⟩ := box_store (P := Try.prog) hb38 [] [(.slice none 0 0), (.int .i64 0), (.slice none 0 0)] [] [(.slice a35x1 n35x1 c35x1), (.int .i64 x27.2.1), (.slice a35x4 n35x4 c35x4)] rfl rfl (by intro u hu; simp only [List.mem_cons, List.not_mem_nil, or_false] at hu; rcases hu with rfl | rfl | rfl <;> rfl)
    refine pl_skip (w' := w39) (ys_store rfl rfl (hst39 _ _ rfl Sz108)) ?_
    have h0 := h0.mut hC39 (fun g hg => hO.inM g ((fun _ h => h) g hg)) (fun _ _ h => nomatch h)
    have hv30 := hv30.mut hC39 (fun g hg => hO.inM g ((fun _ h => h) g hg)) (fun g hg e => hO.apart g ((fun _ h => h) g hg) (mem_l (e)))
    have hv35x1 := hv35x1.mut hC39 (fun g hg => hO.inM g ((fun _ h => h) g hg)) (fun _ _ h => nomatch h)
    have hv35x4 := hv35x4.mut hC39 (fun g hg => hO.inM g ((fun _ h => h) g hg)) (fun _ _ h => nomatch h)
    have hC := hC.step hC39 (fun g hg => hO.inN g ((fun _ h => h) g hg))
    have hO := hO.ext hC39
    have hb39 : BoxV w39 g38 108 [(.slice a35x1 n35x1 c35x1), (.int .i64 x27.2.1), (.slice a35x4 n35x4 c35x4)] := hb39
    refine c_nil ?_
    refine x_start [9] Mx rfl ?_
    have hCw40 := Chg.drew w39
    generalize World.drew w39 = w40 at hCw40 ⊢
    have h0 := h0.ext hCw40
    have hv30 := hv30.ext hCw40
    have hv35x1 := hv35x1.ext hCw40
    have hv35x4 := hv35x4.ext hCw40
    have hb39 := hb39.chg hCw40 (fun h => nomatch h)
    have hC := hC.ext hCw40
    have hO := hO.ext hCw40
    have hS := Chg.refl [] w40
    refine x_p 0 (.slice a30 n30 c30) rfl (by kernel_rfl)  (fun _ => y_move rfl) (fun _ => hS) ?_
    refine x_p 1 (.pointer (some ⟨g38, 0, none⟩)) rfl (by kernel_rfl)  (fun _ => y_faddr rfl Fa108x0) (fun _ => hS) ?_
    refine x_l 2 (.slice a35x1 n35x1 c35x1) rfl (by kernel_rfl)  (fun w' hw' => y_load rfl ((box_load Ag22 Sz22 hb39 [] [(.slice a35x1 n35x1 c35x1)] [(.int .i64 x27.2.1), (.slice a35x4 n35x4 c35x4)] rfl rfl (fun _ => rfl)) w' hw')) hS ?_
    refine x_p 4 (.pointer (some ⟨g38, 1, none⟩)) rfl (by kernel_rfl)  (fun _ => y_faddr rfl Fa108x1) (fun _ => hS) ?_
    refine x_l 5 (.agg #[(.int .i64 x27.2.1), (.slice a35x4 n35x4 c35x4)]) rfl (by kernel_rfl)  (fun w' hw' => y_load rfl ((box_load Ag31 Sz31 hb39 [(.slice a35x1 n35x1 c35x1)] [(.int .i64 x27.2.1), (.slice a35x4 n35x4 c35x4)] [] rfl rfl (fun h => nomatch h)) w' hw')) hS ?_
    refine x_one (i := 3) (by kernel_rfl) ?_
    obtain ⟨r42, hr42, hs⟩ := bind_some hs
    refine xk_call (b := false) rfl  Bd170 rfl (c_impl_clone (M := M) x27.1 hv35x1 hO.fut hr42) rfl (by rintro _ _ _ ⟨a41x0, n41x0, c41x0, f41x0, rfl, hC41, hv41x0, hOc41⟩; exact hS.ext hC41) ?_
    rintro _ w41 ⟨a41x0, n41x0, c41x0, f41x0, rfl, hC41, hv41x0, hOc41⟩
    have h0 := h0.ext hC41
    have hv30 := hv30.ext hC41
    have hv35x1 := hv35x1.ext hC41
    have hv35x4 := hv35x4.ext hC41
    have hb39 := hb39.chg hC41 (fun h => nomatch h)
    have hC := hC.ext hC41
    have hO := Own.join0 hO hC41 hOc41
    have hO := hO.perm (R := f41x0 ++ (([g38]) ++ (f30 ++ ([])))) (by simp)
    have hS := hS.ext hC41
    refine x_one (i := 6) (by kernel_rfl) ?_
    obtain ⟨r45, hr45, hs⟩ := bind_some hs
    refine xk_call (b := false) rfl  Bd171 rfl (c_impl_cloneRelation (M := M) (x27.2.1, x27.2.2) hv35x4 hO.fut hr45) rfl (by rintro _ _ _ ⟨a44x0, n44x0, c44x0, f44x0, rfl, hC44, hv44x0, hOc44⟩; exact hS.ext hC44) ?_
    rintro _ w44 ⟨a44x0, n44x0, c44x0, f44x0, rfl, hC44, hv44x0, hOc44⟩
    have h0 := h0.ext hC44
    have hv30 := hv30.ext hC44
    have hv35x1 := hv35x1.ext hC44
    have hv35x4 := hv35x4.ext hC44
    have hb39 := hb39.chg hC44 (fun h => nomatch h)
    have hv41x0 := hv41x0.ext hC44
    have hC := hC.ext hC44
    have hO := Own.join0 hO hC44 hOc44
    have hO := hO.perm (R := f44x0 ++ (f41x0 ++ (([g38]) ++ (f30 ++ ([]))))) (by simp)
    have hS := hS.ext hC44
    refine x_p 7 (.agg #[(.slice a41x0 n41x0 c41x0), (.int .i64 r45.1), (.slice a44x0 n44x0 c44x0)]) rfl (by kernel_rfl)  (fun _ => y_build rfl (by kernel_rfl)) (fun _ => hS) ?_
    refine x_one (i := 8) (by kernel_rfl) ?_
    obtain ⟨w47, g47, ew47, eg47, hC47, hb47⟩ := new_block w44 [(.slice a41x0 n41x0 c41x0), (.int .i64 r45.1), (.slice a44x0 n44x0 c44x0)] 108
    refine xk_val (w' := w47) (b := false) (.slice (some ⟨g47, 0, none⟩) 1 1) rfl  (y_bslice rfl (by rw [ew47, eg47]; kernel_rfl)) rfl (fun _ => hS.ext hC47) ?_
    have h0 := h0.ext hC47
    have hv30 := hv30.ext hC47
    have hv35x1 := hv35x1.ext hC47
    have hv35x4 := hv35x4.ext hC47
    have hb39 := hb39.chg hC47 (fun h => nomatch h)
    have hv41x0 := hv41x0.ext hC47
    have hv44x0 := hv44x0.ext hC47
    have hC := hC.ext hC47
    have hO := hO.fr1
    have hO := hO.new (X' := [g47]) hC47 (fun q hq => by rw [List.mem_singleton.1 hq, eg47]; exact Nat.le_refl _) (List.nodup_cons.2 ⟨(fun h => nomatch h), List.nodup_nil⟩) (fun q hq => by rw [List.mem_singleton.1 hq]; exact hb47.lt)
    have hO := hO.perm (R := (g47 :: ((f41x0 ++ f44x0) ++ ([]))) ++ (([g38]) ++ (f30 ++ ([])))) (by simp)
    have hnd47 := hO.nd
    have hv47 := os_of_box (r := (RT.pr (RT.os 3 (RT.int .i64)) (RT.pr (RT.int .i64) (RT.os 22 (RT.os 3 (RT.int .i64)))))) (M := M) (css := [[(.slice a41x0 n41x0 c41x0), (.int .i64 r45.1), (.slice a44x0 n44x0 c44x0)]]) (fps := [(f41x0 ++ f44x0 : List Nat)]) (xs := ([(r42, (r45.1, r45.2))] : List ((List Int) × (Int × (List (List Int)))))) hb47 ⟨⟨_, _, _, _, rfl, rfl, (os_unval hv41x0), ⟨_, _, _, _, rfl, rfl, ⟨rfl, rfl⟩, (os_unval hv44x0)⟩⟩, trivial⟩ (Nat.le_of_ble_eq_true rfl) hnd47
    have hv47 : (RT.os 108 (RT.pr (RT.os 3 (RT.int .i64)) (RT.pr (RT.int .i64) (RT.os 22 (RT.os 3 (RT.int .i64)))))).val M w47 (.slice (some ⟨g47, 0, none⟩) 1 1) [(r42, (r45.1, r45.2))] (g47 :: ((f41x0 ++ f44x0) ++ ([]))) := hv47
    have hS := hS.ext hC47
    refine x_one (i := 9) (by kernel_rfl) ?_
    obtain ⟨y50, hy50, hs⟩ := bind_some hs
    have hO := hO.fr2
    obtain ⟨a49, n49, c49, w49, f49, hr49, hC49, hf49, hv49⟩ := app_os Rw47 hy50 hv30 hv47 hO.inM (fun g hg hq => hO.apart g hq (mem_l hg))
    have hG49 := os_block hv30
    refine xk_val (w' := w49) (b := true) (.slice a49 n49 c49) rfl  (y_append rfl rfl (hr49 _)) rfl (fun h => nomatch h) ?_
    have hO := hO.fr1
    have hO := hO.fr1
    have h0 := h0.mut hC49 (fun g hg => hO.inM g (hG49 g hg)) (fun _ _ h => nomatch h)
    have hv35x1 := hv35x1.mut hC49 (fun g hg => hO.inM g (hG49 g hg)) (fun _ _ h => nomatch h)
    have hv35x4 := hv35x4.mut hC49 (fun g hg => hO.inM g (hG49 g hg)) (fun _ _ h => nomatch h)
    have hb39 := hb39.chg hC49 (fun hg => hO.apart _ (hG49 _ hg) (mem_r (mem_l (List.mem_singleton.2 rfl))))
    have hC := hC.step hC49 (fun g hg => hO.inN g (hG49 g hg))
    have hO := hO.eat hC49 hf49 (os_nodup hv49) hv49.fpl
    refine x_p 10 (.slice a49 n49 c49) rfl (by kernel_rfl)  (fun _ => y_assign rfl) (fun h => nomatch h) ?_
    refine x_end (by kernel_rfl) ?_
    clear hS
    refine c_region ?_
    refine pl_val (.int .i64 (w64 ((k26 : Int) + 1))) (y_add rfl rfl) ?_
    refine pl_val (.int .i64 (w64 ((k26 : Int) + 1))) (y_move rfl) ?_
    refine c_nil ?_
    cases hs
    have hO := hO.fr1
    have hO := hO.drop
    exact ⟨_, rfl, drop_cons_next hd, _, a49, n49, c49, f49, fr_ovl 25 ⟨rfl, rfl, rfl, congrArg (Value.int .i64) (w64_succ hlt (Int.natCast_nonneg _) (rs_max h0)), trivial⟩, hC, hO, h0, hv49⟩
  · skip
    exact ⟨0, rfl, rfl, _, (some ⟨g2, 0, none⟩), 0, 0, ([g2]), fr_ovl 25 ⟨rfl, rfl, rfl, rfl, trivial⟩, hC, hO, h0, hv2⟩
  · cases o28 with
    | nx _ => exact True.intro
    | rt r_ =>
      have hs := after_rt hs
      intro a1 w1 hK
      cases hs
      exact hK
    | br s24 =>
      have hs := after_br hs
      rintro a1 w25 ⟨σ, a32, n32, c32, f32, rfl, hC, hO, h0, hv32⟩
      refine c_seq ?_
      refine c_region ?_
      refine pl_val (.slice a32 n32 c32) (y_move rfl) ?_
      refine pl_val (.slice a32 n32 c32) (y_assign rfl) ?_
      refine c_nil ?_
      refine wp_ret ?_
      cases hs
      exact ⟨_, a32, n32, c32, f32, fr_ovl 25 ⟨rfl, trivial⟩, hC, hv32, hO.top⟩

end Go.Proofs
