/- What functions of the program compute, as plain functions, and that a call gives just that. Conditions: those named in each theorem. -/
import Derived.Test.YtceenhnjdnggjaaF0
set_option linter.unusedVariables false
namespace Go.Proofs
open Go.G Go.RowKit
set_option maxRecDepth 100000

def k_spec_l19Copy (M : Nat → Prop) (w0 : World) (r : (List ((List Int) × (Int × (List (List Int)))))) (a : Act) (w : World) : Prop :=
  ∃ (σ : Nat → Value) (ra0 : Option Addr) (rn0 rc0 : Nat) (rf0 : List Nat), a = fr 62 (ovl σ [(2, (.slice ra0 rn0 rc0))]) ∧ Chg [] w0 w ∧ (RT.os 108 (RT.pr (RT.os 3 (RT.int .i64)) (RT.pr (RT.int .i64) (RT.os 22 (RT.os 3 (RT.int .i64)))))).val M w (.slice ra0 rn0 rc0) r rf0 ∧ Own (Nw w0 []) (fun _ => True) w (rf0 ++ ([]))
def s_spec_l19Copy (list : List ((List Int) × (Int × (List (List Int))))) : Option ((List ((List Int) × (Int × (List (List Int)))))) :=
  (forC (S := (List ((List Int) × (Int × (List (List Int)))))) (R := (List ((List Int) × (Int × (List (List Int)))))) (fun k198 s196 =>
  (idx list k198).bind fun x207 =>
  (idx list k198).bind fun x212 =>
  (s_spec_l1Own x207.1).bind fun r217 =>
  (iter (S := Int × (List (List Int))) (R := (List ((List Int) × (Int × (List (List Int)))))) (fun s354 =>
  (idx list k198).bind fun x364 =>
  (bif (decide (s354.1 < (x364.2.2.length : Int))) then (idx list k198).bind fun x372 =>
  (idx x372.2.2 s354.1).bind fun x378 =>
  (s_spec_l1Own x378).bind fun r383 =>
  (app s354.2 ([r383])).bind fun y388 =>
  some (.nx (w64 (s354.1 + 1), y388)) else some (.br (s354.1, s354.2)))) FU (0, [])).bind fun o358 => after o358 (fun r_ => some (.rt r_)) (fun s354 =>
  (app s196 ([(r217, (x212.2.1, s354.2))])).bind fun y394 =>
  some (.nx y394))) 0 (list.length : Int) ([])).bind fun o200 => after o200 (fun r_ => some r_) (fun s196 =>
  some s196)
set_option maxHeartbeats 4000000 in
theorem c_spec_l19Copy {M : Nat → Prop} {w : World} {pa0 : Option Addr} {pn0 pc0 : Nat} (list : List ((List Int) × (Int × (List (List Int))))) (h0 : (RT.rs (RT.pr (RT.rs (RT.int .i64)) (RT.pr (RT.int .i64) (RT.rs (RT.rs (RT.int .i64)))))).val M w (.slice pa0 pn0 pc0) list ([])) (hM : ∀ g, w.heap.size ≤ g → M g) {r : (List ((List Int) × (Int × (List (List Int)))))} (hs : s_spec_l19Copy list = some r) :
    Gives Try.prog 132 [(.slice pa0 pn0 pc0)] w (fun v w' => ∃ (ra0 : Option Addr) (rn0 rc0 : Nat) (rf0 : List Nat), v = (.slice ra0 rn0 rc0) ∧ Chg [] w w' ∧ (RT.os 108 (RT.pr (RT.os 3 (RT.int .i64)) (RT.pr (RT.int .i64) (RT.os 22 (RT.os 3 (RT.int .i64)))))).val M w' (.slice ra0 rn0 rc0) r rf0 ∧ Own (Nw w []) (fun _ => True) w' (rf0 ++ ([]))) := by
  refine calls_fr Try.func132 rfl Try.ntmps132 (Nat.le_of_ble_eq_true rfl) ?_
  have hO := Own.start (N := Nw w []) hM Nw.fut
  have hC := Chg.refl [] w
  unfold s_spec_l19Copy at hs
  refine wp_mono (Q := KPost (k_spec_l19Copy M w r)) ?_ (fun e a w1 h => ?_)
  rotate_left
  · cases e
    case ret =>
      obtain ⟨σ, ra0, rn0, rc0, rf0, rfl, hrest⟩ := h
      exact ret1x Try.results132 (res_tmp rfl) ⟨ra0, rn0, rc0, rf0, rfl, hrest⟩
    all_goals exact (h : False).elim
  refine c_seq ?_
  refine c_region ?_
  refine pl_val (.slice none 0 0) (y_assign rfl) ?_
  refine c_nil ?_
  refine c_seq ?_
  refine c_region ?_
  obtain ⟨w2, g2, ew2, eg2, hC2, hb2⟩ := new_block w [] 108
  refine pl_val (w' := w2) (.slice (some ⟨g2, 0, none⟩) 0 0) (y_bslice rfl (by rw [ew2, eg2]; kernel_rfl)) ?_
  have h0 := h0.ext hC2
  have hC := hC.ext hC2
  have hO := hO.new (X' := [g2]) hC2 (fun q hq => by rw [List.mem_singleton.1 hq, eg2]; exact Nat.le_refl _) (List.nodup_cons.2 ⟨(fun h => nomatch h), List.nodup_nil⟩) (fun q hq => by rw [List.mem_singleton.1 hq]; exact hb2.lt)
  have hv2 := os_of_box (r := (RT.pr (RT.os 3 (RT.int .i64)) (RT.pr (RT.int .i64) (RT.os 22 (RT.os 3 (RT.int .i64)))))) (M := M) (css := []) (fps := []) (xs := ([] : List ((List Int) × (Int × (List (List Int)))))) hb2 trivial (Nat.zero_le _) (List.nodup_cons.2 ⟨(fun h => nomatch h), List.nodup_nil⟩)
  have hv2 : (RT.os 108 (RT.pr (RT.os 3 (RT.int .i64)) (RT.pr (RT.int .i64) (RT.os 22 (RT.os 3 (RT.int .i64)))))).val M w2 (.slice (some ⟨g2, 0, none⟩) 0 0) [] [g2] := hv2
  refine pl_val (.slice (some ⟨g2, 0, none⟩) 0 0) (y_assign rfl) ?_
  refine c_nil ?_
  refine c_seq ?_
  refine c_seq ?_
  refine c_region ?_
  refine pl_val (.int .i64 0) (y_assign rfl) ?_
  refine c_nil ?_
  obtain ⟨o200, hl201, hs⟩ := bind_some hs
  refine wp_block ?_
  refine wp_forC (id := 0) (list.length : Int) (I := fun k198 s196 a w197 => ∃ (σ : Nat → Value) (a202 : Option Addr) (n202 : Nat) (c202 : Nat) (f202 : List Nat), a = fr 62 (ovl σ [(0, (.slice pa0 pn0 pc0)), (3, (.slice a202 n202 c202)), (4, (.int .i64 k198))]) ∧ Chg [] w w197 ∧ Own (Nw w []) M w197 (f202 ++ []) ∧ (RT.rs (RT.pr (RT.rs (RT.int .i64)) (RT.pr (RT.int .i64) (RT.rs (RT.rs (RT.int .i64)))))).val M w197 (.slice pa0 pn0 pc0) list ([]) ∧ (RT.os 108 (RT.pr (RT.os 3 (RT.int .i64)) (RT.pr (RT.int .i64) (RT.os 22 (RT.os 3 (RT.int .i64)))))).val M w197 (.slice a202 n202 c202) s196 f202) (J := fun s196 a w197 => ∃ (σ : Nat → Value) (a204 : Option Addr) (n204 : Nat) (c204 : Nat) (f204 : List Nat), a = fr 62 (ovl σ [(3, (.slice a204 n204 c204))]) ∧ Chg [] w w197 ∧ Own (Nw w []) M w197 (f204 ++ []) ∧ (RT.rs (RT.pr (RT.rs (RT.int .i64)) (RT.pr (RT.int .i64) (RT.rs (RT.rs (RT.int .i64)))))).val M w197 (.slice pa0 pn0 pc0) list ([]) ∧ (RT.os 108 (RT.pr (RT.os 3 (RT.int .i64)) (RT.pr (RT.int .i64) (RT.os 22 (RT.os 3 (RT.int .i64)))))).val M w197 (.slice a204 n204 c204) s196 f204) (K := (k_spec_l19Copy M w)) ?_ ?_ 0 ([]) o200 _ _ ?_ hl201 ?_
  · rintro k198 s196 a w197 ⟨σ, a202, n202, c202, f202, rfl, hC, hO, h0, hv202⟩ hlt
    refine c_seq ?_
    refine c_seq ?_
    refine c_region ?_
    refine pl_val (.int .i64 k198) (y_move rfl) ?_
    refine pl_val (.slice pa0 pn0 pc0) (y_move rfl) ?_
    refine pl_val (.int .i64 (list.length : Int)) (y_len' Sl47 (rs_len h0) rfl) ?_
    refine pl_val (.bool (decide (k198 < (list.length : Int)))) (y_lss rfl rfl) ?_
    refine c_nil ?_
    refine c_condF (congrArg Value.bool (decide_eq_false hlt)) ?_
    refine wp_exit ?_
    exact ⟨rfl, _, a202, n202, c202, f202, fr_ovl 62 ⟨rfl, trivial⟩, hC, hO, h0, hv202⟩
  · rintro k198 s196 o200 a w197 ⟨σ, a202, n202, c202, f202, rfl, hC, hO, h0, hv202⟩ hlt hw hs
    refine c_seq ?_
    refine c_seq ?_
    refine c_region ?_
    refine pl_val (.int .i64 k198) (y_move rfl) ?_
    refine pl_val (.slice pa0 pn0 pc0) (y_move rfl) ?_
    refine pl_val (.int .i64 (list.length : Int)) (y_len' Sl47 (rs_len h0) rfl) ?_
    refine pl_val (.bool (decide (k198 < (list.length : Int)))) (y_lss rfl rfl) ?_
    refine c_nil ?_
    refine c_condT (congrArg Value.bool (decide_eq_true hlt)) ?_
    refine wp_skip ?_
    refine c_seq ?_
    refine wp_block ?_
    refine c_seq ?_
    obtain ⟨x207, hx207, hs⟩ := bind_some hs
    obtain ⟨x212, hx212, hs⟩ := bind_some hs
    obtain ⟨r217, hr217, hs⟩ := bind_some hs
    refine c_mid (I := fun a w222 => ∃ (σ : Nat → Value) (a216x0 : Option Addr) (c216x0 : Nat) (f216x0 : List Nat) (g219 : Nat) (g221 : Nat) (n216x0 : Nat), a = fr 62 (ovl σ [(0, (.slice pa0 pn0 pc0)), (3, (.slice a202 n202 c202)), (4, (.int .i64 k198)), (5, (.pointer (some ⟨g221, 0, none⟩)))]) ∧ Chg [] w w222 ∧ Own (Nw w []) M w222 (([g221]) ++ (([g219]) ++ (f216x0 ++ (f202 ++ [])))) ∧ (RT.rs (RT.pr (RT.rs (RT.int .i64)) (RT.pr (RT.int .i64) (RT.rs (RT.rs (RT.int .i64)))))).val M w222 (.slice pa0 pn0 pc0) list ([]) ∧ (RT.os 108 (RT.pr (RT.os 3 (RT.int .i64)) (RT.pr (RT.int .i64) (RT.os 22 (RT.os 3 (RT.int .i64)))))).val M w222 (.slice a202 n202 c202) s196 f202 ∧ (RT.os 3 (RT.int .i64)).val M w222 (.slice a216x0 n216x0 c216x0) r217 f216x0 ∧ (RT.os 22 (RT.os 3 (RT.int .i64))).val M w222 (.slice (some ⟨g219, 0, none⟩) 0 0) ([]) ([g219]) ∧ BoxV w222 g221 108 [(.slice a216x0 n216x0 c216x0), (.int .i64 x212.2.1), (.slice (some ⟨g219, 0, none⟩) 0 0)]) ?_ ?_
    · skip
      refine x_start [16] Mx rfl ?_
      have hCw252 := Chg.drew w197
      generalize World.drew w197 = w252 at hCw252 ⊢
      have h0 := h0.ext hCw252
      have hv202 := hv202.ext hCw252
      have hC := hC.ext hCw252
      have hO := hO.ext hCw252
      have hS := Chg.refl [] w252
      refine x_p 0 (.slice pa0 pn0 pc0) rfl (by kernel_rfl)  (fun _ => y_move rfl) (fun _ => hS) ?_
      refine x_p 1 (.int .i64 k198) rfl (by kernel_rfl)  (fun _ => y_move rfl) (fun _ => hS) ?_
      obtain ⟨b254, o254, hp254, ha254⟩ := rs_idx Sl47 Sz108 h0 hx207
      refine x_p 2 (.pointer (some ⟨b254, o254, none⟩)) rfl (by kernel_rfl)  (fun _ => hp254 _ _ _ _ _ _ _ _ _ rfl rfl) (fun _ => hS) ?_
      obtain ⟨hq255, _⟩ := pr_at ha254
      refine x_p 3 (.pointer (some ⟨b254, o254 + 0, none⟩)) rfl (by kernel_rfl)  (fun _ => y_faddr rfl Fa108x0) (fun _ => hS) ?_
      obtain ⟨v256, hl256, hv256⟩ := at_load Ag22 Sz22 (fun _ => rfl) hq255
      obtain ⟨a256, n256, c256, rfl⟩ := rs_sl hv256
      refine x_l 4 (.slice a256 n256 c256) rfl (by kernel_rfl)  (fun w' hw' => y_load rfl (hl256 w' hw')) hS ?_
      refine x_p 6 (.slice pa0 pn0 pc0) rfl (by kernel_rfl)  (fun _ => y_move rfl) (fun _ => hS) ?_
      refine x_p 7 (.int .i64 k198) rfl (by kernel_rfl)  (fun _ => y_move rfl) (fun _ => hS) ?_
      obtain ⟨b259, o259, hp259, ha259⟩ := rs_idx Sl47 Sz108 h0 hx212
      refine x_p 8 (.pointer (some ⟨b259, o259, none⟩)) rfl (by kernel_rfl)  (fun _ => hp259 _ _ _ _ _ _ _ _ _ rfl rfl) (fun _ => hS) ?_
      obtain ⟨_, hq260x0⟩ := pr_at ha259
      refine x_p 9 (.pointer (some ⟨b259, o259 + 1, none⟩)) rfl (by kernel_rfl)  (fun _ => y_faddr rfl Fa108x1) (fun _ => hS) ?_
      obtain ⟨hq261, _⟩ := pr_at hq260x0
      refine x_p 10 (.pointer (some ⟨b259, (o259 + 1) + 0, none⟩)) rfl (by kernel_rfl)  (fun _ => y_faddr rfl Fa31x0) (fun _ => hS) ?_
      refine x_l 11 (.int .i64 x212.2.1) rfl (by kernel_rfl)  (fun w' hw' => y_load rfl ((at_load_int Ag3 Sz3 hq261) w' hw')) hS ?_
      refine x_many [5, 12, 15] (by kernel_rfl) (fun h => nomatch h) (all3 ?_ ?_ ?_)
      · skip
        refine xk_call (b := false) rfl  Bd169 rfl (c_spec_l1Own (M := M) x207.1 hv256 hO.fut hr217) rfl (by rintro _ _ _ ⟨a262x0, n262x0, c262x0, f262x0, rfl, hC262, hv262x0, hOc262⟩; exact hS.ext hC262) ?_
        rintro _ w262 ⟨a262x0, n262x0, c262x0, f262x0, rfl, hC262, hv262x0, hOc262⟩
        have h0 := h0.ext hC262
        have hv202 := hv202.ext hC262
        have hv256 := hv256.ext hC262
        have hC := hC.ext hC262
        have hO := Own.join0 hO hC262 hOc262
        have hO := hO.perm (R := f262x0 ++ (f202 ++ ([]))) (by simp)
        have hS := hS.ext hC262
        refine x_two (i := 12) (j := 15) (by kernel_rfl) ?_ ?_
        · skip
          obtain ⟨w265, g265, ew265, eg265, hC265, hb265⟩ := new_block w262 [] 22
          refine xk_val (w' := w265) (b := false) (.slice (some ⟨g265, 0, none⟩) 0 0) rfl  (y_bslice rfl (by rw [ew265, eg265]; kernel_rfl)) rfl (fun _ => hS.ext hC265) ?_
          have h0 := h0.ext hC265
          have hv202 := hv202.ext hC265
          have hv256 := hv256.ext hC265
          have hv262x0 := hv262x0.ext hC265
          have hC := hC.ext hC265
          have hO := hO.new (X' := [g265]) hC265 (fun q hq => by rw [List.mem_singleton.1 hq, eg265]; exact Nat.le_refl _) (List.nodup_cons.2 ⟨(fun h => nomatch h), List.nodup_nil⟩) (fun q hq => by rw [List.mem_singleton.1 hq]; exact hb265.lt)
          have hv265 := os_of_box (r := (RT.os 3 (RT.int .i64))) (M := M) (css := []) (fps := []) (xs := ([] : List (List Int))) hb265 trivial (Nat.zero_le _) (List.nodup_cons.2 ⟨(fun h => nomatch h), List.nodup_nil⟩)
          have hv265 : (RT.os 22 (RT.os 3 (RT.int .i64))).val M w265 (.slice (some ⟨g265, 0, none⟩) 0 0) [] [g265] := hv265
          have hS := hS.ext hC265
          refine x_p 13 (.agg #[(.int .i64 x212.2.1), (.slice (some ⟨g265, 0, none⟩) 0 0)]) rfl (by kernel_rfl)  (fun _ => y_build rfl (by kernel_rfl)) (fun _ => hS) ?_
          refine x_p 14 (.agg #[(.slice a262x0 n262x0 c262x0), (.int .i64 x212.2.1), (.slice (some ⟨g265, 0, none⟩) 0 0)]) rfl (by kernel_rfl)  (fun _ => y_build rfl (by kernel_rfl)) (fun _ => hS) ?_
          refine x_one (i := 15) (by kernel_rfl) ?_
          obtain ⟨w267, g267, ew267, eg267, hC267, hb267⟩ := new_block w265 [(.slice none 0 0), (.int .i64 0), (.slice none 0 0)] 108
          refine xk_val (w' := w267) (b := false) (.pointer (some ⟨g267, 0, none⟩)) rfl  (y_alloc (by rw [ew267, eg267]; kernel_rfl)) rfl (fun _ => hS.ext hC267) ?_
          have h0 := h0.ext hC267
          have hv202 := hv202.ext hC267
          have hv256 := hv256.ext hC267
          have hv262x0 := hv262x0.ext hC267
          have hv265 := hv265.ext hC267
          have hC := hC.ext hC267
          have hO := hO.new (X' := [g267]) hC267 (fun q hq => by rw [List.mem_singleton.1 hq, eg267]; exact Nat.le_refl _) (List.nodup_cons.2 ⟨(fun h => nomatch h), List.nodup_nil⟩) (fun q hq => by rw [List.mem_singleton.1 hq]; exact hb267.lt)
          have hS := hS.ext hC267
          refine x_one (i := 16) (by kernel_rfl) ?_
          obtain ⟨w268, hst268, hC268, hb268⟩ := box_store (P := Try.prog) hb267 [] [(.slice none 0 0), (.int .i64 0), (.slice none 0 0)] [] [(.slice a262x0 n262x0 c262x0), (.int .i64 x212.2.1), (.slice (some ⟨g265, 0, none⟩) 0 0)] rfl rfl (by intro u hu; simp only [List.mem_cons, List.not_mem_nil, or_false] at hu; rcases hu with rfl | rfl | rfl <;> rfl)
          refine xk_skip (w' := w268) (b := true) rfl (ys_store rfl rfl (hst268 _ _ rfl Sz108)) rfl (fun h => nomatch h) ?_
          have h0 := h0.mut hC268 (fun g hg => hO.inM g ((fun _ h => h) g hg)) (fun _ _ h => nomatch h)
          have hv202 := hv202.mut hC268 (fun g hg => hO.inM g ((fun _ h => h) g hg)) (fun g hg e => hO.apart g ((fun _ h => h) g hg) (mem_r (mem_r (mem_l (e)))))
          have hv256 := hv256.mut hC268 (fun g hg => hO.inM g ((fun _ h => h) g hg)) (fun _ _ h => nomatch h)
          have hv262x0 := hv262x0.mut hC268 (fun g hg => hO.inM g ((fun _ h => h) g hg)) (fun g hg e => hO.apart g ((fun _ h => h) g hg) (mem_r (mem_l (e))))
          have hv265 := hv265.mut hC268 (fun g hg => hO.inM g ((fun _ h => h) g hg)) (fun g hg e => hO.apart g ((fun _ h => h) g hg) (mem_l (e)))
          have hC := hC.step hC268 (fun g hg => hO.inN g ((fun _ h => h) g hg))
          have hO := hO.ext hC268
          have hb268 : BoxV w268 g267 108 [(.slice a262x0 n262x0 c262x0), (.int .i64 x212.2.1), (.slice (some ⟨g265, 0, none⟩) 0 0)] := hb268
          refine x_end (by kernel_rfl) ?_
          clear hS
          have hO := hO.fr3
          have hO := hO.fr3
          have hO := hO.fr3
          have hO := hO.fr3
          exact ⟨_, a262x0, c262x0, f262x0, g265, g267, n262x0, fr_ovl 62 ⟨rfl, rfl, rfl, rfl, trivial⟩, hC, hO, h0, hv202, hv262x0, hv265, hb268⟩
        · skip
          obtain ⟨w269, g269, ew269, eg269, hC269, hb269⟩ := new_block w262 [(.slice none 0 0), (.int .i64 0), (.slice none 0 0)] 108
          refine xk_val (w' := w269) (b := false) (.pointer (some ⟨g269, 0, none⟩)) rfl  (y_alloc (by rw [ew269, eg269]; kernel_rfl)) rfl (fun _ => hS.ext hC269) ?_
          have h0 := h0.ext hC269
          have hv202 := hv202.ext hC269
          have hv256 := hv256.ext hC269
          have hv262x0 := hv262x0.ext hC269
          have hC := hC.ext hC269
          have hO := hO.new (X' := [g269]) hC269 (fun q hq => by rw [List.mem_singleton.1 hq, eg269]; exact Nat.le_refl _) (List.nodup_cons.2 ⟨(fun h => nomatch h), List.nodup_nil⟩) (fun q hq => by rw [List.mem_singleton.1 hq]; exact hb269.lt)
          have hS := hS.ext hC269
          refine x_one (i := 12) (by kernel_rfl) ?_
          obtain ⟨w270, g270, ew270, eg270, hC270, hb270⟩ := new_block w269 [] 22
          refine xk_val (w' := w270) (b := false) (.slice (some ⟨g270, 0, none⟩) 0 0) rfl  (y_bslice rfl (by rw [ew270, eg270]; kernel_rfl)) rfl (fun _ => hS.ext hC270) ?_
          have h0 := h0.ext hC270
          have hv202 := hv202.ext hC270
          have hv256 := hv256.ext hC270
          have hv262x0 := hv262x0.ext hC270
          have hb269 := hb269.chg hC270 (fun h => nomatch h)
          have hC := hC.ext hC270
          have hO := hO.new (X' := [g270]) hC270 (fun q hq => by rw [List.mem_singleton.1 hq, eg270]; exact Nat.le_refl _) (List.nodup_cons.2 ⟨(fun h => nomatch h), List.nodup_nil⟩) (fun q hq => by rw [List.mem_singleton.1 hq]; exact hb270.lt)
          have hv270 := os_of_box (r := (RT.os 3 (RT.int .i64))) (M := M) (css := []) (fps := []) (xs := ([] : List (List Int))) hb270 trivial (Nat.zero_le _) (List.nodup_cons.2 ⟨(fun h => nomatch h), List.nodup_nil⟩)
          have hv270 : (RT.os 22 (RT.os 3 (RT.int .i64))).val M w270 (.slice (some ⟨g270, 0, none⟩) 0 0) [] [g270] := hv270
          have hS := hS.ext hC270
          refine x_p 13 (.agg #[(.int .i64 x212.2.1), (.slice (some ⟨g270, 0, none⟩) 0 0)]) rfl (by kernel_rfl)  (fun _ => y_build rfl (by kernel_rfl)) (fun _ => hS) ?_
          refine x_p 14 (.agg #[(.slice a262x0 n262x0 c262x0), (.int .i64 x212.2.1), (.slice (some ⟨g270, 0, none⟩) 0 0)]) rfl (by kernel_rfl)  (fun _ => y_build rfl (by kernel_rfl)) (fun _ => hS) ?_
          refine x_one (i := 16) (by kernel_rfl) ?_
          obtain ⟨w272, hst272, hC272, hb272⟩ := box_store (P := Try.prog) hb269 [] [(.slice none 0 0), (.int .i64 0), (.slice none 0 0)] [] [(.slice a262x0 n262x0 c262x0), (.int .i64 x212.2.1), (.slice (some ⟨g270, 0, none⟩) 0 0)] rfl rfl (by intro u hu; simp only [List.mem_cons, List.not_mem_nil, or_false] at hu; rcases hu with rfl | rfl | rfl <;> rfl)
          refine xk_skip (w' := w272) (b := true) rfl (ys_store rfl rfl (hst272 _ _ rfl Sz108)) rfl (fun h => nomatch h) ?_
          have hO := hO.fr1
          have h0 := h0.mut hC272 (fun g hg => hO.inM g ((fun _ h => h) g hg)) (fun _ _ h => nomatch h)
          have hv202 := hv202.mut hC272 (fun g hg => hO.inM g ((fun _ h => h) g hg)) (fun g hg e => hO.apart g ((fun _ h => h) g hg) (mem_r (mem_r (mem_l (e)))))
          have hv256 := hv256.mut hC272 (fun g hg => hO.inM g ((fun _ h => h) g hg)) (fun _ _ h => nomatch h)
          have hv262x0 := hv262x0.mut hC272 (fun g hg => hO.inM g ((fun _ h => h) g hg)) (fun g hg e => hO.apart g ((fun _ h => h) g hg) (mem_r (mem_l (e))))
          have hv270 := hv270.mut hC272 (fun g hg => hO.inM g ((fun _ h => h) g hg)) (fun g hg e => hO.apart g ((fun _ h => h) g hg) (mem_l (e)))
          have hC := hC.step hC272 (fun g hg => hO.inN g ((fun _ h => h) g hg))
          have hO := hO.ext hC272
          have hb272 : BoxV w272 g269 108 [(.slice a262x0 n262x0 c262x0), (.int .i64 x212.2.1), (.slice (some ⟨g270, 0, none⟩) 0 0)] := hb272
          refine x_end (by kernel_rfl) ?_
          clear hS
          have hO := hO.fr3
          have hO := hO.fr3
          have hO := hO.fr3
          have hO := hO.fr3
          exact ⟨_, a262x0, c262x0, f262x0, g270, g269, n262x0, fr_ovl 62 ⟨rfl, rfl, rfl, rfl, trivial⟩, hC, hO, h0, hv202, hv262x0, hv270, hb272⟩
      · skip
        obtain ⟨w273, g273, ew273, eg273, hC273, hb273⟩ := new_block w252 [] 22
        refine xk_val (w' := w273) (b := false) (.slice (some ⟨g273, 0, none⟩) 0 0) rfl  (y_bslice rfl (by rw [ew273, eg273]; kernel_rfl)) rfl (fun _ => hS.ext hC273) ?_
        have h0 := h0.ext hC273
        have hv202 := hv202.ext hC273
        have hv256 := hv256.ext hC273
        have hC := hC.ext hC273
        have hO := hO.new (X' := [g273]) hC273 (fun q hq => by rw [List.mem_singleton.1 hq, eg273]; exact Nat.le_refl _) (List.nodup_cons.2 ⟨(fun h => nomatch h), List.nodup_nil⟩) (fun q hq => by rw [List.mem_singleton.1 hq]; exact hb273.lt)
        have hv273 := os_of_box (r := (RT.os 3 (RT.int .i64))) (M := M) (css := []) (fps := []) (xs := ([] : List (List Int))) hb273 trivial (Nat.zero_le _) (List.nodup_cons.2 ⟨(fun h => nomatch h), List.nodup_nil⟩)
        have hv273 : (RT.os 22 (RT.os 3 (RT.int .i64))).val M w273 (.slice (some ⟨g273, 0, none⟩) 0 0) [] [g273] := hv273
        have hS := hS.ext hC273
        refine x_p 13 (.agg #[(.int .i64 x212.2.1), (.slice (some ⟨g273, 0, none⟩) 0 0)]) rfl (by kernel_rfl)  (fun _ => y_build rfl (by kernel_rfl)) (fun _ => hS) ?_
        refine x_two (i := 5) (j := 15) (by kernel_rfl) ?_ ?_
        · skip
          refine xk_call (b := false) rfl  Bd169 rfl (c_spec_l1Own (M := M) x207.1 hv256 hO.fut hr217) rfl (by rintro _ _ _ ⟨a275x0, n275x0, c275x0, f275x0, rfl, hC275, hv275x0, hOc275⟩; exact hS.ext hC275) ?_
          rintro _ w275 ⟨a275x0, n275x0, c275x0, f275x0, rfl, hC275, hv275x0, hOc275⟩
          have h0 := h0.ext hC275
          have hv202 := hv202.ext hC275
          have hv256 := hv256.ext hC275
          have hv273 := hv273.ext hC275
          have hC := hC.ext hC275
          have hO := Own.join0 hO hC275 hOc275
          have hO := hO.perm (R := f275x0 ++ (([g273]) ++ (f202 ++ ([])))) (by simp)
          have hS := hS.ext hC275
          refine x_p 14 (.agg #[(.slice a275x0 n275x0 c275x0), (.int .i64 x212.2.1), (.slice (some ⟨g273, 0, none⟩) 0 0)]) rfl (by kernel_rfl)  (fun _ => y_build rfl (by kernel_rfl)) (fun _ => hS) ?_
          refine x_one (i := 15) (by kernel_rfl) ?_
          obtain ⟨w278, g278, ew278, eg278, hC278, hb278⟩ := new_block w275 [(.slice none 0 0), (.int .i64 0), (.slice none 0 0)] 108
          refine xk_val (w' := w278) (b := false) (.pointer (some ⟨g278, 0, none⟩)) rfl  (y_alloc (by rw [ew278, eg278]; kernel_rfl)) rfl (fun _ => hS.ext hC278) ?_
          have h0 := h0.ext hC278
          have hv202 := hv202.ext hC278
          have hv256 := hv256.ext hC278
          have hv273 := hv273.ext hC278
          have hv275x0 := hv275x0.ext hC278
          have hC := hC.ext hC278
          have hO := hO.new (X' := [g278]) hC278 (fun q hq => by rw [List.mem_singleton.1 hq, eg278]; exact Nat.le_refl _) (List.nodup_cons.2 ⟨(fun h => nomatch h), List.nodup_nil⟩) (fun q hq => by rw [List.mem_singleton.1 hq]; exact hb278.lt)
          have hS := hS.ext hC278
          refine x_one (i := 16) (by kernel_rfl) ?_
          obtain ⟨w279, hst279, hC279, hb279⟩ := box_store (P := Try.prog) hb278 [] [(.slice none 0 0), (.int .i64 0), (.slice none 0 0)] [] [(.slice a275x0 n275x0 c275x0), (.int .i64 x212.2.1), (.slice (some ⟨g273, 0, none⟩) 0 0)] rfl rfl (by intro u hu; simp only [List.mem_cons, List.not_mem_nil, or_false] at hu; rcases hu with rfl | rfl | rfl <;> rfl)
          refine xk_skip (w' := w279) (b := true) rfl (ys_store rfl rfl (hst279 _ _ rfl Sz108)) rfl (fun h => nomatch h) ?_
          have h0 := h0.mut hC279 (fun g hg => hO.inM g ((fun _ h => h) g hg)) (fun _ _ h => nomatch h)
          have hv202 := hv202.mut hC279 (fun g hg => hO.inM g ((fun _ h => h) g hg)) (fun g hg e => hO.apart g ((fun _ h => h) g hg) (mem_r (mem_r (mem_l (e)))))
          have hv256 := hv256.mut hC279 (fun g hg => hO.inM g ((fun _ h => h) g hg)) (fun _ _ h => nomatch h)
          have hv273 := hv273.mut hC279 (fun g hg => hO.inM g ((fun _ h => h) g hg)) (fun g hg e => hO.apart g ((fun _ h => h) g hg) (mem_r (mem_l (e))))
          have hv275x0 := hv275x0.mut hC279 (fun g hg => hO.inM g ((fun _ h => h) g hg)) (fun g hg e => hO.apart g ((fun _ h => h) g hg) (mem_l (e)))
          have hC := hC.step hC279 (fun g hg => hO.inN g ((fun _ h => h) g hg))
          have hO := hO.ext hC279
          have hb279 : BoxV w279 g278 108 [(.slice a275x0 n275x0 c275x0), (.int .i64 x212.2.1), (.slice (some ⟨g273, 0, none⟩) 0 0)] := hb279
          refine x_end (by kernel_rfl) ?_
          clear hS
          have hO := hO.fr3
          have hO := hO.fr2
          have hO := hO.fr3
          have hO := hO.fr3
          exact ⟨_, a275x0, c275x0, f275x0, g273, g278, n275x0, fr_ovl 62 ⟨rfl, rfl, rfl, rfl, trivial⟩, hC, hO, h0, hv202, hv275x0, hv273, hb279⟩
        · skip
          obtain ⟨w280, g280, ew280, eg280, hC280, hb280⟩ := new_block w273 [(.slice none 0 0), (.int .i64 0), (.slice none 0 0)] 108
          refine xk_val (w' := w280) (b := false) (.pointer (some ⟨g280, 0, none⟩)) rfl  (y_alloc (by rw [ew280, eg280]; kernel_rfl)) rfl (fun _ => hS.ext hC280) ?_
          have h0 := h0.ext hC280
          have hv202 := hv202.ext hC280
          have hv256 := hv256.ext hC280
          have hv273 := hv273.ext hC280
          have hC := hC.ext hC280
          have hO := hO.new (X' := [g280]) hC280 (fun q hq => by rw [List.mem_singleton.1 hq, eg280]; exact Nat.le_refl _) (List.nodup_cons.2 ⟨(fun h => nomatch h), List.nodup_nil⟩) (fun q hq => by rw [List.mem_singleton.1 hq]; exact hb280.lt)
          have hS := hS.ext hC280
          refine x_one (i := 5) (by kernel_rfl) ?_
          refine xk_call (b := false) rfl  Bd169 rfl (c_spec_l1Own (M := M) x207.1 hv256 hO.fut hr217) rfl (by rintro _ _ _ ⟨a281x0, n281x0, c281x0, f281x0, rfl, hC281, hv281x0, hOc281⟩; exact hS.ext hC281) ?_
          rintro _ w281 ⟨a281x0, n281x0, c281x0, f281x0, rfl, hC281, hv281x0, hOc281⟩
          have h0 := h0.ext hC281
          have hv202 := hv202.ext hC281
          have hv256 := hv256.ext hC281
          have hv273 := hv273.ext hC281
          have hb280 := hb280.chg hC281 (fun h => nomatch h)
          have hC := hC.ext hC281
          have hO := Own.join0 hO hC281 hOc281
          have hO := hO.perm (R := f281x0 ++ (([g280]) ++ (([g273]) ++ (f202 ++ ([]))))) (by simp)
          have hS := hS.ext hC281
          refine x_p 14 (.agg #[(.slice a281x0 n281x0 c281x0), (.int .i64 x212.2.1), (.slice (some ⟨g273, 0, none⟩) 0 0)]) rfl (by kernel_rfl)  (fun _ => y_build rfl (by kernel_rfl)) (fun _ => hS) ?_
          refine x_one (i := 16) (by kernel_rfl) ?_
          obtain ⟨w284, hst284, hC284, hb284⟩ := box_store (P := Try.prog) hb280 [] [(.slice none 0 0), (.int .i64 0), (.slice none 0 0)] [] [(.slice a281x0 n281x0 c281x0), (.int .i64 x212.2.1), (.slice (some ⟨g273, 0, none⟩) 0 0)] rfl rfl (by intro u hu; simp only [List.mem_cons, List.not_mem_nil, or_false] at hu; rcases hu with rfl | rfl | rfl <;> rfl)
          refine xk_skip (w' := w284) (b := true) rfl (ys_store rfl rfl (hst284 _ _ rfl Sz108)) rfl (fun h => nomatch h) ?_
          have hO := hO.fr1
          have h0 := h0.mut hC284 (fun g hg => hO.inM g ((fun _ h => h) g hg)) (fun _ _ h => nomatch h)
          have hv202 := hv202.mut hC284 (fun g hg => hO.inM g ((fun _ h => h) g hg)) (fun g hg e => hO.apart g ((fun _ h => h) g hg) (mem_r (mem_r (mem_l (e)))))
          have hv256 := hv256.mut hC284 (fun g hg => hO.inM g ((fun _ h => h) g hg)) (fun _ _ h => nomatch h)
          have hv273 := hv273.mut hC284 (fun g hg => hO.inM g ((fun _ h => h) g hg)) (fun g hg e => hO.apart g ((fun _ h => h) g hg) (mem_r (mem_l (e))))
          have hv281x0 := hv281x0.mut hC284 (fun g hg => hO.inM g ((fun _ h => h) g hg)) (fun g hg e => hO.apart g ((fun _ h => h) g hg) (mem_l (e)))
          have hC := hC.step hC284 (fun g hg => hO.inN g ((fun _ h => h) g hg))
          have hO := hO.ext hC284
          have hb284 : BoxV w284 g280 108 [(.slice a281x0 n281x0 c281x0), (.int .i64 x212.2.1), (.slice (some ⟨g273, 0, none⟩) 0 0)] := hb284
          refine x_end (by kernel_rfl) ?_
          clear hS
          have hO := hO.fr3
          have hO := hO.fr2
          have hO := hO.fr3
          have hO := hO.fr3
          exact ⟨_, a281x0, c281x0, f281x0, g273, g280, n281x0, fr_ovl 62 ⟨rfl, rfl, rfl, rfl, trivial⟩, hC, hO, h0, hv202, hv281x0, hv273, hb284⟩
      · skip
        obtain ⟨w285, g285, ew285, eg285, hC285, hb285⟩ := new_block w252 [(.slice none 0 0), (.int .i64 0), (.slice none 0 0)] 108
        refine xk_val (w' := w285) (b := false) (.pointer (some ⟨g285, 0, none⟩)) rfl  (y_alloc (by rw [ew285, eg285]; kernel_rfl)) rfl (fun _ => hS.ext hC285) ?_
        have h0 := h0.ext hC285
        have hv202 := hv202.ext hC285
        have hv256 := hv256.ext hC285
        have hC := hC.ext hC285
        have hO := hO.new (X' := [g285]) hC285 (fun q hq => by rw [List.mem_singleton.1 hq, eg285]; exact Nat.le_refl _) (List.nodup_cons.2 ⟨(fun h => nomatch h), List.nodup_nil⟩) (fun q hq => by rw [List.mem_singleton.1 hq]; exact hb285.lt)
        have hS := hS.ext hC285
        refine x_two (i := 5) (j := 12) (by kernel_rfl) ?_ ?_
        · skip
          refine xk_call (b := false) rfl  Bd169 rfl (c_spec_l1Own (M := M) x207.1 hv256 hO.fut hr217) rfl (by rintro _ _ _ ⟨a286x0, n286x0, c286x0, f286x0, rfl, hC286, hv286x0, hOc286⟩; exact hS.ext hC286) ?_
          rintro _ w286 ⟨a286x0, n286x0, c286x0, f286x0, rfl, hC286, hv286x0, hOc286⟩
          have h0 := h0.ext hC286
          have hv202 := hv202.ext hC286
          have hv256 := hv256.ext hC286
          have hb285 := hb285.chg hC286 (fun h => nomatch h)
          have hC := hC.ext hC286
          have hO := Own.join0 hO hC286 hOc286
          have hO := hO.perm (R := f286x0 ++ (([g285]) ++ (f202 ++ ([])))) (by simp)
          have hS := hS.ext hC286
          refine x_one (i := 12) (by kernel_rfl) ?_
          obtain ⟨w289, g289, ew289, eg289, hC289, hb289⟩ := new_block w286 [] 22
          refine xk_val (w' := w289) (b := false) (.slice (some ⟨g289, 0, none⟩) 0 0) rfl  (y_bslice rfl (by rw [ew289, eg289]; kernel_rfl)) rfl (fun _ => hS.ext hC289) ?_
          have h0 := h0.ext hC289
          have hv202 := hv202.ext hC289
          have hv256 := hv256.ext hC289
          have hb285 := hb285.chg hC289 (fun h => nomatch h)
          have hv286x0 := hv286x0.ext hC289
          have hC := hC.ext hC289
          have hO := hO.new (X' := [g289]) hC289 (fun q hq => by rw [List.mem_singleton.1 hq, eg289]; exact Nat.le_refl _) (List.nodup_cons.2 ⟨(fun h => nomatch h), List.nodup_nil⟩) (fun q hq => by rw [List.mem_singleton.1 hq]; exact hb289.lt)
          have hv289 := os_of_box (r := (RT.os 3 (RT.int .i64))) (M := M) (css := []) (fps := []) (xs := ([] : List (List Int))) hb289 trivial (Nat.zero_le _) (List.nodup_cons.2 ⟨(fun h => nomatch h), List.nodup_nil⟩)
          have hv289 : (RT.os 22 (RT.os 3 (RT.int .i64))).val M w289 (.slice (some ⟨g289, 0, none⟩) 0 0) [] [g289] := hv289
          have hS := hS.ext hC289
          refine x_p 13 (.agg #[(.int .i64 x212.2.1), (.slice (some ⟨g289, 0, none⟩) 0 0)]) rfl (by kernel_rfl)  (fun _ => y_build rfl (by kernel_rfl)) (fun _ => hS) ?_
          refine x_p 14 (.agg #[(.slice a286x0 n286x0 c286x0), (.int .i64 x212.2.1), (.slice (some ⟨g289, 0, none⟩) 0 0)]) rfl (by kernel_rfl)  (fun _ => y_build rfl (by kernel_rfl)) (fun _ => hS) ?_
          refine x_one (i := 16) (by kernel_rfl) ?_
          obtain ⟨w291, hst291, hC291, hb291⟩ := box_store (P := Try.prog) hb285 [] [(.slice none 0 0), (.int .i64 0), (.slice none 0 0)] [] [(.slice a286x0 n286x0 c286x0), (.int .i64 x212.2.1), (.slice (some ⟨g289, 0, none⟩) 0 0)] rfl rfl (by intro u hu; simp only [List.mem_cons, List.not_mem_nil, or_false] at hu; rcases hu with rfl | rfl | rfl <;> rfl)
          refine xk_skip (w' := w291) (b := true) rfl (ys_store rfl rfl (hst291 _ _ rfl Sz108)) rfl (fun h => nomatch h) ?_
          have hO := hO.fr2
          have h0 := h0.mut hC291 (fun g hg => hO.inM g ((fun _ h => h) g hg)) (fun _ _ h => nomatch h)
          have hv202 := hv202.mut hC291 (fun g hg => hO.inM g ((fun _ h => h) g hg)) (fun g hg e => hO.apart g ((fun _ h => h) g hg) (mem_r (mem_r (mem_l (e)))))
          have hv256 := hv256.mut hC291 (fun g hg => hO.inM g ((fun _ h => h) g hg)) (fun _ _ h => nomatch h)
          have hv286x0 := hv286x0.mut hC291 (fun g hg => hO.inM g ((fun _ h => h) g hg)) (fun g hg e => hO.apart g ((fun _ h => h) g hg) (mem_r (mem_l (e))))
          have hv289 := hv289.mut hC291 (fun g hg => hO.inM g ((fun _ h => h) g hg)) (fun g hg e => hO.apart g ((fun _ h => h) g hg) (mem_l (e)))
          have hC := hC.step hC291 (fun g hg => hO.inN g ((fun _ h => h) g hg))
          have hO := hO.ext hC291
          have hb291 : BoxV w291 g285 108 [(.slice a286x0 n286x0 c286x0), (.int .i64 x212.2.1), (.slice (some ⟨g289, 0, none⟩) 0 0)] := hb291
          refine x_end (by kernel_rfl) ?_
          clear hS
          have hO := hO.fr3
          have hO := hO.fr3
          have hO := hO.fr3
          have hO := hO.fr3
          exact ⟨_, a286x0, c286x0, f286x0, g289, g285, n286x0, fr_ovl 62 ⟨rfl, rfl, rfl, rfl, trivial⟩, hC, hO, h0, hv202, hv286x0, hv289, hb291⟩
        · skip
          obtain ⟨w292, g292, ew292, eg292, hC292, hb292⟩ := new_block w285 [] 22
          refine xk_val (w' := w292) (b := false) (.slice (some ⟨g292, 0, none⟩) 0 0) rfl  (y_bslice rfl (by rw [ew292, eg292]; kernel_rfl)) rfl (fun _ => hS.ext hC292) ?_
          have h0 := h0.ext hC292
          have hv202 := hv202.ext hC292
          have hv256 := hv256.ext hC292
          have hb285 := hb285.chg hC292 (fun h => nomatch h)
          have hC := hC.ext hC292
          have hO := hO.new (X' := [g292]) hC292 (fun q hq => by rw [List.mem_singleton.1 hq, eg292]; exact Nat.le_refl _) (List.nodup_cons.2 ⟨(fun h => nomatch h), List.nodup_nil⟩) (fun q hq => by rw [List.mem_singleton.1 hq]; exact hb292.lt)
          have hv292 := os_of_box (r := (RT.os 3 (RT.int .i64))) (M := M) (css := []) (fps := []) (xs := ([] : List (List Int))) hb292 trivial (Nat.zero_le _) (List.nodup_cons.2 ⟨(fun h => nomatch h), List.nodup_nil⟩)
          have hv292 : (RT.os 22 (RT.os 3 (RT.int .i64))).val M w292 (.slice (some ⟨g292, 0, none⟩) 0 0) [] [g292] := hv292
          have hS := hS.ext hC292
          refine x_p 13 (.agg #[(.int .i64 x212.2.1), (.slice (some ⟨g292, 0, none⟩) 0 0)]) rfl (by kernel_rfl)  (fun _ => y_build rfl (by kernel_rfl)) (fun _ => hS) ?_
          refine x_one (i := 5) (by kernel_rfl) ?_
          refine xk_call (b := false) rfl  Bd169 rfl (c_spec_l1Own (M := M) x207.1 hv256 hO.fut hr217) rfl (by rintro _ _ _ ⟨a294x0, n294x0, c294x0, f294x0, rfl, hC294, hv294x0, hOc294⟩; exact hS.ext hC294) ?_
          rintro _ w294 ⟨a294x0, n294x0, c294x0, f294x0, rfl, hC294, hv294x0, hOc294⟩
          have h0 := h0.ext hC294
          have hv202 := hv202.ext hC294
          have hv256 := hv256.ext hC294
          have hb285 := hb285.chg hC294 (fun h => nomatch h)
          have hv292 := hv292.ext hC294
          have hC := hC.ext hC294
          have hO := Own.join0 hO hC294 hOc294
          have hO := hO.perm (R := f294x0 ++ (([g292]) ++ (([g285]) ++ (f202 ++ ([]))))) (by simp)
          have hS := hS.ext hC294
          refine x_p 14 (.agg #[(.slice a294x0 n294x0 c294x0), (.int .i64 x212.2.1), (.slice (some ⟨g292, 0, none⟩) 0 0)]) rfl (by kernel_rfl)  (fun _ => y_build rfl (by kernel_rfl)) (fun _ => hS) ?_
          refine x_one (i := 16) (by kernel_rfl) ?_
          obtain ⟨w297, hst297, hC297, hb297⟩ := box_store (P := Try.prog) hb285 [] [(.slice none 0 0), (.int .i64 0), (.slice none 0 0)] [] [(.slice a294x0 n294x0 c294x0), (.int .i64 x212.2.1), (.slice (some ⟨g292, 0, none⟩) 0 0)] rfl rfl (by intro u hu; simp only [List.mem_cons, List.not_mem_nil, or_false] at hu; rcases hu with rfl | rfl | rfl <;> rfl)
          refine xk_skip (w' := w297) (b := true) rfl (ys_store rfl rfl (hst297 _ _ rfl Sz108)) rfl (fun h => nomatch h) ?_
          have hO := hO.fr2
          have h0 := h0.mut hC297 (fun g hg => hO.inM g ((fun _ h => h) g hg)) (fun _ _ h => nomatch h)
          have hv202 := hv202.mut hC297 (fun g hg => hO.inM g ((fun _ h => h) g hg)) (fun g hg e => hO.apart g ((fun _ h => h) g hg) (mem_r (mem_r (mem_l (e)))))
          have hv256 := hv256.mut hC297 (fun g hg => hO.inM g ((fun _ h => h) g hg)) (fun _ _ h => nomatch h)
          have hv292 := hv292.mut hC297 (fun g hg => hO.inM g ((fun _ h => h) g hg)) (fun g hg e => hO.apart g ((fun _ h => h) g hg) (mem_r (mem_l (e))))
          have hv294x0 := hv294x0.mut hC297 (fun g hg => hO.inM g ((fun _ h => h) g hg)) (fun g hg e => hO.apart g ((fun _ h => h) g hg) (mem_l (e)))
          have hC := hC.step hC297 (fun g hg => hO.inN g ((fun _ h => h) g hg))
          have hO := hO.ext hC297
          have hb297 : BoxV w297 g285 108 [(.slice a294x0 n294x0 c294x0), (.int .i64 x212.2.1), (.slice (some ⟨g292, 0, none⟩) 0 0)] := hb297
          refine x_end (by kernel_rfl) ?_
          clear hS
          have hO := hO.fr3
          have hO := hO.fr2
          have hO := hO.fr3
          have hO := hO.fr3
          exact ⟨_, a294x0, c294x0, f294x0, g292, g285, n294x0, fr_ovl 62 ⟨rfl, rfl, rfl, rfl, trivial⟩, hC, hO, h0, hv202, hv294x0, hv292, hb297⟩
    · rintro a1 w222 ⟨σ, a216x0, c216x0, f216x0, g219, g221, n216x0, rfl, hC, hO, h0, hv202, hv216x0, hv219, hb222⟩
      refine c_seq ?_
      refine c_seq ?_
      refine c_region ?_
      refine pl_val (.int .i64 0) (y_assign rfl) ?_
      refine c_nil ?_
      obtain ⟨o358, hl359, hs⟩ := bind_some hs
      refine wp_block ?_
      refine wp_iter (id := 2) (I := fun s354 a w355 => ∃ (σ : Nat → Value) (a360 : Option Addr) (n360 : Nat) (c360 : Nat) (f360 : List Nat), a = fr 62 (ovl σ [(0, (.slice pa0 pn0 pc0)), (3, (.slice a202 n202 c202)), (4, (.int .i64 k198)), (5, (.pointer (some ⟨g221, 0, none⟩))), (6, (.int .i64 s354.1))]) ∧ Chg [] w w355 ∧ Own (Nw w []) M w355 (f360 ++ (([g221]) ++ (f216x0 ++ (f202 ++ [])))) ∧ (RT.rs (RT.pr (RT.rs (RT.int .i64)) (RT.pr (RT.int .i64) (RT.rs (RT.rs (RT.int .i64)))))).val M w355 (.slice pa0 pn0 pc0) list ([]) ∧ (RT.os 108 (RT.pr (RT.os 3 (RT.int .i64)) (RT.pr (RT.int .i64) (RT.os 22 (RT.os 3 (RT.int .i64)))))).val M w355 (.slice a202 n202 c202) s196 f202 ∧ (RT.os 3 (RT.int .i64)).val M w355 (.slice a216x0 n216x0 c216x0) r217 f216x0 ∧ BoxV w355 g221 108 [(.slice a216x0 n216x0 c216x0), (.int .i64 x212.2.1), (.slice a360 n360 c360)] ∧ (RT.os 22 (RT.os 3 (RT.int .i64))).val M w355 (.slice a360 n360 c360) s354.2 f360) (J := fun s354 a w355 => ∃ (σ : Nat → Value) (a362 : Option Addr) (n362 : Nat) (c362 : Nat) (f362 : List Nat), a = fr 62 (ovl σ [(0, (.slice pa0 pn0 pc0)), (3, (.slice a202 n202 c202)), (4, (.int .i64 k198)), (5, (.pointer (some ⟨g221, 0, none⟩)))]) ∧ Chg [] w w355 ∧ Own (Nw w []) M w355 (f362 ++ (([g221]) ++ (f216x0 ++ (f202 ++ [])))) ∧ (RT.rs (RT.pr (RT.rs (RT.int .i64)) (RT.pr (RT.int .i64) (RT.rs (RT.rs (RT.int .i64)))))).val M w355 (.slice pa0 pn0 pc0) list ([]) ∧ (RT.os 108 (RT.pr (RT.os 3 (RT.int .i64)) (RT.pr (RT.int .i64) (RT.os 22 (RT.os 3 (RT.int .i64)))))).val M w355 (.slice a202 n202 c202) s196 f202 ∧ (RT.os 3 (RT.int .i64)).val M w355 (.slice a216x0 n216x0 c216x0) r217 f216x0 ∧ BoxV w355 g221 108 [(.slice a216x0 n216x0 c216x0), (.int .i64 x212.2.1), (.slice a362 n362 c362)] ∧ (RT.os 22 (RT.os 3 (RT.int .i64))).val M w355 (.slice a362 n362 c362) s354.2 f362) (K := (k_spec_l19Copy M w)) ?_ FU (0, []) o358 _ _ ?_ hl359 ?_
      · rintro s354 o358 a w355 ⟨σ, a360, n360, c360, f360, rfl, hC, hO, h0, hv202, hv216x0, hb222, hv360⟩ hs
        refine c_seq ?_
        refine c_seq ?_
        refine c_region ?_
        refine pl_val (.int .i64 s354.1) (y_move rfl) ?_
        refine pl_val (.slice pa0 pn0 pc0) (y_move rfl) ?_
        refine pl_val (.int .i64 k198) (y_move rfl) ?_
        obtain ⟨x364, hx364, hs⟩ := bind_some hs
        obtain ⟨b365, o365, hp365, ha365⟩ := rs_idx Sl47 Sz108 h0 hx364
        refine pl_val (.pointer (some ⟨b365, o365, none⟩)) (hp365 _ _ _ _ _ _ _ _ _ rfl rfl) ?_
        obtain ⟨_, hq366x0⟩ := pr_at ha365
        refine pl_val (.pointer (some ⟨b365, o365 + 1, none⟩)) (y_faddr rfl Fa108x1) ?_
        obtain ⟨_, hq367x0⟩ := pr_at hq366x0
        refine pl_val (.pointer (some ⟨b365, (o365 + 1) + 1, none⟩)) (y_faddr rfl Fa31x1) ?_
        obtain ⟨v368, hl368, hv368⟩ := at_load Ag29 Sz29 (fun _ => rfl) hq367x0
        obtain ⟨a368, n368, c368, rfl⟩ := rs_sl hv368
        refine pl_val (.slice a368 n368 c368) (y_load rfl (hl368 _ (Chg.refl _ _))) ?_
        refine pl_val (.int .i64 (x364.2.2.length : Int)) (y_len' Sl29 (rs_len hv368) rfl) ?_
        refine pl_val (.bool (decide (s354.1 < (x364.2.2.length : Int)))) (y_lss rfl rfl) ?_
        refine c_nil ?_
        rcases bif_some hs with ⟨hc370, hs⟩ | ⟨hc370, hs⟩
        · skip
          refine c_condT (congrArg Value.bool hc370) ?_
          refine wp_skip ?_
          refine c_seq ?_
          refine wp_block ?_
          refine x_start [14, 17] Mx rfl ?_
          have hCw371 := Chg.drew w355
          generalize World.drew w355 = w371 at hCw371 ⊢
          have h0 := h0.ext hCw371
          have hv202 := hv202.ext hCw371
          have hv216x0 := hv216x0.ext hCw371
          have hb222 := hb222.chg hCw371 (fun h => nomatch h)
          have hv360 := hv360.ext hCw371
          have hC := hC.ext hCw371
          have hO := hO.ext hCw371
          have hS := Chg.refl [] w371
          refine x_p 0 (.pointer (some ⟨g221, 1, none⟩)) rfl (by kernel_rfl)  (fun _ => y_faddr rfl Fa108x1) (fun _ => hS) ?_
          refine x_p 1 (.pointer (some ⟨g221, 2, none⟩)) rfl (by kernel_rfl)  (fun _ => y_faddr rfl Fa31x1) (fun _ => hS) ?_
          refine x_l 2 (.slice a360 n360 c360) rfl (by kernel_rfl)  (fun w' hw' => y_load rfl ((box_load Ag29 Sz29 hb222 [(.slice a216x0 n216x0 c216x0), (.int .i64 x212.2.1)] [(.slice a360 n360 c360)] [] rfl rfl (fun _ => rfl)) w' hw')) hS ?_
          refine x_p 3 (.slice pa0 pn0 pc0) rfl (by kernel_rfl)  (fun _ => y_move rfl) (fun _ => hS) ?_
          refine x_p 4 (.int .i64 k198) rfl (by kernel_rfl)  (fun _ => y_move rfl) (fun _ => hS) ?_
          obtain ⟨x372, hx372, hs⟩ := bind_some hs
          obtain ⟨b373, o373, hp373, ha373⟩ := rs_idx Sl47 Sz108 h0 hx372
          refine x_p 5 (.pointer (some ⟨b373, o373, none⟩)) rfl (by kernel_rfl)  (fun _ => hp373 _ _ _ _ _ _ _ _ _ rfl rfl) (fun _ => hS) ?_
          obtain ⟨_, hq374x0⟩ := pr_at ha373
          refine x_p 6 (.pointer (some ⟨b373, o373 + 1, none⟩)) rfl (by kernel_rfl)  (fun _ => y_faddr rfl Fa108x1) (fun _ => hS) ?_
          obtain ⟨_, hq375x0⟩ := pr_at hq374x0
          refine x_p 7 (.pointer (some ⟨b373, (o373 + 1) + 1, none⟩)) rfl (by kernel_rfl)  (fun _ => y_faddr rfl Fa31x1) (fun _ => hS) ?_
          obtain ⟨v376, hl376, hv376⟩ := at_load Ag29 Sz29 (fun _ => rfl) hq375x0
          obtain ⟨a376, n376, c376, rfl⟩ := rs_sl hv376
          refine x_l 8 (.slice a376 n376 c376) rfl (by kernel_rfl)  (fun w' hw' => y_load rfl (hl376 w' hw')) hS ?_
          refine x_p 9 (.int .i64 s354.1) rfl (by kernel_rfl)  (fun _ => y_move rfl) (fun _ => hS) ?_
          obtain ⟨x378, hx378, hs⟩ := bind_some hs
          obtain ⟨b379, o379, hp379, ha379⟩ := rs_idx Sl29 Sz22 hv376 hx378
          refine x_p 10 (.pointer (some ⟨b379, o379, none⟩)) rfl (by kernel_rfl)  (fun _ => hp379 _ _ _ _ _ _ _ _ _ rfl rfl) (fun _ => hS) ?_
          obtain ⟨v380, hl380, hv380⟩ := at_load Ag22 Sz22 (fun _ => rfl) ha379
          obtain ⟨a380, n380, c380, rfl⟩ := rs_sl hv380
          refine x_l 11 (.slice a380 n380 c380) rfl (by kernel_rfl)  (fun w' hw' => y_load rfl (hl380 w' hw')) hS ?_
          refine x_one (i := 12) (by kernel_rfl) ?_
          obtain ⟨r383, hr383, hs⟩ := bind_some hs
          refine xk_call (b := false) rfl  Bd169 rfl (c_spec_l1Own (M := M) x378 hv380 hO.fut hr383) rfl (by rintro _ _ _ ⟨a382x0, n382x0, c382x0, f382x0, rfl, hC382, hv382x0, hOc382⟩; exact hS.ext hC382) ?_
          rintro _ w382 ⟨a382x0, n382x0, c382x0, f382x0, rfl, hC382, hv382x0, hOc382⟩
          have h0 := h0.ext hC382
          have hv202 := hv202.ext hC382
          have hv216x0 := hv216x0.ext hC382
          have hb222 := hb222.chg hC382 (fun h => nomatch h)
          have hv360 := hv360.ext hC382
          have hv376 := hv376.ext hC382
          have hv380 := hv380.ext hC382
          have hC := hC.ext hC382
          have hO := Own.join0 hO hC382 hOc382
          have hO := hO.perm (R := f382x0 ++ (f360 ++ (([g221]) ++ (f216x0 ++ (f202 ++ ([])))))) (by simp)
          have hS := hS.ext hC382
          refine x_one (i := 13) (by kernel_rfl) ?_
          obtain ⟨w385, g385, ew385, eg385, hC385, hb385⟩ := new_block w382 [(.slice a382x0 n382x0 c382x0)] 22
          refine xk_val (w' := w385) (b := false) (.slice (some ⟨g385, 0, none⟩) 1 1) rfl  (y_bslice rfl (by rw [ew385, eg385]; kernel_rfl)) rfl (fun _ => hS.ext hC385) ?_
          have h0 := h0.ext hC385
          have hv202 := hv202.ext hC385
          have hv216x0 := hv216x0.ext hC385
          have hb222 := hb222.chg hC385 (fun h => nomatch h)
          have hv360 := hv360.ext hC385
          have hv376 := hv376.ext hC385
          have hv380 := hv380.ext hC385
          have hv382x0 := hv382x0.ext hC385
          have hC := hC.ext hC385
          have hO := hO.new (X' := [g385]) hC385 (fun q hq => by rw [List.mem_singleton.1 hq, eg385]; exact Nat.le_refl _) (List.nodup_cons.2 ⟨(fun h => nomatch h), List.nodup_nil⟩) (fun q hq => by rw [List.mem_singleton.1 hq]; exact hb385.lt)
          have hO := hO.perm (R := (g385 :: ((f382x0) ++ ([]))) ++ (f360 ++ (([g221]) ++ (f216x0 ++ (f202 ++ ([])))))) (by simp)
          have hnd385 := hO.nd
          have hv385 := os_of_box (r := (RT.os 3 (RT.int .i64))) (M := M) (css := [[(.slice a382x0 n382x0 c382x0)]]) (fps := [(f382x0 : List Nat)]) (xs := ([r383] : List (List Int))) hb385 ⟨(os_unval hv382x0), trivial⟩ (Nat.le_of_ble_eq_true rfl) hnd385
          have hv385 : (RT.os 22 (RT.os 3 (RT.int .i64))).val M w385 (.slice (some ⟨g385, 0, none⟩) 1 1) [r383] (g385 :: ((f382x0) ++ ([]))) := hv385
          have hS := hS.ext hC385
          refine x_one (i := 14) (by kernel_rfl) ?_
          obtain ⟨y388, hy388, hs⟩ := bind_some hs
          have hO := hO.fr1
          obtain ⟨a387, n387, c387, w387, f387, hr387, hC387, hf387, hv387⟩ := app_os Rw29 hy388 hv360 hv385 hO.inM (fun g hg hq => hO.apart g hq (mem_l hg))
          have hG387 := os_block hv360
          refine xk_val (w' := w387) (b := true) (.slice a387 n387 c387) rfl  (y_append rfl rfl (hr387 _)) rfl (fun h => nomatch h) ?_
          have hO := hO.fr1
          have hO := hO.fr1
          have h0 := h0.mut hC387 (fun g hg => hO.inM g (hG387 g hg)) (fun _ _ h => nomatch h)
          have hv202 := hv202.mut hC387 (fun g hg => hO.inM g (hG387 g hg)) (fun g hg e => hO.apart g (hG387 g hg) (mem_r (mem_r (mem_r (mem_l (e))))))
          have hv216x0 := hv216x0.mut hC387 (fun g hg => hO.inM g (hG387 g hg)) (fun g hg e => hO.apart g (hG387 g hg) (mem_r (mem_r (mem_l (e)))))
          have hb222 := hb222.chg hC387 (fun hg => hO.apart _ (hG387 _ hg) (mem_r (mem_l (List.mem_singleton.2 rfl))))
          have hv376 := hv376.mut hC387 (fun g hg => hO.inM g (hG387 g hg)) (fun _ _ h => nomatch h)
          have hv380 := hv380.mut hC387 (fun g hg => hO.inM g (hG387 g hg)) (fun _ _ h => nomatch h)
          have hC := hC.step hC387 (fun g hg => hO.inN g (hG387 g hg))
          have hO := hO.eat hC387 hf387 (os_nodup hv387) hv387.fpl
          refine x_p 15 (.pointer (some ⟨g221, 1, none⟩)) rfl (by kernel_rfl)  (fun _ => y_faddr rfl Fa108x1) (fun h => nomatch h) ?_
          refine x_p 16 (.pointer (some ⟨g221, 2, none⟩)) rfl (by kernel_rfl)  (fun _ => y_faddr rfl Fa31x1) (fun h => nomatch h) ?_
          refine x_one (i := 17) (by kernel_rfl) ?_
          obtain ⟨w390, hst390, hC390, hb390⟩ := box_store (P := Try.prog) hb222 [(.slice a216x0 n216x0 c216x0), (.int .i64 x212.2.1)] [(.slice a360 n360 c360)] [] [(.slice a387 n387 c387)] rfl rfl (by intro u hu; simp only [List.mem_cons, List.not_mem_nil, or_false] at hu; rcases hu with rfl <;> rfl)
          refine xk_skip (w' := w390) (b := true) rfl (ys_store rfl rfl (hst390 _ _ rfl Sz29)) rfl (fun h => nomatch h) ?_
          have hO := hO.fr1
          have h0 := h0.mut hC390 (fun g hg => hO.inM g ((fun _ h => h) g hg)) (fun _ _ h => nomatch h)
          have hv202 := hv202.mut hC390 (fun g hg => hO.inM g ((fun _ h => h) g hg)) (fun g hg e => hO.apart g ((fun _ h => h) g hg) (mem_r (mem_r (mem_l (e)))))
          have hv216x0 := hv216x0.mut hC390 (fun g hg => hO.inM g ((fun _ h => h) g hg)) (fun g hg e => hO.apart g ((fun _ h => h) g hg) (mem_r (mem_l (e))))
          have hv376 := hv376.mut hC390 (fun g hg => hO.inM g ((fun _ h => h) g hg)) (fun _ _ h => nomatch h)
          have hv380 := hv380.mut hC390 (fun g hg => hO.inM g ((fun _ h => h) g hg)) (fun _ _ h => nomatch h)
          have hv387 := hv387.mut hC390 (fun g hg => hO.inM g ((fun _ h => h) g hg)) (fun g hg e => hO.apart g ((fun _ h => h) g hg) (mem_l (e)))
          have hC := hC.step hC390 (fun g hg => hO.inN g ((fun _ h => h) g hg))
          have hO := hO.ext hC390
          have hb390 : BoxV w390 g221 108 [(.slice a216x0 n216x0 c216x0), (.int .i64 x212.2.1), (.slice a387 n387 c387)] := hb390
          refine x_end (by kernel_rfl) ?_
          clear hS
          refine c_region ?_
          refine pl_val (.int .i64 s354.1) (y_move rfl) ?_
          refine pl_val (.int .i64 (w64 (s354.1 + 1))) (y_add rfl rfl) ?_
          refine pl_val (.int .i64 (w64 (s354.1 + 1))) (y_assign rfl) ?_
          refine c_nil ?_
          cases hs
          have hO := hO.fr3
          have hO := hO.fr3
          have hO := hO.fr2
          have hO := hO.fr3
          exact ⟨_, a387, n387, c387, f387, fr_ovl 62 ⟨rfl, rfl, rfl, rfl, rfl, trivial⟩, hC, hO, h0, hv202, hv216x0, hb390, hv387⟩
        · skip
          refine c_condF (congrArg Value.bool hc370) ?_
          refine wp_exit ?_
          cases hs
          have hO := hO.fr3
          have hO := hO.fr3
          have hO := hO.fr3
          have hO := hO.fr3
          exact ⟨rfl, _, a360, n360, c360, f360, fr_ovl 62 ⟨rfl, rfl, rfl, rfl, trivial⟩, hC, hO, h0, hv202, hv216x0, hb222, hv360⟩
      · skip
        have hO := hO.fr3
        have hO := hO.fr3
        have hO := hO.fr2
        have hO := hO.fr3
        exact ⟨_, (some ⟨g219, 0, none⟩), 0, 0, ([g219]), fr_ovl 62 ⟨rfl, rfl, rfl, rfl, rfl, trivial⟩, hC, hO, h0, hv202, hv216x0, hb222, hv219⟩
      · cases o358 with
        | nx _ => exact True.intro
        | rt r_ =>
          have hs := after_rt hs
          intro a1 w1 hK
          cases hs
          exact hK
        | br s354 =>
          have hs := after_br hs
          rintro a1 w355 ⟨σ, a362, n362, c362, f362, rfl, hC, hO, h0, hv202, hv216x0, hb222, hv362⟩
          refine c_region ?_
          refine pl_val (.slice a202 n202 c202) (y_move rfl) ?_
          refine pl_val (.agg #[(.slice a216x0 n216x0 c216x0), (.int .i64 x212.2.1), (.slice a362 n362 c362)]) (y_load rfl ((box_load Ag108 Sz108 hb222 [] [(.slice a216x0 n216x0 c216x0), (.int .i64 x212.2.1), (.slice a362 n362 c362)] [] rfl rfl (fun h => nomatch h)) _ (Chg.refl _ _))) ?_
          obtain ⟨w391, g391, ew391, eg391, hC391, hb391⟩ := new_block w355 [(.slice a216x0 n216x0 c216x0), (.int .i64 x212.2.1), (.slice a362 n362 c362)] 108
          refine pl_val (w' := w391) (.slice (some ⟨g391, 0, none⟩) 1 1) (y_bslice rfl (by rw [ew391, eg391]; kernel_rfl)) ?_
          have h0 := h0.ext hC391
          have hv202 := hv202.ext hC391
          have hv216x0 := hv216x0.ext hC391
          have hb222 := hb222.chg hC391 (fun h => nomatch h)
          have hv362 := hv362.ext hC391
          have hC := hC.ext hC391
          have hO := hO.fr2
          have hO := hO.new (X' := [g391]) hC391 (fun q hq => by rw [List.mem_singleton.1 hq, eg391]; exact Nat.le_refl _) (List.nodup_cons.2 ⟨(fun h => nomatch h), List.nodup_nil⟩) (fun q hq => by rw [List.mem_singleton.1 hq]; exact hb391.lt)
          have hO := hO.perm (R := (g391 :: ((f216x0 ++ f362) ++ ([]))) ++ (([g221]) ++ (f202 ++ ([])))) (by simp)
          have hnd391 := hO.nd
          have hv391 := os_of_box (r := (RT.pr (RT.os 3 (RT.int .i64)) (RT.pr (RT.int .i64) (RT.os 22 (RT.os 3 (RT.int .i64)))))) (M := M) (css := [[(.slice a216x0 n216x0 c216x0), (.int .i64 x212.2.1), (.slice a362 n362 c362)]]) (fps := [(f216x0 ++ f362 : List Nat)]) (xs := ([(r217, (x212.2.1, s354.2))] : List ((List Int) × (Int × (List (List Int)))))) hb391 ⟨⟨_, _, _, _, rfl, rfl, (os_unval hv216x0), ⟨_, _, _, _, rfl, rfl, ⟨rfl, rfl⟩, (os_unval hv362)⟩⟩, trivial⟩ (Nat.le_of_ble_eq_true rfl) hnd391
          have hv391 : (RT.os 108 (RT.pr (RT.os 3 (RT.int .i64)) (RT.pr (RT.int .i64) (RT.os 22 (RT.os 3 (RT.int .i64)))))).val M w391 (.slice (some ⟨g391, 0, none⟩) 1 1) [(r217, (x212.2.1, s354.2))] (g391 :: ((f216x0 ++ f362) ++ ([]))) := hv391
          obtain ⟨y394, hy394, hs⟩ := bind_some hs
          have hO := hO.fr2
          obtain ⟨a393, n393, c393, w393, f393, hr393, hC393, hf393, hv393⟩ := app_os Rw47 hy394 hv202 hv391 hO.inM (fun g hg hq => hO.apart g hq (mem_l hg))
          have hG393 := os_block hv202
          refine pl_val (w' := w393) (.slice a393 n393 c393) (y_append rfl rfl (hr393 _)) ?_
          have hO := hO.fr1
          have hO := hO.fr1
          have h0 := h0.mut hC393 (fun g hg => hO.inM g (hG393 g hg)) (fun _ _ h => nomatch h)
          have hb222 := hb222.chg hC393 (fun hg => hO.apart _ (hG393 _ hg) (mem_r (mem_l (List.mem_singleton.2 rfl))))
          have hC := hC.step hC393 (fun g hg => hO.inN g (hG393 g hg))
          have hO := hO.eat hC393 hf393 (os_nodup hv393) hv393.fpl
          refine pl_val (.slice a393 n393 c393) (y_assign rfl) ?_
          refine c_nil ?_
          refine c_region ?_
          refine pl_val (.int .i64 k198) (y_move rfl) ?_
          refine pl_val (.int .i64 (w64 (k198 + 1))) (y_add rfl rfl) ?_
          refine pl_val (.int .i64 (w64 (k198 + 1))) (y_assign rfl) ?_
          refine c_nil ?_
          cases hs
          have hO := hO.fr1
          have hO := hO.drop
          exact ⟨_, a393, n393, c393, f393, fr_ovl 62 ⟨rfl, rfl, congrArg (Value.int .i64) hw, trivial⟩, hC, hO, h0, hv393⟩
  · skip
    exact ⟨_, (some ⟨g2, 0, none⟩), 0, 0, ([g2]), fr_ovl 62 ⟨rfl, rfl, rfl, trivial⟩, hC, hO, h0, hv2⟩
  · cases o200 with
    | nx _ => exact True.intro
    | rt r_ =>
      have hs := after_rt hs
      intro a1 w1 hK
      cases hs
      exact hK
    | br s196 =>
      have hs := after_br hs
      rintro a1 w197 ⟨σ, a204, n204, c204, f204, rfl, hC, hO, h0, hv204⟩
      refine c_seq ?_
      refine c_region ?_
      refine pl_val (.slice a204 n204 c204) (y_move rfl) ?_
      refine pl_val (.slice a204 n204 c204) (y_assign rfl) ?_
      refine c_nil ?_
      refine wp_ret ?_
      cases hs
      exact ⟨_, a204, n204, c204, f204, fr_ovl 62 ⟨rfl, trivial⟩, hC, hv204, hO.top⟩

theorem Bd88 : Bodied Try.prog 88 := bodied Try.func88 (by kernel_rfl) rfl

def k_spec_l19Give (M : Nat → Prop) (w0 : World) (r : (Int × Int × (List ((List Int) × (Int × (List (List Int)))))) × Bool) (a : Act) (w : World) : Prop :=
  ∃ (σ : Nat → Value) (rg2 : Nat) (ra0 : Option Addr) (rn0 rc0 : Nat), a = fr 9 (ovl σ [(2, (.pointer (some ⟨rg2, 0, none⟩))), (3, (.bool r.2))]) ∧ BoxV w rg2 49 [(.int .i64 r.1.1), (.int .i64 r.1.2.1), (.slice ra0 rn0 rc0)] ∧ Chg [] w0 w ∧ (RT.rs (RT.pr (RT.rs (RT.int .i64)) (RT.pr (RT.int .i64) (RT.rs (RT.rs (RT.int .i64)))))).val (Past M w0 w) w (.slice ra0 rn0 rc0) r.1.2.2 []
def s_spec_l19Give (net : Int × Int × (List ((List Int) × (Int × (List (List Int)))))) : Option ((Int × Int × (List ((List Int) × (Int × (List (List Int)))))) × Bool) :=
  (s_spec_l19Good (net.1, net.2.1, net.2.2)).bind fun r5 =>
  (bif (!r5) then some ((0, 0, []), false) else some ((net.1, net.2.1, net.2.2), true))
set_option maxHeartbeats 4000000 in
theorem c_spec_l19Give {M : Nat → Prop} {w : World} {pa0 : Option Addr} {pn0 pc0 : Nat} (net : Int × Int × (List ((List Int) × (Int × (List (List Int)))))) (h0 : (RT.rs (RT.pr (RT.rs (RT.int .i64)) (RT.pr (RT.int .i64) (RT.rs (RT.rs (RT.int .i64)))))).val M w (.slice pa0 pn0 pc0) net.2.2 ([])) (hM : ∀ g, w.heap.size ≤ g → M g) {r : (Int × Int × (List ((List Int) × (Int × (List (List Int)))))) × Bool} (hs : s_spec_l19Give net = some r) :
    Gives Try.prog 131 [(.agg #[(.int .i64 net.1), (.int .i64 net.2.1), (.slice pa0 pn0 pc0)])] w (fun v w' => ∃ (ra0 : Option Addr) (rn0 rc0 : Nat), v = (.tuple #[(.agg #[(.int .i64 r.1.1), (.int .i64 r.1.2.1), (.slice ra0 rn0 rc0)]), (.bool r.2)]) ∧ Chg [] w w' ∧ (RT.rs (RT.pr (RT.rs (RT.int .i64)) (RT.pr (RT.int .i64) (RT.rs (RT.rs (RT.int .i64)))))).val (Past M w w') w' (.slice ra0 rn0 rc0) r.1.2.2 []) := by
  refine calls_fr Try.func131 rfl Try.ntmps131 (Nat.le_of_ble_eq_true rfl) ?_
  have hO := Own.start (N := Nw w []) hM Nw.fut
  have hC := Chg.refl [] w
  unfold s_spec_l19Give at hs
  refine wp_mono (Q := KPost (k_spec_l19Give M w r)) ?_ (fun e a w1 h => ?_)
  rotate_left
  · cases e
    case ret =>
      obtain ⟨σ, rg2, ra0, rn0, rc0, rfl, hbrg2, hrest⟩ := h
      exact ret2x Try.results131 (res_cell rfl (box_load Ag49 Sz49 hbrg2 [] _ [] rfl rfl (fun h => nomatch h))) (res_tmp rfl) ⟨ra0, rn0, rc0, rfl, hrest⟩
    all_goals exact (h : False).elim
  refine c_seq ?_
  refine c_region ?_
  obtain ⟨w2, g2, ew2, eg2, hC2, hb2⟩ := new_block w [(.int .i64 net.1), (.int .i64 net.2.1), (.slice pa0 pn0 pc0)] 49
  refine pl_val (w' := w2) (.pointer (some ⟨g2, 0, none⟩)) (y_box rfl (by rw [ew2, eg2]; kernel_rfl)) ?_
  have h0 := h0.ext hC2
  have hC := hC.ext hC2
  have hO := hO.new (X' := [g2]) hC2 (fun q hq => by rw [List.mem_singleton.1 hq, eg2]; exact Nat.le_refl _) (List.nodup_cons.2 ⟨(fun h => nomatch h), List.nodup_nil⟩) (fun q hq => by rw [List.mem_singleton.1 hq]; exact hb2.lt)
  obtain ⟨w3, g3, ew3, eg3, hC3, hb3⟩ := new_block w2 [(.int .i64 0), (.int .i64 0), (.slice none 0 0)] 49
  refine pl_val (w' := w3) (.pointer (some ⟨g3, 0, none⟩)) (y_alloc (by rw [ew3, eg3]; kernel_rfl)) ?_
  have h0 := h0.ext hC3
  have hb2 := hb2.chg hC3 (fun h => nomatch h)
  have hC := hC.ext hC3
  have hO := hO.new (X' := [g3]) hC3 (fun q hq => by rw [List.mem_singleton.1 hq, eg3]; exact Nat.le_refl _) (List.nodup_cons.2 ⟨(fun h => nomatch h), List.nodup_nil⟩) (fun q hq => by rw [List.mem_singleton.1 hq]; exact hb3.lt)
  refine pl_val (.bool false) (y_assign rfl) ?_
  refine c_nil ?_
  refine c_seq ?_
  refine c_seq ?_
  refine c_region ?_
  refine pl_val (.agg #[(.int .i64 net.1), (.int .i64 net.2.1), (.slice pa0 pn0 pc0)]) (y_load rfl ((box_load Ag49 Sz49 hb2 [] [(.int .i64 net.1), (.int .i64 net.2.1), (.slice pa0 pn0 pc0)] [] rfl rfl (fun h => nomatch h)) _ (Chg.refl _ _))) ?_
  obtain ⟨r5, hr5, hs⟩ := bind_some hs
  refine pl_call Bd88 rfl (c_spec_l19Good (M := M) (net.1, net.2.1, net.2.2) h0 hO.fut hr5) ?_
  rintro _ w4 ⟨rfl, hC4⟩
  have h0 := h0.ext hC4
  have hb2 := hb2.chg hC4 (fun h => nomatch h)
  have hb3 := hb3.chg hC4 (fun h => nomatch h)
  have hC := hC.ext hC4
  have hO := hO.ext hC4
  refine pl_val (.bool (!r5)) (y_not rfl) ?_
  refine c_nil ?_
  rcases bif_some hs with ⟨hc6, hs⟩ | ⟨hc6, hs⟩
  · skip
    refine c_condT (congrArg Value.bool hc6) ?_
    refine c_seq ?_
    refine c_region ?_
    refine pl_val (.agg #[(.int .i64 0), (.int .i64 0), (.slice none 0 0)]) (y_build rfl (by kernel_rfl)) ?_
    obtain ⟨w7, hst7, hC7, hb7⟩ := box_store (P := Try.prog) hb3 [] [(.int .i64 0), (.int .i64 0), (.slice none 0 0)] [] [(.int .i64 0), (.int .i64 0), (.slice none 0 0)] rfl rfl (by intro u hu; simp only [List.mem_cons, List.not_mem_nil, or_false] at hu; rcases hu with rfl | rfl | rfl <;> rfl)
    refine pl_skip (w' := w7) (ys_store rfl rfl (hst7 _ _ rfl Sz49)) ?_
    have h0 := h0.mut hC7 (fun g hg => hO.inM g ((fun _ h => h) g hg)) (fun _ _ h => nomatch h)
    have hb2 := hb2.chg hC7 (fun hg => hO.apart _ ((fun _ h => h) _ hg) (mem_l (List.mem_singleton.2 rfl)))
    have hC := hC.step hC7 (fun g hg => hO.inN g ((fun _ h => h) g hg))
    have hO := hO.ext hC7
    have hb7 : BoxV w7 g3 49 [(.int .i64 0), (.int .i64 0), (.slice none 0 0)] := hb7
    refine pl_val (.bool false) (y_assign rfl) ?_
    refine c_nil ?_
    refine wp_ret ?_
    cases hs
    exact ⟨_, g3, none, 0, 0, fr_ovl 9 ⟨rfl, rfl, trivial⟩, hb7, hC, rs_nil⟩
  · skip
    refine c_condF (congrArg Value.bool hc6) ?_
    refine wp_skip ?_
    refine c_seq ?_
    refine c_region ?_
    refine pl_val (.agg #[(.int .i64 net.1), (.int .i64 net.2.1), (.slice pa0 pn0 pc0)]) (y_load rfl ((box_load Ag49 Sz49 hb2 [] [(.int .i64 net.1), (.int .i64 net.2.1), (.slice pa0 pn0 pc0)] [] rfl rfl (fun h => nomatch h)) _ (Chg.refl _ _))) ?_
    obtain ⟨w8, hst8, hC8, hb8⟩ := box_store (P := Try.prog) hb3 [] [(.int .i64 0), (.int .i64 0), (.slice none 0 0)] [] [(.int .i64 net.1), (.int .i64 net.2.1), (.slice pa0 pn0 pc0)] rfl rfl (by intro u hu; simp only [List.mem_cons, List.not_mem_nil, or_false] at hu; rcases hu with rfl | rfl | rfl <;> rfl)
    refine pl_skip (w' := w8) (ys_store rfl rfl (hst8 _ _ rfl Sz49)) ?_
    have h0 := h0.mut hC8 (fun g hg => hO.inM g ((fun _ h => h) g hg)) (fun _ _ h => nomatch h)
    have hb2 := hb2.chg hC8 (fun hg => hO.apart _ ((fun _ h => h) _ hg) (mem_l (List.mem_singleton.2 rfl)))
    have hC := hC.step hC8 (fun g hg => hO.inN g ((fun _ h => h) g hg))
    have hO := hO.ext hC8
    have hb8 : BoxV w8 g3 49 [(.int .i64 net.1), (.int .i64 net.2.1), (.slice pa0 pn0 pc0)] := hb8
    refine pl_val (.bool true) (y_assign rfl) ?_
    refine c_nil ?_
    refine wp_ret ?_
    cases hs
    exact ⟨_, g3, pa0, pn0, pc0, fr_ovl 9 ⟨rfl, rfl, trivial⟩, hb8, hC, (Keeps.out Keeps.refl h0)⟩

theorem Bd132 : Bodied Try.prog 132 := bodied Try.func132 (by kernel_rfl) rfl

def k_spec_l19Give__take0 (M : Nat → Prop) (w0 : World) (qa0 : Option Addr) (qn0 qc0 : Nat) (qf0 : List Nat) (r : (Int × Int × (List ((List Int) × (Int × (List (List Int)))))) × Bool) (a : Act) (w : World) : Prop :=
  ∃ (σ : Nat → Value) (rg2 : Nat) (ra0 : Option Addr) (rn0 rc0 : Nat) (rf0 : List Nat), a = fr 9 (ovl σ [(2, (.pointer (some ⟨rg2, 0, none⟩))), (3, (.bool r.2))]) ∧ BoxV w rg2 49 [(.int .i64 r.1.1), (.int .i64 r.1.2.1), (.slice ra0 rn0 rc0)] ∧ Chg (qf0 ++ ([])) w0 w ∧ (RT.os 108 (RT.pr (RT.os 3 (RT.int .i64)) (RT.pr (RT.int .i64) (RT.os 22 (RT.os 3 (RT.int .i64)))))).val M w (.slice ra0 rn0 rc0) r.1.2.2 rf0 ∧ Own (Nw w0 (qf0 ++ ([]))) (fun _ => True) w (rf0 ++ ([]))
def s_spec_l19Give__take0 (net : Int × Int × (List ((List Int) × (Int × (List (List Int)))))) : Option ((Int × Int × (List ((List Int) × (Int × (List (List Int)))))) × Bool) :=
  (s_spec_l19Good (net.1, net.2.1, net.2.2)).bind fun r5 =>
  (bif (!r5) then some ((0, 0, []), false) else some ((net.1, net.2.1, net.2.2), true))
set_option maxHeartbeats 4000000 in
theorem c_spec_l19Give__take0 {M : Nat → Prop} {w : World} {pa0 : Option Addr} {pn0 pc0 : Nat} {pf0 : List Nat} (net : Int × Int × (List ((List Int) × (Int × (List (List Int)))))) (h0 : (RT.os 108 (RT.pr (RT.os 3 (RT.int .i64)) (RT.pr (RT.int .i64) (RT.os 22 (RT.os 3 (RT.int .i64)))))).val M w (.slice pa0 pn0 pc0) net.2.2 pf0) (hI : Own (Nw w (pf0 ++ ([]))) M w (pf0 ++ ([]))) (hM : ∀ g, w.heap.size ≤ g → M g) {r : (Int × Int × (List ((List Int) × (Int × (List (List Int)))))) × Bool} (hs : s_spec_l19Give__take0 net = some r) :
    Gives Try.prog 131 [(.agg #[(.int .i64 net.1), (.int .i64 net.2.1), (.slice pa0 pn0 pc0)])] w (fun v w' => ∃ (ra0 : Option Addr) (rn0 rc0 : Nat) (rf0 : List Nat), v = (.tuple #[(.agg #[(.int .i64 r.1.1), (.int .i64 r.1.2.1), (.slice ra0 rn0 rc0)]), (.bool r.2)]) ∧ Chg (pf0 ++ ([])) w w' ∧ (RT.os 108 (RT.pr (RT.os 3 (RT.int .i64)) (RT.pr (RT.int .i64) (RT.os 22 (RT.os 3 (RT.int .i64)))))).val M w' (.slice ra0 rn0 rc0) r.1.2.2 rf0 ∧ Own (Nw w (pf0 ++ ([]))) (fun _ => True) w' (rf0 ++ ([]))) := by
  refine calls_fr Try.func131 rfl Try.ntmps131 (Nat.le_of_ble_eq_true rfl) ?_
  have hO := hI
  have hC := Chg.refl (pf0 ++ ([])) w
  unfold s_spec_l19Give__take0 at hs
  refine wp_mono (Q := KPost (k_spec_l19Give__take0 M w pa0 pn0 pc0 pf0 r)) ?_ (fun e a w1 h => ?_)
  rotate_left
  · cases e
    case ret =>
      obtain ⟨σ, rg2, ra0, rn0, rc0, rf0, rfl, hbrg2, hrest⟩ := h
      exact ret2x Try.results131 (res_cell rfl (box_load Ag49 Sz49 hbrg2 [] _ [] rfl rfl (fun h => nomatch h))) (res_tmp rfl) ⟨ra0, rn0, rc0, rf0, rfl, hrest⟩
    all_goals exact (h : False).elim
  refine c_seq ?_
  refine c_region ?_
  obtain ⟨w2, g2, ew2, eg2, hC2, hb2⟩ := new_block w [(.int .i64 net.1), (.int .i64 net.2.1), (.slice pa0 pn0 pc0)] 49
  refine pl_val (w' := w2) (.pointer (some ⟨g2, 0, none⟩)) (y_box rfl (by rw [ew2, eg2]; kernel_rfl)) ?_
  have h0 := h0.ext hC2
  have hC := hC.ext hC2
  have hO := hO.new (X' := [g2]) hC2 (fun q hq => by rw [List.mem_singleton.1 hq, eg2]; exact Nat.le_refl _) (List.nodup_cons.2 ⟨(fun h => nomatch h), List.nodup_nil⟩) (fun q hq => by rw [List.mem_singleton.1 hq]; exact hb2.lt)
  obtain ⟨w3, g3, ew3, eg3, hC3, hb3⟩ := new_block w2 [(.int .i64 0), (.int .i64 0), (.slice none 0 0)] 49
  refine pl_val (w' := w3) (.pointer (some ⟨g3, 0, none⟩)) (y_alloc (by rw [ew3, eg3]; kernel_rfl)) ?_
  have h0 := h0.ext hC3
  have hb2 := hb2.chg hC3 (fun h => nomatch h)
  have hC := hC.ext hC3
  have hO := hO.new (X' := [g3]) hC3 (fun q hq => by rw [List.mem_singleton.1 hq, eg3]; exact Nat.le_refl _) (List.nodup_cons.2 ⟨(fun h => nomatch h), List.nodup_nil⟩) (fun q hq => by rw [List.mem_singleton.1 hq]; exact hb3.lt)
  refine pl_val (.bool false) (y_assign rfl) ?_
  refine c_nil ?_
  refine c_seq ?_
  refine c_seq ?_
  refine c_region ?_
  refine pl_val (.agg #[(.int .i64 net.1), (.int .i64 net.2.1), (.slice pa0 pn0 pc0)]) (y_load rfl ((box_load Ag49 Sz49 hb2 [] [(.int .i64 net.1), (.int .i64 net.2.1), (.slice pa0 pn0 pc0)] [] rfl rfl (fun h => nomatch h)) _ (Chg.refl _ _))) ?_
  have hO := hO.fr2
  obtain ⟨r5, hr5, hs⟩ := bind_some hs
  refine pl_call Bd88 rfl (c_spec_l19Good (M := (Less M pf0)) (net.1, net.2.1, net.2.2) (((Frz.os (Frz.pr (Frz.os Frz.int) (Frz.pr Frz.int (Frz.os (Frz.os Frz.int)))))).val h0 Less.sub Less.not) hO.less.fut hr5) ?_
  rintro _ w4 ⟨rfl, hC4⟩
  have h0 := h0.ext hC4
  have hb2 := hb2.chg hC4 (fun h => nomatch h)
  have hb3 := hb3.chg hC4 (fun h => nomatch h)
  have hC := hC.ext hC4
  have hO := hO.ext hC4
  refine pl_val (.bool (!r5)) (y_not rfl) ?_
  refine c_nil ?_
  rcases bif_some hs with ⟨hc6, hs⟩ | ⟨hc6, hs⟩
  · skip
    refine c_condT (congrArg Value.bool hc6) ?_
    refine c_seq ?_
    refine c_region ?_
    refine pl_val (.agg #[(.int .i64 0), (.int .i64 0), (.slice none 0 0)]) (y_build rfl (by kernel_rfl)) ?_
    obtain ⟨w7, hst7, hC7, hb7⟩ := box_store (P := Try.prog) hb3 [] [(.int .i64 0), (.int .i64 0), (.slice none 0 0)] [] [(.int .i64 0), (.int .i64 0), (.slice none 0 0)] rfl rfl (by intro u hu; simp only [List.mem_cons, List.not_mem_nil, or_false] at hu; rcases hu with rfl | rfl | rfl <;> rfl)
    refine pl_skip (w' := w7) (ys_store rfl rfl (hst7 _ _ rfl Sz49)) ?_
    have hO := hO.fr1
    have h0 := h0.mut hC7 (fun g hg => hO.inM g ((fun _ h => h) g hg)) (fun g hg e => hO.apart g ((fun _ h => h) g hg) (mem_l (e)))
    have hb2 := hb2.chg hC7 (fun hg => hO.apart _ ((fun _ h => h) _ hg) (mem_r (mem_l (List.mem_singleton.2 rfl))))
    have hC := hC.step hC7 (fun g hg => hO.inN g ((fun _ h => h) g hg))
    have hO := hO.ext hC7
    have hb7 : BoxV w7 g3 49 [(.int .i64 0), (.int .i64 0), (.slice none 0 0)] := hb7
    refine pl_val (.bool false) (y_assign rfl) ?_
    refine c_nil ?_
    refine wp_ret ?_
    cases hs
    have hO := hO.drop
    have hO := hO.drop
    have hO := hO.drop
    have hO := hO.nil
    exact ⟨_, g3, none, 0, 0, [], fr_ovl 9 ⟨rfl, rfl, trivial⟩, hb7, hC, os_nil, hO.top⟩
  · skip
    refine c_condF (congrArg Value.bool hc6) ?_
    refine wp_skip ?_
    refine c_seq ?_
    refine c_region ?_
    refine pl_val (.agg #[(.int .i64 net.1), (.int .i64 net.2.1), (.slice pa0 pn0 pc0)]) (y_load rfl ((box_load Ag49 Sz49 hb2 [] [(.int .i64 net.1), (.int .i64 net.2.1), (.slice pa0 pn0 pc0)] [] rfl rfl (fun h => nomatch h)) _ (Chg.refl _ _))) ?_
    obtain ⟨w8, hst8, hC8, hb8⟩ := box_store (P := Try.prog) hb3 [] [(.int .i64 0), (.int .i64 0), (.slice none 0 0)] [] [(.int .i64 net.1), (.int .i64 net.2.1), (.slice pa0 pn0 pc0)] rfl rfl (by intro u hu; simp only [List.mem_cons, List.not_mem_nil, or_false] at hu; rcases hu with rfl | rfl | rfl <;> rfl)
    refine pl_skip (w' := w8) (ys_store rfl rfl (hst8 _ _ rfl Sz49)) ?_
    have hO := hO.fr1
    have h0 := h0.mut hC8 (fun g hg => hO.inM g ((fun _ h => h) g hg)) (fun g hg e => hO.apart g ((fun _ h => h) g hg) (mem_l (e)))
    have hb2 := hb2.chg hC8 (fun hg => hO.apart _ ((fun _ h => h) _ hg) (mem_r (mem_l (List.mem_singleton.2 rfl))))
    have hC := hC.step hC8 (fun g hg => hO.inN g ((fun _ h => h) g hg))
    have hO := hO.ext hC8
    have hb8 : BoxV w8 g3 49 [(.int .i64 net.1), (.int .i64 net.2.1), (.slice pa0 pn0 pc0)] := hb8
    refine pl_val (.bool true) (y_assign rfl) ?_
    refine c_nil ?_
    refine wp_ret ?_
    cases hs
    have hO := hO.drop
    have hO := hO.fr1
    have hO := hO.drop
    exact ⟨_, g3, pa0, pn0, pc0, pf0, fr_ovl 9 ⟨rfl, rfl, trivial⟩, hb8, hC, h0, hO.top⟩

theorem Bd131 : Bodied Try.prog 131 := bodied Try.func131 (by kernel_rfl) rfl

end Go.Proofs
