/- What functions of the program compute, as plain functions, and that a call gives just that. Conditions: those named in each theorem. -/
import Derived.Test.YtceenhnjdnggjaaF0
set_option linter.unusedVariables false
namespace Go.Proofs
open Go.G Go.RowKit
set_option maxRecDepth 100000

def k_impl_pairsOf (M : Nat → Prop) (w0 : World) (r : (Int × (List (List Int)))) (a : Act) (w : World) : Prop :=
  ∃ (σ : Nat → Value) (rg2 : Nat) (ra0 : Option Addr) (rn0 rc0 : Nat) (rf0 : List Nat), a = fr 35 (ovl σ [(2, (.pointer (some ⟨rg2, 0, none⟩)))]) ∧ BoxV w rg2 31 [(.int .i64 r.1), (.slice ra0 rn0 rc0)] ∧ Chg [] w0 w ∧ (RT.os 22 (RT.os 3 (RT.int .i64))).val M w (.slice ra0 rn0 rc0) r.2 rf0 ∧ Own (Nw w0 []) (fun _ => True) w (rf0 ++ ([]))
def s_impl_pairsOf (table : List (List Bool)) : Option ((Int × (List (List Int)))) :=
  (forC (S := (List (List Int))) (R := (Int × (List (List Int)))) (fun k109 s107 =>
  (idx table k109).bind fun x117 =>
  (forC (S := (List (List Int))) (R := (Int × (List (List Int)))) (fun k147 s145 =>
  (idx x117 k147).bind fun x155 =>
  (bif x155 then (app s145 ([[k109, k147]])).bind fun y163 =>
  some (.nx y163) else some (.nx s145))) 0 (x117.length : Int) s107).bind fun o149 => after o149 (fun r_ => some (.rt r_)) (fun s145 =>
  some (.nx s145))) 0 (table.length : Int) ([])).bind fun o111 => after o111 (fun r_ => some r_) (fun s107 =>
  some (2, s107))
set_option maxHeartbeats 4000000 in
theorem c_impl_pairsOf {M : Nat → Prop} {w : World} {pa0 : Option Addr} {pn0 pc0 : Nat} (table : List (List Bool)) (h0 : (RT.rs (RT.rs RT.bool)).val M w (.slice pa0 pn0 pc0) table ([])) (hM : ∀ g, w.heap.size ≤ g → M g) {r : (Int × (List (List Int)))} (hs : s_impl_pairsOf table = some r) :
    Gives Try.prog 80 [(.slice pa0 pn0 pc0)] w (fun v w' => ∃ (ra0 : Option Addr) (rn0 rc0 : Nat) (rf0 : List Nat), v = (.agg #[(.int .i64 r.1), (.slice ra0 rn0 rc0)]) ∧ Chg [] w w' ∧ (RT.os 22 (RT.os 3 (RT.int .i64))).val M w' (.slice ra0 rn0 rc0) r.2 rf0 ∧ Own (Nw w []) (fun _ => True) w' (rf0 ++ ([]))) := by
  refine calls_fr Try.func80 rfl Try.ntmps80 (Nat.le_of_ble_eq_true rfl) ?_
  have hO := Own.start (N := Nw w []) hM Nw.fut
  have hC := Chg.refl [] w
  unfold s_impl_pairsOf at hs
  refine wp_mono (Q := KPost (k_impl_pairsOf M w r)) ?_ (fun e a w1 h => ?_)
  rotate_left
  · cases e
    case ret =>
      obtain ⟨σ, rg2, ra0, rn0, rc0, rf0, rfl, hbrg2, hrest⟩ := h
      exact ret1x Try.results80 (res_cell rfl (box_load Ag31 Sz31 hbrg2 [] _ [] rfl rfl (fun h => nomatch h))) ⟨ra0, rn0, rc0, rf0, rfl, hrest⟩
    all_goals exact (h : False).elim
  refine c_seq ?_
  refine c_region ?_
  obtain ⟨w2, g2, ew2, eg2, hC2, hb2⟩ := new_block w [(.int .i64 0), (.slice none 0 0)] 31
  refine pl_val (w' := w2) (.pointer (some ⟨g2, 0, none⟩)) (y_alloc (by rw [ew2, eg2]; kernel_rfl)) ?_
  have h0 := h0.ext hC2
  have hC := hC.ext hC2
  have hO := hO.new (X' := [g2]) hC2 (fun q hq => by rw [List.mem_singleton.1 hq, eg2]; exact Nat.le_refl _) (List.nodup_cons.2 ⟨(fun h => nomatch h), List.nodup_nil⟩) (fun q hq => by rw [List.mem_singleton.1 hq]; exact hb2.lt)
  refine c_nil ?_
  refine c_seq ?_
  refine c_region ?_
  refine pl_val (.agg #[(.int .i64 2), (.slice none 0 0)]) (y_build rfl (by kernel_rfl)) ?_
  obtain ⟨w3, g3, ew3, eg3, hC3, hb3⟩ := new_block w2 [(.int .i64 0), (.slice none 0 0)] 31
  refine pl_val (w' := w3) (.pointer (some ⟨g3, 0, none⟩)) (y_alloc (by rw [ew3, eg3]; kernel_rfl)) ?_
  have h0 := h0.ext hC3
  have hb2 := hb2.chg hC3 (fun h => nomatch h)
  have hC := hC.ext hC3
  have hO := hO.new (X' := [g3]) hC3 (fun q hq => by rw [List.mem_singleton.1 hq, eg3]; exact Nat.le_refl _) (List.nodup_cons.2 ⟨(fun h => nomatch h), List.nodup_nil⟩) (fun q hq => by rw [List.mem_singleton.1 hq]; exact hb3.lt)
  obtain ⟨w4, hst4, hC4, hb4⟩ := box_store (P := Try.prog) hb3 [] [(.int .i64 0), (.slice none 0 0)] [] [(.int .i64 2), (.slice none 0 0)] rfl rfl (by intro u hu; simp only [List.mem_cons, List.not_mem_nil, or_false] at hu; rcases hu with rfl | rfl <;> rfl)
  refine pl_skip (w' := w4) (ys_store rfl rfl (hst4 _ _ rfl Sz31)) ?_
  have h0 := h0.mut hC4 (fun g hg => hO.inM g ((fun _ h => h) g hg)) (fun _ _ h => nomatch h)
  have hb2 := hb2.chg hC4 (fun hg => hO.apart _ ((fun _ h => h) _ hg) (mem_l (List.mem_singleton.2 rfl)))
  have hC := hC.step hC4 (fun g hg => hO.inN g ((fun _ h => h) g hg))
  have hO := hO.ext hC4
  have hb4 : BoxV w4 g3 31 [(.int .i64 2), (.slice none 0 0)] := hb4
  refine c_nil ?_
  refine c_seq ?_
  refine c_seq ?_
  refine c_region ?_
  refine pl_val (.slice pa0 pn0 pc0) (y_move rfl) ?_
  refine pl_val (.int .i64 (table.length : Int)) (y_len' Sl100 (rs_len h0) rfl) ?_
  refine pl_val (.int .i64 0) (y_move rfl) ?_
  refine c_nil ?_
  obtain ⟨o111, hl112, hs⟩ := bind_some hs
  refine wp_block ?_
  refine wp_forC (id := 0) (table.length : Int) (I := fun k109 s107 a w108 => ∃ (σ : Nat → Value) (a113 : Option Addr) (n113 : Nat) (c113 : Nat) (f113 : List Nat), a = fr 35 (ovl σ [(2, (.pointer (some ⟨g2, 0, none⟩))), (3, (.pointer (some ⟨g3, 0, none⟩))), (9, (.slice pa0 pn0 pc0)), (10, (.int .i64 (table.length : Int))), (11, (.int .i64 k109))]) ∧ Chg [] w w108 ∧ Own (Nw w []) M w108 (f113 ++ (([g3]) ++ (([g2]) ++ []))) ∧ (RT.rs (RT.rs RT.bool)).val M w108 (.slice pa0 pn0 pc0) table ([]) ∧ BoxV w108 g2 31 [(.int .i64 0), (.slice none 0 0)] ∧ BoxV w108 g3 31 [(.int .i64 2), (.slice a113 n113 c113)] ∧ (RT.os 22 (RT.os 3 (RT.int .i64))).val M w108 (.slice a113 n113 c113) s107 f113) (J := fun s107 a w108 => ∃ (σ : Nat → Value) (a115 : Option Addr) (n115 : Nat) (c115 : Nat) (f115 : List Nat), a = fr 35 (ovl σ [(2, (.pointer (some ⟨g2, 0, none⟩))), (3, (.pointer (some ⟨g3, 0, none⟩)))]) ∧ Chg [] w w108 ∧ Own (Nw w []) M w108 (f115 ++ (([g3]) ++ (([g2]) ++ []))) ∧ (RT.rs (RT.rs RT.bool)).val M w108 (.slice pa0 pn0 pc0) table ([]) ∧ BoxV w108 g2 31 [(.int .i64 0), (.slice none 0 0)] ∧ BoxV w108 g3 31 [(.int .i64 2), (.slice a115 n115 c115)] ∧ (RT.os 22 (RT.os 3 (RT.int .i64))).val M w108 (.slice a115 n115 c115) s107 f115) (K := (k_impl_pairsOf M w)) ?_ ?_ 0 ([]) o111 _ _ ?_ hl112 ?_
  · rintro k109 s107 a w108 ⟨σ, a113, n113, c113, f113, rfl, hC, hO, h0, hb2, hb4, hv113⟩ hlt
    refine c_seq ?_
    refine c_region ?_
    refine pl_val (.bool (decide (k109 < (table.length : Int)))) (y_lss rfl rfl) ?_
    refine c_nil ?_
    refine c_seq ?_
    refine c_condF (congrArg Value.bool (decide_eq_false hlt)) ?_
    refine wp_exit ?_
    have hO := hO.fr2
    have hO := hO.fr2
    have hO := hO.fr2
    exact ⟨rfl, _, a113, n113, c113, f113, fr_ovl 35 ⟨rfl, rfl, trivial⟩, hC, hO, h0, hb2, hb4, hv113⟩
  · rintro k109 s107 o111 a w108 ⟨σ, a113, n113, c113, f113, rfl, hC, hO, h0, hb2, hb4, hv113⟩ hlt hw hs
    refine c_seq ?_
    refine c_region ?_
    refine pl_val (.bool (decide (k109 < (table.length : Int)))) (y_lss rfl rfl) ?_
    refine c_nil ?_
    refine c_seq ?_
    refine c_condT (congrArg Value.bool (decide_eq_true hlt)) ?_
    refine wp_skip ?_
    refine c_seq ?_
    refine wp_block ?_
    refine c_seq ?_
    refine c_region ?_
    refine pl_val (.int .i64 k109) (y_move rfl) ?_
    obtain ⟨x117, hx117, hs⟩ := bind_some hs
    obtain ⟨b118, o118, hp118, ha118⟩ := rs_idx Sl100 Sz57 h0 hx117
    refine pl_val (.pointer (some ⟨b118, o118, none⟩)) (hp118 _ _ _ _ _ _ _ _ _ rfl rfl) ?_
    obtain ⟨v119, hl119, hv119⟩ := at_load Ag57 Sz57 (fun _ => rfl) ha118
    obtain ⟨a119, n119, c119, rfl⟩ := rs_sl hv119
    refine pl_val (.slice a119 n119 c119) (y_load rfl (hl119 _ (Chg.refl _ _))) ?_
    refine pl_val (.int .i64 k109) (y_assign rfl) ?_
    refine pl_val (.slice a119 n119 c119) (y_assign rfl) ?_
    refine c_nil ?_
    refine c_seq ?_
    refine c_region ?_
    refine pl_val (.slice a119 n119 c119) (y_move rfl) ?_
    refine pl_val (.int .i64 (x117.length : Int)) (y_len' Sl57 (rs_len hv119) rfl) ?_
    refine pl_val (.int .i64 0) (y_move rfl) ?_
    refine c_nil ?_
    obtain ⟨o149, hl150, hs⟩ := bind_some hs
    refine wp_block ?_
    refine wp_forC (id := 2) (x117.length : Int) (I := fun k147 s145 a w146 => ∃ (σ : Nat → Value) (a151 : Option Addr) (n151 : Nat) (c151 : Nat) (f151 : List Nat), a = fr 35 (ovl σ [(2, (.pointer (some ⟨g2, 0, none⟩))), (3, (.pointer (some ⟨g3, 0, none⟩))), (4, (.int .i64 k109)), (9, (.slice pa0 pn0 pc0)), (10, (.int .i64 (table.length : Int))), (11, (.int .i64 k109)), (16, (.slice a119 n119 c119)), (17, (.int .i64 (x117.length : Int))), (18, (.int .i64 k147))]) ∧ Chg [] w w146 ∧ Own (Nw w []) M w146 (f151 ++ (([g3]) ++ (([g2]) ++ []))) ∧ (RT.rs (RT.rs RT.bool)).val M w146 (.slice pa0 pn0 pc0) table ([]) ∧ BoxV w146 g2 31 [(.int .i64 0), (.slice none 0 0)] ∧ BoxV w146 g3 31 [(.int .i64 2), (.slice a151 n151 c151)] ∧ (RT.rs RT.bool).val M w146 (.slice a119 n119 c119) x117 ([]) ∧ (RT.os 22 (RT.os 3 (RT.int .i64))).val M w146 (.slice a151 n151 c151) s145 f151) (J := fun s145 a w146 => ∃ (σ : Nat → Value) (a153 : Option Addr) (n153 : Nat) (c153 : Nat) (f153 : List Nat), a = fr 35 (ovl σ [(2, (.pointer (some ⟨g2, 0, none⟩))), (3, (.pointer (some ⟨g3, 0, none⟩))), (9, (.slice pa0 pn0 pc0)), (10, (.int .i64 (table.length : Int))), (11, (.int .i64 k109))]) ∧ Chg [] w w146 ∧ Own (Nw w []) M w146 (f153 ++ (([g3]) ++ (([g2]) ++ []))) ∧ (RT.rs (RT.rs RT.bool)).val M w146 (.slice pa0 pn0 pc0) table ([]) ∧ BoxV w146 g2 31 [(.int .i64 0), (.slice none 0 0)] ∧ BoxV w146 g3 31 [(.int .i64 2), (.slice a153 n153 c153)] ∧ (RT.rs RT.bool).val M w146 (.slice a119 n119 c119) x117 ([]) ∧ (RT.os 22 (RT.os 3 (RT.int .i64))).val M w146 (.slice a153 n153 c153) s145 f153) (K := (k_impl_pairsOf M w)) ?_ ?_ 0 s107 o149 _ _ ?_ hl150 ?_
    · rintro k147 s145 a w146 ⟨σ, a151, n151, c151, f151, rfl, hC, hO, h0, hb2, hb4, hv119, hv151⟩ hlt
      refine c_seq ?_
      refine c_region ?_
      refine pl_val (.bool (decide (k147 < (x117.length : Int)))) (y_lss rfl rfl) ?_
      refine c_nil ?_
      refine c_seq ?_
      refine c_condF (congrArg Value.bool (decide_eq_false hlt)) ?_
      refine wp_exit ?_
      have hO := hO.fr2
      have hO := hO.fr2
      have hO := hO.fr2
      exact ⟨rfl, _, a151, n151, c151, f151, fr_ovl 35 ⟨rfl, rfl, rfl, rfl, rfl, trivial⟩, hC, hO, h0, hb2, hb4, hv119, hv151⟩
    · rintro k147 s145 o149 a w146 ⟨σ, a151, n151, c151, f151, rfl, hC, hO, h0, hb2, hb4, hv119, hv151⟩ hlt hw hs
      refine c_seq ?_
      refine c_region ?_
      refine pl_val (.bool (decide (k147 < (x117.length : Int)))) (y_lss rfl rfl) ?_
      refine c_nil ?_
      refine c_seq ?_
      refine c_condT (congrArg Value.bool (decide_eq_true hlt)) ?_
      refine wp_skip ?_
      refine c_seq ?_
      refine wp_block ?_
      refine c_seq ?_
      refine c_region ?_
      refine pl_val (.int .i64 k147) (y_move rfl) ?_
      obtain ⟨x155, hx155, hs⟩ := bind_some hs
      obtain ⟨b156, o156, hp156, ha156⟩ := rs_idx Sl57 Sz4 hv119 hx155
      refine pl_val (.pointer (some ⟨b156, o156, none⟩)) (hp156 _ _ _ _ _ _ _ _ _ rfl rfl) ?_
      refine pl_val (.bool x155) (y_load rfl ((at_load_bool Ag4 Sz4 ha156) _ (Chg.refl _ _))) ?_
      refine pl_val (.int .i64 k147) (y_assign rfl) ?_
      refine pl_val (.bool x155) (y_assign rfl) ?_
      refine c_nil ?_
      refine c_seq ?_
      refine c_region ?_
      refine pl_val (.bool x155) (y_move rfl) ?_
      refine c_nil ?_
      rcases bif_some hs with ⟨hc157, hs⟩ | ⟨hc157, hs⟩
      · skip
        refine c_condT (congrArg Value.bool hc157) ?_
        refine c_region ?_
        refine pl_val (.pointer (some ⟨g3, 1, none⟩)) (y_faddr rfl Fa31x1) ?_
        refine pl_val (.slice a151 n151 c151) (y_load rfl ((box_load Ag29 Sz29 hb4 [(.int .i64 2)] [(.slice a151 n151 c151)] [] rfl rfl (fun _ => rfl)) _ (Chg.refl _ _))) ?_
        refine pl_val (.int .i64 k109) (y_move rfl) ?_
        refine pl_val (.int .i64 k147) (y_move rfl) ?_
        obtain ⟨w158, g158, ew158, eg158, hC158, hb158⟩ := new_block w146 [(.int .i64 k109), (.int .i64 k147)] 3
        refine pl_val (w' := w158) (.slice (some ⟨g158, 0, none⟩) 2 2) (y_bslice rfl (by rw [ew158, eg158]; kernel_rfl)) ?_
        have h0 := h0.ext hC158
        have hb2 := hb2.chg hC158 (fun h => nomatch h)
        have hb4 := hb4.chg hC158 (fun h => nomatch h)
        have hv119 := hv119.ext hC158
        have hv151 := hv151.ext hC158
        have hC := hC.ext hC158
        have hO := hO.new (X' := [g158]) hC158 (fun q hq => by rw [List.mem_singleton.1 hq, eg158]; exact Nat.le_refl _) (List.nodup_cons.2 ⟨(fun h => nomatch h), List.nodup_nil⟩) (fun q hq => by rw [List.mem_singleton.1 hq]; exact hb158.lt)
        have hv158 := os_of_box (r := (RT.int .i64)) (M := M) (css := [[(.int .i64 k109)], [(.int .i64 k147)]]) (fps := [([] : List Nat), ([] : List Nat)]) (xs := ([k109, k147] : List Int)) hb158 ⟨⟨rfl, rfl⟩, ⟨⟨rfl, rfl⟩, trivial⟩⟩ (Nat.le_of_ble_eq_true rfl) (List.nodup_cons.2 ⟨(fun h => nomatch h), List.nodup_nil⟩)
        have hv158 : (RT.os 3 (RT.int .i64)).val M w158 (.slice (some ⟨g158, 0, none⟩) 2 2) [k109, k147] [g158] := hv158
        obtain ⟨w160, g160, ew160, eg160, hC160, hb160⟩ := new_block w158 [(.slice (some ⟨g158, 0, none⟩) 2 2)] 22
        refine pl_val (w' := w160) (.slice (some ⟨g160, 0, none⟩) 1 1) (y_bslice rfl (by rw [ew160, eg160]; kernel_rfl)) ?_
        have h0 := h0.ext hC160
        have hb2 := hb2.chg hC160 (fun h => nomatch h)
        have hb4 := hb4.chg hC160 (fun h => nomatch h)
        have hv119 := hv119.ext hC160
        have hv151 := hv151.ext hC160
        have hv158 := hv158.ext hC160
        have hC := hC.ext hC160
        have hO := hO.new (X' := [g160]) hC160 (fun q hq => by rw [List.mem_singleton.1 hq, eg160]; exact Nat.le_refl _) (List.nodup_cons.2 ⟨(fun h => nomatch h), List.nodup_nil⟩) (fun q hq => by rw [List.mem_singleton.1 hq]; exact hb160.lt)
        have hO := hO.perm (R := (g160 :: ((([g158])) ++ ([]))) ++ (f151 ++ (([g3]) ++ (([g2]) ++ ([]))))) (by simp)
        have hnd160 := hO.nd
        have hv160 := os_of_box (r := (RT.os 3 (RT.int .i64))) (M := M) (css := [[(.slice (some ⟨g158, 0, none⟩) 2 2)]]) (fps := [([g158] : List Nat)]) (xs := ([[k109, k147]] : List (List Int))) hb160 ⟨(os_unval hv158), trivial⟩ (Nat.le_of_ble_eq_true rfl) hnd160
        have hv160 : (RT.os 22 (RT.os 3 (RT.int .i64))).val M w160 (.slice (some ⟨g160, 0, none⟩) 1 1) [[k109, k147]] (g160 :: ((([g158])) ++ ([]))) := hv160
        obtain ⟨y163, hy163, hs⟩ := bind_some hs
        have hO := hO.fr1
        obtain ⟨a162, n162, c162, w162, f162, hr162, hC162, hf162, hv162⟩ := app_os Rw29 hy163 hv151 hv160 hO.inM (fun g hg hq => hO.apart g hq (mem_l hg))
        have hG162 := os_block hv151
        refine pl_val (w' := w162) (.slice a162 n162 c162) (y_append rfl rfl (hr162 _)) ?_
        have hO := hO.fr1
        have hO := hO.fr1
        have h0 := h0.mut hC162 (fun g hg => hO.inM g (hG162 g hg)) (fun _ _ h => nomatch h)
        have hb2 := hb2.chg hC162 (fun hg => hO.apart _ (hG162 _ hg) (mem_r (mem_r (mem_l (List.mem_singleton.2 rfl)))))
        have hb4 := hb4.chg hC162 (fun hg => hO.apart _ (hG162 _ hg) (mem_r (mem_l (List.mem_singleton.2 rfl))))
        have hv119 := hv119.mut hC162 (fun g hg => hO.inM g (hG162 g hg)) (fun _ _ h => nomatch h)
        have hC := hC.step hC162 (fun g hg => hO.inN g (hG162 g hg))
        have hO := hO.eat hC162 hf162 (os_nodup hv162) hv162.fpl
        refine pl_val (.pointer (some ⟨g3, 1, none⟩)) (y_faddr rfl Fa31x1) ?_
        obtain ⟨w165, hst165, hC165, hb165⟩ := box_store (P := Try.prog) hb4 [(.int .i64 2)] [(.slice a151 n151 c151)] [] [(.slice a162 n162 c162)] rfl rfl (by intro u hu; simp only [List.mem_cons, List.not_mem_nil, or_false] at hu; rcases hu with rfl <;> rfl)
        refine pl_skip (w' := w165) (ys_store rfl rfl (hst165 _ _ rfl Sz29)) ?_
        have hO := hO.fr1
        have h0 := h0.mut hC165 (fun g hg => hO.inM g ((fun _ h => h) g hg)) (fun _ _ h => nomatch h)
        have hb2 := hb2.chg hC165 (fun hg => hO.apart _ ((fun _ h => h) _ hg) (mem_r (mem_l (List.mem_singleton.2 rfl))))
        have hv119 := hv119.mut hC165 (fun g hg => hO.inM g ((fun _ h => h) g hg)) (fun _ _ h => nomatch h)
        have hv162 := hv162.mut hC165 (fun g hg => hO.inM g ((fun _ h => h) g hg)) (fun g hg e => hO.apart g ((fun _ h => h) g hg) (mem_l (e)))
        have hC := hC.step hC165 (fun g hg => hO.inN g ((fun _ h => h) g hg))
        have hO := hO.ext hC165
        have hb165 : BoxV w165 g3 31 [(.int .i64 2), (.slice a162 n162 c162)] := hb165
        refine c_nil ?_
        refine c_region ?_
        refine pl_val (.int .i64 (w64 (k147 + 1))) (y_add rfl rfl) ?_
        refine pl_val (.int .i64 (w64 (k147 + 1))) (y_move rfl) ?_
        refine c_nil ?_
        cases hs
        have hO := hO.fr2
        have hO := hO.fr1
        have hO := hO.fr2
        exact ⟨_, a162, n162, c162, f162, fr_ovl 35 ⟨rfl, rfl, rfl, rfl, rfl, rfl, rfl, rfl, congrArg (Value.int .i64) hw, trivial⟩, hC, hO, h0, hb2, hb165, hv119, hv162⟩
      · skip
        refine c_condF (congrArg Value.bool hc157) ?_
        refine wp_skip ?_
        refine c_region ?_
        refine pl_val (.int .i64 (w64 (k147 + 1))) (y_add rfl rfl) ?_
        refine pl_val (.int .i64 (w64 (k147 + 1))) (y_move rfl) ?_
        refine c_nil ?_
        cases hs
        have hO := hO.fr2
        have hO := hO.fr2
        have hO := hO.fr2
        exact ⟨_, a151, n151, c151, f151, fr_ovl 35 ⟨rfl, rfl, rfl, rfl, rfl, rfl, rfl, rfl, congrArg (Value.int .i64) hw, trivial⟩, hC, hO, h0, hb2, hb4, hv119, hv151⟩
    · skip
      have hO := hO.fr2
      have hO := hO.fr2
      have hO := hO.fr2
      exact ⟨_, a113, n113, c113, f113, fr_ovl 35 ⟨rfl, rfl, rfl, rfl, rfl, rfl, rfl, rfl, rfl, trivial⟩, hC, hO, h0, hb2, hb4, hv119, hv113⟩
    · cases o149 with
      | nx _ => exact True.intro
      | rt r_ =>
        have hs := after_rt hs
        intro a1 w1 hK
        cases hs
        exact hK
      | br s145 =>
        have hs := after_br hs
        rintro a1 w146 ⟨σ, a153, n153, c153, f153, rfl, hC, hO, h0, hb2, hb4, hv119, hv153⟩
        refine c_region ?_
        refine pl_val (.int .i64 (w64 (k109 + 1))) (y_add rfl rfl) ?_
        refine pl_val (.int .i64 (w64 (k109 + 1))) (y_move rfl) ?_
        refine c_nil ?_
        cases hs
        have hO := hO.fr2
        have hO := hO.fr2
        have hO := hO.fr2
        exact ⟨_, a153, n153, c153, f153, fr_ovl 35 ⟨rfl, rfl, rfl, rfl, congrArg (Value.int .i64) hw, trivial⟩, hC, hO, h0, hb2, hb4, hv153⟩
  · skip
    have hO := hO.fr1
    have hO := hO.fr1
    have hO := hO.nil
    exact ⟨_, none, 0, 0, [], fr_ovl 35 ⟨rfl, rfl, rfl, rfl, rfl, trivial⟩, hC, hO, h0, hb2, hb4, os_nil⟩
  · cases o111 with
    | nx _ => exact True.intro
    | rt r_ =>
      have hs := after_rt hs
      intro a1 w1 hK
      cases hs
      exact hK
    | br s107 =>
      have hs := after_br hs
      rintro a1 w108 ⟨σ, a115, n115, c115, f115, rfl, hC, hO, h0, hb2, hb4, hv115⟩
      refine c_seq ?_
      refine c_region ?_
      refine pl_val (.agg #[(.int .i64 2), (.slice a115 n115 c115)]) (y_load rfl ((box_load Ag31 Sz31 hb4 [] [(.int .i64 2), (.slice a115 n115 c115)] [] rfl rfl (fun h => nomatch h)) _ (Chg.refl _ _))) ?_
      obtain ⟨w166, hst166, hC166, hb166⟩ := box_store (P := Try.prog) hb2 [] [(.int .i64 0), (.slice none 0 0)] [] [(.int .i64 2), (.slice a115 n115 c115)] rfl rfl (by intro u hu; simp only [List.mem_cons, List.not_mem_nil, or_false] at hu; rcases hu with rfl | rfl <;> rfl)
      refine pl_skip (w' := w166) (ys_store rfl rfl (hst166 _ _ rfl Sz31)) ?_
      have hO := hO.fr2
      have h0 := h0.mut hC166 (fun g hg => hO.inM g ((fun _ h => h) g hg)) (fun _ _ h => nomatch h)
      have hb4 := hb4.chg hC166 (fun hg => hO.apart _ ((fun _ h => h) _ hg) (mem_r (mem_l (List.mem_singleton.2 rfl))))
      have hv115 := hv115.mut hC166 (fun g hg => hO.inM g ((fun _ h => h) g hg)) (fun g hg e => hO.apart g ((fun _ h => h) g hg) (mem_l (e)))
      have hC := hC.step hC166 (fun g hg => hO.inN g ((fun _ h => h) g hg))
      have hO := hO.ext hC166
      have hb166 : BoxV w166 g2 31 [(.int .i64 2), (.slice a115 n115 c115)] := hb166
      refine c_nil ?_
      refine wp_ret ?_
      cases hs
      have hO := hO.drop
      have hO := hO.fr1
      have hO := hO.drop
      exact ⟨_, g2, a115, n115, c115, f115, fr_ovl 35 ⟨rfl, trivial⟩, hb166, hC, hv115, hO.top⟩

theorem Bd78 : Bodied Try.prog 78 := bodied Try.func78 (by kernel_rfl) rfl

theorem Bd81 : Bodied Try.prog 81 := bodied Try.func81 (by kernel_rfl) rfl

theorem Bd80 : Bodied Try.prog 80 := bodied Try.func80 (by kernel_rfl) rfl

def k_impl_ProductOfPartitions (M : Nat → Prop) (w0 : World) (r : (Int × (List (List Int))) × Bool) (a : Act) (w : World) : Prop :=
  ∃ (σ : Nat → Value) (rg6 : Nat) (ra0 : Option Addr) (rn0 rc0 : Nat) (rf0 : List Nat), a = fr 18 (ovl σ [(6, (.pointer (some ⟨rg6, 0, none⟩))), (7, (.bool r.2))]) ∧ BoxV w rg6 31 [(.int .i64 r.1.1), (.slice ra0 rn0 rc0)] ∧ Chg [] w0 w ∧ (RT.os 22 (RT.os 3 (RT.int .i64))).val M w (.slice ra0 rn0 rc0) r.1.2 rf0 ∧ Own (Nw w0 []) (fun _ => True) w (rf0 ++ ([]))
def s_impl_ProductOfPartitions (n : Int) (p : List Int) (q : List Int) : Option ((Int × (List (List Int))) × Bool) :=
  (s_impl_arePartitions n p q).bind fun r5 =>
  (bif (!r5) then some ((0, []), false) else (s_impl_productTable p q).bind fun r9 =>
  (s_impl_pairsOf r9).bind fun r12 =>
  some ((r12.1, r12.2), true))
set_option maxHeartbeats 4000000 in
theorem c_impl_ProductOfPartitions {M : Nat → Prop} {w : World} {pa0 : Option Addr} {pn0 pc0 : Nat} {pa1 : Option Addr} {pn1 pc1 : Nat} (n : Int) (p : List Int) (q : List Int) (h0 : (RT.rs (RT.int .i64)).val M w (.slice pa0 pn0 pc0) p ([])) (h1 : (RT.rs (RT.int .i64)).val M w (.slice pa1 pn1 pc1) q ([])) (hM : ∀ g, w.heap.size ≤ g → M g) {r : (Int × (List (List Int))) × Bool} (hs : s_impl_ProductOfPartitions n p q = some r) :
    Gives Try.prog 22 [(.int .i64 n), (.slice pa0 pn0 pc0), (.slice pa1 pn1 pc1)] w (fun v w' => ∃ (ra0 : Option Addr) (rn0 rc0 : Nat) (rf0 : List Nat), v = (.tuple #[(.agg #[(.int .i64 r.1.1), (.slice ra0 rn0 rc0)]), (.bool r.2)]) ∧ Chg [] w w' ∧ (RT.os 22 (RT.os 3 (RT.int .i64))).val M w' (.slice ra0 rn0 rc0) r.1.2 rf0 ∧ Own (Nw w []) (fun _ => True) w' (rf0 ++ ([]))) := by
  refine calls_fr Try.func22 rfl Try.ntmps22 (Nat.le_of_ble_eq_true rfl) ?_
  have hO := Own.start (N := Nw w []) hM Nw.fut
  have hC := Chg.refl [] w
  unfold s_impl_ProductOfPartitions at hs
  refine wp_mono (Q := KPost (k_impl_ProductOfPartitions M w r)) ?_ (fun e a w1 h => ?_)
  rotate_left
  · cases e
    case ret =>
      obtain ⟨σ, rg6, ra0, rn0, rc0, rf0, rfl, hbrg6, hrest⟩ := h
      exact ret2x Try.results22 (res_cell rfl (box_load Ag31 Sz31 hbrg6 [] _ [] rfl rfl (fun h => nomatch h))) (res_tmp rfl) ⟨ra0, rn0, rc0, rf0, rfl, hrest⟩
    all_goals exact (h : False).elim
  refine c_seq ?_
  refine c_region ?_
  obtain ⟨w3, g3, ew3, eg3, hC3, hb3⟩ := new_block w [(.int .i64 0), (.slice none 0 0)] 31
  refine pl_val (w' := w3) (.pointer (some ⟨g3, 0, none⟩)) (y_alloc (by rw [ew3, eg3]; kernel_rfl)) ?_
  have h0 := h0.ext hC3
  have h1 := h1.ext hC3
  have hC := hC.ext hC3
  have hO := hO.new (X' := [g3]) hC3 (fun q hq => by rw [List.mem_singleton.1 hq, eg3]; exact Nat.le_refl _) (List.nodup_cons.2 ⟨(fun h => nomatch h), List.nodup_nil⟩) (fun q hq => by rw [List.mem_singleton.1 hq]; exact hb3.lt)
  refine pl_val (.bool false) (y_assign rfl) ?_
  refine c_nil ?_
  refine c_seq ?_
  refine c_seq ?_
  refine c_region ?_
  refine pl_val (.int .i64 n) (y_move rfl) ?_
  refine pl_val (.slice pa0 pn0 pc0) (y_move rfl) ?_
  refine pl_val (.slice pa1 pn1 pc1) (y_move rfl) ?_
  obtain ⟨r5, hr5, hs⟩ := bind_some hs
  refine pl_call Bd78 rfl (c_impl_arePartitions (M := M) n p q h0 h1 hO.fut hr5) ?_
  rintro _ w4 ⟨rfl, hC4⟩
  have h0 := h0.ext hC4
  have h1 := h1.ext hC4
  have hb3 := hb3.chg hC4 (fun h => nomatch h)
  have hC := hC.ext hC4
  have hO := hO.ext hC4
  refine pl_val (.bool (!r5)) (y_not rfl) ?_
  refine c_nil ?_
  rcases bif_some hs with ⟨hc6, hs⟩ | ⟨hc6, hs⟩
  · skip
    refine c_condT (congrArg Value.bool hc6) ?_
    refine c_seq ?_
    refine c_region ?_
    refine pl_val (.agg #[(.int .i64 0), (.slice none 0 0)]) (y_build rfl (by kernel_rfl)) ?_
    obtain ⟨w7, hst7, hC7, hb7⟩ := box_store (P := Try.prog) hb3 [] [(.int .i64 0), (.slice none 0 0)] [] [(.int .i64 0), (.slice none 0 0)] rfl rfl (by intro u hu; simp only [List.mem_cons, List.not_mem_nil, or_false] at hu; rcases hu with rfl | rfl <;> rfl)
    refine pl_skip (w' := w7) (ys_store rfl rfl (hst7 _ _ rfl Sz31)) ?_
    have h0 := h0.mut hC7 (fun g hg => hO.inM g ((fun _ h => h) g hg)) (fun _ _ h => nomatch h)
    have h1 := h1.mut hC7 (fun g hg => hO.inM g ((fun _ h => h) g hg)) (fun _ _ h => nomatch h)
    have hC := hC.step hC7 (fun g hg => hO.inN g ((fun _ h => h) g hg))
    have hO := hO.ext hC7
    have hb7 : BoxV w7 g3 31 [(.int .i64 0), (.slice none 0 0)] := hb7
    refine pl_val (.bool false) (y_assign rfl) ?_
    refine c_nil ?_
    refine wp_ret ?_
    cases hs
    have hO := hO.drop
    have hO := hO.nil
    exact ⟨_, g3, none, 0, 0, [], fr_ovl 18 ⟨rfl, rfl, trivial⟩, hb7, hC, os_nil, hO.top⟩
  · skip
    refine c_condF (congrArg Value.bool hc6) ?_
    refine wp_skip ?_
    refine c_seq ?_
    refine c_region ?_
    refine pl_val (.slice pa0 pn0 pc0) (y_move rfl) ?_
    refine pl_val (.slice pa1 pn1 pc1) (y_move rfl) ?_
    obtain ⟨r9, hr9, hs⟩ := bind_some hs
    refine pl_call Bd81 rfl (c_impl_productTable (M := M) p q h0 h1 hO.fut hr9) ?_
    rintro _ w8 ⟨a8x0, n8x0, c8x0, f8x0, rfl, hC8, hv8x0, hOc8⟩
    have h0 := h0.ext hC8
    have h1 := h1.ext hC8
    have hb3 := hb3.chg hC8 (fun h => nomatch h)
    have hC := hC.ext hC8
    have hO := Own.join0 hO hC8 hOc8
    have hO := hO.perm (R := f8x0 ++ (([g3]) ++ ([]))) (by simp)
    obtain ⟨r12, hr12, hs⟩ := bind_some hs
    refine pl_call Bd80 rfl (c_impl_pairsOf (M := (Less M f8x0)) r9 (((Frz.os (Frz.os Frz.bool))).val hv8x0 Less.sub Less.not) hO.less.fut hr12) ?_
    rintro _ w11 ⟨a11x0, n11x0, c11x0, f11x0, rfl, hC11, hv11x0, hOc11⟩
    have h0 := h0.ext hC11
    have h1 := h1.ext hC11
    have hb3 := hb3.chg hC11 (fun h => nomatch h)
    have hv8x0 := hv8x0.ext hC11
    have hC := hC.ext hC11
    have hO := Own.join0 hO hC11 hOc11
    have hO := hO.perm (R := f11x0 ++ (f8x0 ++ (([g3]) ++ ([])))) (by simp)
    have hv11x0 := hv11x0.free (M' := M) (Free.os (Free.os Free.int))
    obtain ⟨w14, hst14, hC14, hb14⟩ := box_store (P := Try.prog) hb3 [] [(.int .i64 0), (.slice none 0 0)] [] [(.int .i64 r12.1), (.slice a11x0 n11x0 c11x0)] rfl rfl (by intro u hu; simp only [List.mem_cons, List.not_mem_nil, or_false] at hu; rcases hu with rfl | rfl <;> rfl)
    refine pl_skip (w' := w14) (ys_store rfl rfl (hst14 _ _ rfl Sz31)) ?_
    have hO := hO.fr2
    have h0 := h0.mut hC14 (fun g hg => hO.inM g ((fun _ h => h) g hg)) (fun _ _ h => nomatch h)
    have h1 := h1.mut hC14 (fun g hg => hO.inM g ((fun _ h => h) g hg)) (fun _ _ h => nomatch h)
    have hv8x0 := hv8x0.mut hC14 (fun g hg => hO.inM g ((fun _ h => h) g hg)) (fun g hg e => hO.apart g ((fun _ h => h) g hg) (mem_r (mem_l (e))))
    have hv11x0 := hv11x0.mut hC14 (fun g hg => hO.inM g ((fun _ h => h) g hg)) (fun g hg e => hO.apart g ((fun _ h => h) g hg) (mem_l (e)))
    have hC := hC.step hC14 (fun g hg => hO.inN g ((fun _ h => h) g hg))
    have hO := hO.ext hC14
    have hb14 : BoxV w14 g3 31 [(.int .i64 r12.1), (.slice a11x0 n11x0 c11x0)] := hb14
    refine pl_val (.bool true) (y_assign rfl) ?_
    refine c_nil ?_
    refine wp_ret ?_
    cases hs
    have hO := hO.drop
    have hO := hO.fr1
    have hO := hO.drop
    exact ⟨_, g3, a11x0, n11x0, c11x0, f11x0, fr_ovl 18 ⟨rfl, rfl, trivial⟩, hb14, hC, hv11x0, hO.top⟩

def k_laws_eqIntS (M : Nat → Prop) (w0 : World) (r : Bool) (a : Act) (w : World) : Prop :=
  ∃ (σ : Nat → Value) , a = fr 26 (ovl σ [(4, (.bool r))]) ∧ Chg [] w0 w
def s_laws_eqIntS (a_ : List Int) (b : List Int) : Option (Bool) :=
  (bif ((a_.length : Int) != (b.length : Int)) then some false else (forC (S := Unit) (R := Bool) (fun k12 s10 =>
  (idx a_ k12).bind fun x17 =>
  (idx b k12).bind fun x19 =>
  (bif (x17 != x19) then some (.rt false) else some (.nx ()))) 0 (a_.length : Int) ()).bind fun o14 => after o14 (fun r_ => some r_) (fun s10 =>
  some true))
set_option maxHeartbeats 4000000 in
theorem c_laws_eqIntS {M : Nat → Prop} {w : World} {pa0 : Option Addr} {pn0 pc0 : Nat} {pa1 : Option Addr} {pn1 pc1 : Nat} (a_ : List Int) (b : List Int) (h0 : (RT.rs (RT.int .i64)).val M w (.slice pa0 pn0 pc0) a_ ([])) (h1 : (RT.rs (RT.int .i64)).val M w (.slice pa1 pn1 pc1) b ([])) (hM : ∀ g, w.heap.size ≤ g → M g) {r : Bool} (hs : s_laws_eqIntS a_ b = some r) :
    Gives Try.prog 18 [(.slice pa0 pn0 pc0), (.slice pa1 pn1 pc1)] w (fun v w' => v = (.bool r) ∧ Chg [] w w') := by
  refine calls_fr Try.func18 rfl Try.ntmps18 (Nat.le_of_ble_eq_true rfl) ?_
  have hO := Own.start (N := Nw w []) hM Nw.fut
  have hC := Chg.refl [] w
  unfold s_laws_eqIntS at hs
  refine wp_mono (Q := KPost (k_laws_eqIntS M w r)) ?_ (fun e a w1 h => ?_)
  rotate_left
  · cases e
    case ret =>
      obtain ⟨σ, rfl, hrest⟩ := h
      exact ret1x Try.results18 (res_tmp rfl) ⟨rfl, hrest⟩
    all_goals exact (h : False).elim
  refine c_seq ?_
  refine c_region ?_
  refine pl_val (.bool false) (y_assign rfl) ?_
  refine c_nil ?_
  refine c_seq ?_
  refine c_seq ?_
  refine c_region ?_
  refine pl_val (.slice pa0 pn0 pc0) (y_move rfl) ?_
  refine pl_val (.int .i64 (a_.length : Int)) (y_len' Sl22 (rs_len h0) rfl) ?_
  refine pl_val (.slice pa1 pn1 pc1) (y_move rfl) ?_
  refine pl_val (.int .i64 (b.length : Int)) (y_len' Sl22 (rs_len h1) rfl) ?_
  refine pl_val (.bool ((a_.length : Int) != (b.length : Int))) (y_neq rfl rfl) ?_
  refine c_nil ?_
  rcases bif_some hs with ⟨hc3, hs⟩ | ⟨hc3, hs⟩
  · skip
    refine c_condT (congrArg Value.bool hc3) ?_
    refine c_seq ?_
    refine c_region ?_
    refine pl_val (.bool false) (y_assign rfl) ?_
    refine c_nil ?_
    refine wp_ret ?_
    cases hs
    exact ⟨_, fr_ovl 26 ⟨rfl, trivial⟩, hC⟩
  · skip
    refine c_condF (congrArg Value.bool hc3) ?_
    refine wp_skip ?_
    refine c_seq ?_
    refine c_seq ?_
    refine c_region ?_
    refine pl_val (.int .i64 0) (y_assign rfl) ?_
    refine c_nil ?_
    obtain ⟨o14, hl15, hs⟩ := bind_some hs
    refine wp_block ?_
    refine wp_forC (id := 0) (a_.length : Int) (I := fun k12 s10 a w11 => ∃ (σ : Nat → Value), a = fr 26 (ovl σ [(0, (.slice pa0 pn0 pc0)), (1, (.slice pa1 pn1 pc1)), (5, (.int .i64 k12))]) ∧ Chg [] w w11 ∧ Own (Nw w []) M w11 ([]) ∧ (RT.rs (RT.int .i64)).val M w11 (.slice pa0 pn0 pc0) a_ ([]) ∧ (RT.rs (RT.int .i64)).val M w11 (.slice pa1 pn1 pc1) b ([])) (J := fun s10 a w11 => ∃ (σ : Nat → Value), a = fr 26 (ovl σ []) ∧ Chg [] w w11 ∧ Own (Nw w []) M w11 ([]) ∧ (RT.rs (RT.int .i64)).val M w11 (.slice pa0 pn0 pc0) a_ ([]) ∧ (RT.rs (RT.int .i64)).val M w11 (.slice pa1 pn1 pc1) b ([])) (K := (k_laws_eqIntS M w)) ?_ ?_ 0 () o14 _ _ ?_ hl15 ?_
    · rintro k12 s10 a w11 ⟨σ, rfl, hC, hO, h0, h1⟩ hlt
      refine c_seq ?_
      refine c_seq ?_
      refine c_region ?_
      refine pl_val (.int .i64 k12) (y_move rfl) ?_
      refine pl_val (.slice pa0 pn0 pc0) (y_move rfl) ?_
      refine pl_val (.int .i64 (a_.length : Int)) (y_len' Sl22 (rs_len h0) rfl) ?_
      refine pl_val (.bool (decide (k12 < (a_.length : Int)))) (y_lss rfl rfl) ?_
      refine c_nil ?_
      refine c_condF (congrArg Value.bool (decide_eq_false hlt)) ?_
      refine wp_exit ?_
      exact ⟨rfl, _, fr_ovl 26 trivial, hC, hO, h0, h1⟩
    · rintro k12 s10 o14 a w11 ⟨σ, rfl, hC, hO, h0, h1⟩ hlt hw hs
      refine c_seq ?_
      refine c_seq ?_
      refine c_region ?_
      refine pl_val (.int .i64 k12) (y_move rfl) ?_
      refine pl_val (.slice pa0 pn0 pc0) (y_move rfl) ?_
      refine pl_val (.int .i64 (a_.length : Int)) (y_len' Sl22 (rs_len h0) rfl) ?_
      refine pl_val (.bool (decide (k12 < (a_.length : Int)))) (y_lss rfl rfl) ?_
      refine c_nil ?_
      refine c_condT (congrArg Value.bool (decide_eq_true hlt)) ?_
      refine wp_skip ?_
      refine c_seq ?_
      refine wp_block ?_
      refine c_seq ?_
      refine x_start [] Mx rfl ?_
      have hCw16 := Chg.drew w11
      generalize World.drew w11 = w16 at hCw16 ⊢
      have h0 := h0.ext hCw16
      have h1 := h1.ext hCw16
      have hC := hC.ext hCw16
      have hO := hO.ext hCw16
      have hS := Chg.refl [] w16
      refine x_p 0 (.slice pa0 pn0 pc0) rfl (by kernel_rfl)  (fun _ => y_move rfl) (fun _ => hS) ?_
      refine x_p 1 (.int .i64 k12) rfl (by kernel_rfl)  (fun _ => y_move rfl) (fun _ => hS) ?_
      obtain ⟨x17, hx17, hs⟩ := bind_some hs
      obtain ⟨b18, o18, hp18, ha18⟩ := rs_idx Sl22 Sz3 h0 hx17
      refine x_p 2 (.pointer (some ⟨b18, o18, none⟩)) rfl (by kernel_rfl)  (fun _ => hp18 _ _ _ _ _ _ _ _ _ rfl rfl) (fun _ => hS) ?_
      refine x_l 3 (.int .i64 x17) rfl (by kernel_rfl)  (fun w' hw' => y_load rfl ((at_load_int Ag3 Sz3 ha18) w' hw')) hS ?_
      refine x_p 4 (.slice pa1 pn1 pc1) rfl (by kernel_rfl)  (fun _ => y_move rfl) (fun _ => hS) ?_
      refine x_p 5 (.int .i64 k12) rfl (by kernel_rfl)  (fun _ => y_move rfl) (fun _ => hS) ?_
      obtain ⟨x19, hx19, hs⟩ := bind_some hs
      obtain ⟨b20, o20, hp20, ha20⟩ := rs_idx Sl22 Sz3 h1 hx19
      refine x_p 6 (.pointer (some ⟨b20, o20, none⟩)) rfl (by kernel_rfl)  (fun _ => hp20 _ _ _ _ _ _ _ _ _ rfl rfl) (fun _ => hS) ?_
      refine x_l 7 (.int .i64 x19) rfl (by kernel_rfl)  (fun w' hw' => y_load rfl ((at_load_int Ag3 Sz3 ha20) w' hw')) hS ?_
      refine x_p 8 (.bool (x17 != x19)) rfl (by kernel_rfl)  (fun _ => y_neq rfl rfl) (fun _ => hS) ?_
      refine x_end (by kernel_rfl) ?_
      clear hS
      rcases bif_some hs with ⟨hc21, hs⟩ | ⟨hc21, hs⟩
      · skip
        refine c_condT (congrArg Value.bool hc21) ?_
        refine c_seq ?_
        refine c_region ?_
        refine pl_val (.bool false) (y_assign rfl) ?_
        refine c_nil ?_
        refine wp_ret ?_
        cases hs
        exact ⟨_, fr_ovl 26 ⟨rfl, trivial⟩, hC⟩
      · skip
        refine c_condF (congrArg Value.bool hc21) ?_
        refine wp_skip ?_
        refine c_region ?_
        refine pl_val (.int .i64 k12) (y_move rfl) ?_
        refine pl_val (.int .i64 (w64 (k12 + 1))) (y_add rfl rfl) ?_
        refine pl_val (.int .i64 (w64 (k12 + 1))) (y_assign rfl) ?_
        refine c_nil ?_
        cases hs
        exact ⟨_, fr_ovl 26 ⟨rfl, rfl, congrArg (Value.int .i64) hw, trivial⟩, hC, hO, h0, h1⟩
    · skip
      exact ⟨_, fr_ovl 26 ⟨rfl, rfl, rfl, trivial⟩, hC, hO, h0, h1⟩
    · cases o14 with
      | nx _ => exact True.intro
      | rt r_ =>
        have hs := after_rt hs
        intro a1 w1 hK
        cases hs
        exact hK
      | br s10 =>
        have hs := after_br hs
        rintro a1 w11 ⟨σ, rfl, hC, hO, h0, h1⟩
        refine c_seq ?_
        refine c_region ?_
        refine pl_val (.bool true) (y_assign rfl) ?_
        refine c_nil ?_
        refine wp_ret ?_
        cases hs
        exact ⟨_, fr_ovl 26 ⟨rfl, trivial⟩, hC⟩

theorem Bd18 : Bodied Try.prog 18 := bodied Try.func18 (by kernel_rfl) rfl

def k_laws_eqIntSS (M : Nat → Prop) (w0 : World) (r : Bool) (a : Act) (w : World) : Prop :=
  ∃ (σ : Nat → Value) , a = fr 27 (ovl σ [(4, (.bool r))]) ∧ Chg [] w0 w
def s_laws_eqIntSS (a_ : List (List Int)) (b : List (List Int)) : Option (Bool) :=
  (bif ((a_.length : Int) != (b.length : Int)) then some false else (forC (S := Unit) (R := Bool) (fun k18 s16 =>
  (idx a_ k18).bind fun x23 =>
  (idx b k18).bind fun x27 =>
  (s_laws_eqIntS x23 x27).bind fun r32 =>
  (bif (!r32) then some (.rt false) else some (.nx ()))) 0 (a_.length : Int) ()).bind fun o20 => after o20 (fun r_ => some r_) (fun s16 =>
  some true))
set_option maxHeartbeats 4000000 in
theorem c_laws_eqIntSS {M : Nat → Prop} {w : World} {pa0 : Option Addr} {pn0 pc0 : Nat} {pa1 : Option Addr} {pn1 pc1 : Nat} (a_ : List (List Int)) (b : List (List Int)) (h0 : (RT.rs (RT.rs (RT.int .i64))).val M w (.slice pa0 pn0 pc0) a_ ([])) (h1 : (RT.rs (RT.rs (RT.int .i64))).val M w (.slice pa1 pn1 pc1) b ([])) (hM : ∀ g, w.heap.size ≤ g → M g) {r : Bool} (hs : s_laws_eqIntSS a_ b = some r) :
    Gives Try.prog 52 [(.slice pa0 pn0 pc0), (.slice pa1 pn1 pc1)] w (fun v w' => v = (.bool r) ∧ Chg [] w w') := by
  refine calls_fr Try.func52 rfl Try.ntmps52 (Nat.le_of_ble_eq_true rfl) ?_
  have hO := Own.start (N := Nw w []) hM Nw.fut
  have hC := Chg.refl [] w
  unfold s_laws_eqIntSS at hs
  refine wp_mono (Q := KPost (k_laws_eqIntSS M w r)) ?_ (fun e a w1 h => ?_)
  rotate_left
  · cases e
    case ret =>
      obtain ⟨σ, rfl, hrest⟩ := h
      exact ret1x Try.results52 (res_tmp rfl) ⟨rfl, hrest⟩
    all_goals exact (h : False).elim
  refine c_seq ?_
  refine c_region ?_
  refine pl_val (.bool false) (y_assign rfl) ?_
  refine c_nil ?_
  refine c_seq ?_
  refine c_seq ?_
  refine c_region ?_
  refine pl_val (.slice pa0 pn0 pc0) (y_move rfl) ?_
  refine pl_val (.int .i64 (a_.length : Int)) (y_len' Sl29 (rs_len h0) rfl) ?_
  refine pl_val (.slice pa1 pn1 pc1) (y_move rfl) ?_
  refine pl_val (.int .i64 (b.length : Int)) (y_len' Sl29 (rs_len h1) rfl) ?_
  refine pl_val (.bool ((a_.length : Int) != (b.length : Int))) (y_neq rfl rfl) ?_
  refine c_nil ?_
  rcases bif_some hs with ⟨hc3, hs⟩ | ⟨hc3, hs⟩
  · skip
    refine c_condT (congrArg Value.bool hc3) ?_
    refine c_seq ?_
    refine c_region ?_
    refine pl_val (.bool false) (y_assign rfl) ?_
    refine c_nil ?_
    refine wp_ret ?_
    cases hs
    exact ⟨_, fr_ovl 27 ⟨rfl, trivial⟩, hC⟩
  · skip
    refine c_condF (congrArg Value.bool hc3) ?_
    refine wp_skip ?_
    refine c_seq ?_
    refine c_seq ?_
    refine c_region ?_
    refine pl_val (.int .i64 0) (y_assign rfl) ?_
    refine c_nil ?_
    obtain ⟨o20, hl21, hs⟩ := bind_some hs
    refine wp_block ?_
    refine wp_forC (id := 0) (a_.length : Int) (I := fun k18 s16 a w17 => ∃ (σ : Nat → Value), a = fr 27 (ovl σ [(0, (.slice pa0 pn0 pc0)), (1, (.slice pa1 pn1 pc1)), (5, (.int .i64 k18))]) ∧ Chg [] w w17 ∧ Own (Nw w []) M w17 ([]) ∧ (RT.rs (RT.rs (RT.int .i64))).val M w17 (.slice pa0 pn0 pc0) a_ ([]) ∧ (RT.rs (RT.rs (RT.int .i64))).val M w17 (.slice pa1 pn1 pc1) b ([])) (J := fun s16 a w17 => ∃ (σ : Nat → Value), a = fr 27 (ovl σ []) ∧ Chg [] w w17 ∧ Own (Nw w []) M w17 ([]) ∧ (RT.rs (RT.rs (RT.int .i64))).val M w17 (.slice pa0 pn0 pc0) a_ ([]) ∧ (RT.rs (RT.rs (RT.int .i64))).val M w17 (.slice pa1 pn1 pc1) b ([])) (K := (k_laws_eqIntSS M w)) ?_ ?_ 0 () o20 _ _ ?_ hl21 ?_
    · rintro k18 s16 a w17 ⟨σ, rfl, hC, hO, h0, h1⟩ hlt
      refine c_seq ?_
      refine c_seq ?_
      refine c_region ?_
      refine pl_val (.int .i64 k18) (y_move rfl) ?_
      refine pl_val (.slice pa0 pn0 pc0) (y_move rfl) ?_
      refine pl_val (.int .i64 (a_.length : Int)) (y_len' Sl29 (rs_len h0) rfl) ?_
      refine pl_val (.bool (decide (k18 < (a_.length : Int)))) (y_lss rfl rfl) ?_
      refine c_nil ?_
      refine c_condF (congrArg Value.bool (decide_eq_false hlt)) ?_
      refine wp_exit ?_
      exact ⟨rfl, _, fr_ovl 27 trivial, hC, hO, h0, h1⟩
    · rintro k18 s16 o20 a w17 ⟨σ, rfl, hC, hO, h0, h1⟩ hlt hw hs
      refine c_seq ?_
      refine c_seq ?_
      refine c_region ?_
      refine pl_val (.int .i64 k18) (y_move rfl) ?_
      refine pl_val (.slice pa0 pn0 pc0) (y_move rfl) ?_
      refine pl_val (.int .i64 (a_.length : Int)) (y_len' Sl29 (rs_len h0) rfl) ?_
      refine pl_val (.bool (decide (k18 < (a_.length : Int)))) (y_lss rfl rfl) ?_
      refine c_nil ?_
      refine c_condT (congrArg Value.bool (decide_eq_true hlt)) ?_
      refine wp_skip ?_
      refine c_seq ?_
      refine wp_block ?_
      refine c_seq ?_
      refine x_start [] Mx rfl ?_
      have hCw22 := Chg.drew w17
      generalize World.drew w17 = w22 at hCw22 ⊢
      have h0 := h0.ext hCw22
      have h1 := h1.ext hCw22
      have hC := hC.ext hCw22
      have hO := hO.ext hCw22
      have hS := Chg.refl [] w22
      refine x_p 0 (.slice pa0 pn0 pc0) rfl (by kernel_rfl)  (fun _ => y_move rfl) (fun _ => hS) ?_
      refine x_p 1 (.int .i64 k18) rfl (by kernel_rfl)  (fun _ => y_move rfl) (fun _ => hS) ?_
      obtain ⟨x23, hx23, hs⟩ := bind_some hs
      obtain ⟨b24, o24, hp24, ha24⟩ := rs_idx Sl29 Sz22 h0 hx23
      refine x_p 2 (.pointer (some ⟨b24, o24, none⟩)) rfl (by kernel_rfl)  (fun _ => hp24 _ _ _ _ _ _ _ _ _ rfl rfl) (fun _ => hS) ?_
      obtain ⟨v25, hl25, hv25⟩ := at_load Ag22 Sz22 (fun _ => rfl) ha24
      obtain ⟨a25, n25, c25, rfl⟩ := rs_sl hv25
      refine x_l 3 (.slice a25 n25 c25) rfl (by kernel_rfl)  (fun w' hw' => y_load rfl (hl25 w' hw')) hS ?_
      refine x_p 4 (.slice pa1 pn1 pc1) rfl (by kernel_rfl)  (fun _ => y_move rfl) (fun _ => hS) ?_
      refine x_p 5 (.int .i64 k18) rfl (by kernel_rfl)  (fun _ => y_move rfl) (fun _ => hS) ?_
      obtain ⟨x27, hx27, hs⟩ := bind_some hs
      obtain ⟨b28, o28, hp28, ha28⟩ := rs_idx Sl29 Sz22 h1 hx27
      refine x_p 6 (.pointer (some ⟨b28, o28, none⟩)) rfl (by kernel_rfl)  (fun _ => hp28 _ _ _ _ _ _ _ _ _ rfl rfl) (fun _ => hS) ?_
      obtain ⟨v29, hl29, hv29⟩ := at_load Ag22 Sz22 (fun _ => rfl) ha28
      obtain ⟨a29, n29, c29, rfl⟩ := rs_sl hv29
      refine x_l 7 (.slice a29 n29 c29) rfl (by kernel_rfl)  (fun w' hw' => y_load rfl (hl29 w' hw')) hS ?_
      refine x_one (i := 8) (by kernel_rfl) ?_
      obtain ⟨r32, hr32, hs⟩ := bind_some hs
      refine xk_call (b := false) rfl  Bd18 rfl (c_laws_eqIntS (M := M) x23 x27 hv25 hv29 hO.fut hr32) rfl (by rintro _ _ _ ⟨rfl, hC31⟩; exact hS.ext hC31) ?_
      rintro _ w31 ⟨rfl, hC31⟩
      have h0 := h0.ext hC31
      have h1 := h1.ext hC31
      have hv25 := hv25.ext hC31
      have hv29 := hv29.ext hC31
      have hC := hC.ext hC31
      have hO := hO.ext hC31
      have hS := hS.ext hC31
      refine x_p 9 (.bool (!r32)) rfl (by kernel_rfl)  (fun _ => y_not rfl) (fun _ => hS) ?_
      refine x_end (by kernel_rfl) ?_
      clear hS
      rcases bif_some hs with ⟨hc33, hs⟩ | ⟨hc33, hs⟩
      · skip
        refine c_condT (congrArg Value.bool hc33) ?_
        refine c_seq ?_
        refine c_region ?_
        refine pl_val (.bool false) (y_assign rfl) ?_
        refine c_nil ?_
        refine wp_ret ?_
        cases hs
        exact ⟨_, fr_ovl 27 ⟨rfl, trivial⟩, hC⟩
      · skip
        refine c_condF (congrArg Value.bool hc33) ?_
        refine wp_skip ?_
        refine c_region ?_
        refine pl_val (.int .i64 k18) (y_move rfl) ?_
        refine pl_val (.int .i64 (w64 (k18 + 1))) (y_add rfl rfl) ?_
        refine pl_val (.int .i64 (w64 (k18 + 1))) (y_assign rfl) ?_
        refine c_nil ?_
        cases hs
        exact ⟨_, fr_ovl 27 ⟨rfl, rfl, congrArg (Value.int .i64) hw, trivial⟩, hC, hO, h0, h1⟩
    · skip
      exact ⟨_, fr_ovl 27 ⟨rfl, rfl, rfl, trivial⟩, hC, hO, h0, h1⟩
    · cases o20 with
      | nx _ => exact True.intro
      | rt r_ =>
        have hs := after_rt hs
        intro a1 w1 hK
        cases hs
        exact hK
      | br s16 =>
        have hs := after_br hs
        rintro a1 w17 ⟨σ, rfl, hC, hO, h0, h1⟩
        refine c_seq ?_
        refine c_region ?_
        refine pl_val (.bool true) (y_assign rfl) ?_
        refine c_nil ?_
        refine wp_ret ?_
        cases hs
        exact ⟨_, fr_ovl 27 ⟨rfl, trivial⟩, hC⟩

theorem Bd52 : Bodied Try.prog 52 := bodied Try.func52 (by kernel_rfl) rfl

def k_laws_eqRelation (M : Nat → Prop) (w0 : World) (r : Bool) (a : Act) (w : World) : Prop :=
  ∃ (σ : Nat → Value) , a = fr 16 (ovl σ [(4, (.bool r))]) ∧ Chg [] w0 w
def s_laws_eqRelation (a_ : Int × (List (List Int))) (b : Int × (List (List Int))) : Option (Bool) :=
  (bif (a_.1 != b.1) then some false else (s_laws_eqIntSS a_.2 b.2).bind fun r7 =>
  (bif (!r7) then some false else some true))
set_option maxHeartbeats 4000000 in
theorem c_laws_eqRelation {M : Nat → Prop} {w : World} {pa0 : Option Addr} {pn0 pc0 : Nat} {pa1 : Option Addr} {pn1 pc1 : Nat} (a_ : Int × (List (List Int))) (b : Int × (List (List Int))) (h0 : (RT.rs (RT.rs (RT.int .i64))).val M w (.slice pa0 pn0 pc0) a_.2 ([])) (h1 : (RT.rs (RT.rs (RT.int .i64))).val M w (.slice pa1 pn1 pc1) b.2 ([])) (hM : ∀ g, w.heap.size ≤ g → M g) {r : Bool} (hs : s_laws_eqRelation a_ b = some r) :
    Gives Try.prog 23 [(.agg #[(.int .i64 a_.1), (.slice pa0 pn0 pc0)]), (.agg #[(.int .i64 b.1), (.slice pa1 pn1 pc1)])] w (fun v w' => v = (.bool r) ∧ Chg [] w w') := by
  refine calls_fr Try.func23 rfl Try.ntmps23 (Nat.le_of_ble_eq_true rfl) ?_
  have hO := Own.start (N := Nw w []) hM Nw.fut
  have hC := Chg.refl [] w
  unfold s_laws_eqRelation at hs
  refine wp_mono (Q := KPost (k_laws_eqRelation M w r)) ?_ (fun e a w1 h => ?_)
  rotate_left
  · cases e
    case ret =>
      obtain ⟨σ, rfl, hrest⟩ := h
      exact ret1x Try.results23 (res_tmp rfl) ⟨rfl, hrest⟩
    all_goals exact (h : False).elim
  refine c_seq ?_
  refine c_region ?_
  obtain ⟨w3, g3, ew3, eg3, hC3, hb3⟩ := new_block w [(.int .i64 a_.1), (.slice pa0 pn0 pc0)] 31
  refine pl_val (w' := w3) (.pointer (some ⟨g3, 0, none⟩)) (y_box rfl (by rw [ew3, eg3]; kernel_rfl)) ?_
  have h0 := h0.ext hC3
  have h1 := h1.ext hC3
  have hC := hC.ext hC3
  have hO := hO.new (X' := [g3]) hC3 (fun q hq => by rw [List.mem_singleton.1 hq, eg3]; exact Nat.le_refl _) (List.nodup_cons.2 ⟨(fun h => nomatch h), List.nodup_nil⟩) (fun q hq => by rw [List.mem_singleton.1 hq]; exact hb3.lt)
  obtain ⟨w4, g4, ew4, eg4, hC4, hb4⟩ := new_block w3 [(.int .i64 b.1), (.slice pa1 pn1 pc1)] 31
  refine pl_val (w' := w4) (.pointer (some ⟨g4, 0, none⟩)) (y_box rfl (by rw [ew4, eg4]; kernel_rfl)) ?_
  have h0 := h0.ext hC4
  have h1 := h1.ext hC4
  have hb3 := hb3.chg hC4 (fun h => nomatch h)
  have hC := hC.ext hC4
  have hO := hO.new (X' := [g4]) hC4 (fun q hq => by rw [List.mem_singleton.1 hq, eg4]; exact Nat.le_refl _) (List.nodup_cons.2 ⟨(fun h => nomatch h), List.nodup_nil⟩) (fun q hq => by rw [List.mem_singleton.1 hq]; exact hb4.lt)
  refine pl_val (.bool false) (y_assign rfl) ?_
  refine c_nil ?_
  refine c_seq ?_
  refine c_seq ?_
  refine c_region ?_
  refine pl_val (.pointer (some ⟨g3, 0, none⟩)) (y_faddr rfl Fa31x0) ?_
  refine pl_val (.int .i64 a_.1) (y_load rfl ((box_load Ag3 Sz3 hb3 [] [(.int .i64 a_.1)] [(.slice pa0 pn0 pc0)] rfl rfl (fun _ => rfl)) _ (Chg.refl _ _))) ?_
  refine pl_val (.pointer (some ⟨g4, 0, none⟩)) (y_faddr rfl Fa31x0) ?_
  refine pl_val (.int .i64 b.1) (y_load rfl ((box_load Ag3 Sz3 hb4 [] [(.int .i64 b.1)] [(.slice pa1 pn1 pc1)] rfl rfl (fun _ => rfl)) _ (Chg.refl _ _))) ?_
  refine pl_val (.bool (a_.1 != b.1)) (y_neq rfl rfl) ?_
  refine c_nil ?_
  rcases bif_some hs with ⟨hc5, hs⟩ | ⟨hc5, hs⟩
  · skip
    refine c_condT (congrArg Value.bool hc5) ?_
    refine c_seq ?_
    refine c_region ?_
    refine pl_val (.bool false) (y_assign rfl) ?_
    refine c_nil ?_
    refine wp_ret ?_
    cases hs
    exact ⟨_, fr_ovl 16 ⟨rfl, trivial⟩, hC⟩
  · skip
    refine c_condF (congrArg Value.bool hc5) ?_
    refine wp_skip ?_
    refine c_seq ?_
    refine c_seq ?_
    refine c_region ?_
    refine pl_val (.pointer (some ⟨g3, 1, none⟩)) (y_faddr rfl Fa31x1) ?_
    refine pl_val (.slice pa0 pn0 pc0) (y_load rfl ((box_load Ag29 Sz29 hb3 [(.int .i64 a_.1)] [(.slice pa0 pn0 pc0)] [] rfl rfl (fun _ => rfl)) _ (Chg.refl _ _))) ?_
    refine pl_val (.pointer (some ⟨g4, 1, none⟩)) (y_faddr rfl Fa31x1) ?_
    refine pl_val (.slice pa1 pn1 pc1) (y_load rfl ((box_load Ag29 Sz29 hb4 [(.int .i64 b.1)] [(.slice pa1 pn1 pc1)] [] rfl rfl (fun _ => rfl)) _ (Chg.refl _ _))) ?_
    obtain ⟨r7, hr7, hs⟩ := bind_some hs
    refine pl_call Bd52 rfl (c_laws_eqIntSS (M := M) a_.2 b.2 h0 h1 hO.fut hr7) ?_
    rintro _ w6 ⟨rfl, hC6⟩
    have h0 := h0.ext hC6
    have h1 := h1.ext hC6
    have hb3 := hb3.chg hC6 (fun h => nomatch h)
    have hb4 := hb4.chg hC6 (fun h => nomatch h)
    have hC := hC.ext hC6
    have hO := hO.ext hC6
    refine pl_val (.bool (!r7)) (y_not rfl) ?_
    refine c_nil ?_
    rcases bif_some hs with ⟨hc8, hs⟩ | ⟨hc8, hs⟩
    · skip
      refine c_condT (congrArg Value.bool hc8) ?_
      refine c_seq ?_
      refine c_region ?_
      refine pl_val (.bool false) (y_assign rfl) ?_
      refine c_nil ?_
      refine wp_ret ?_
      cases hs
      exact ⟨_, fr_ovl 16 ⟨rfl, trivial⟩, hC⟩
    · skip
      refine c_condF (congrArg Value.bool hc8) ?_
      refine wp_skip ?_
      refine c_seq ?_
      refine c_region ?_
      refine pl_val (.bool true) (y_assign rfl) ?_
      refine c_nil ?_
      refine wp_ret ?_
      cases hs
      exact ⟨_, fr_ovl 16 ⟨rfl, trivial⟩, hC⟩

def k_laws_markIntS (M : Nat → Prop) (w0 : World) (qa0 : Option Addr) (qn0 qc0 : Nat) (qf0 : List Nat) (r : Int × (List Int)) (a : Act) (w : World) : Prop :=
  ∃ (σ : Nat → Value) (rfi0 : List Nat), a = fr 19 (ovl σ [(4, (.int .i64 r.1))]) ∧ Chg (qf0 ++ ([])) w0 w ∧ (RT.os 3 (RT.int .i64)).val M w (.slice qa0 qn0 qc0) r.2 rfi0 ∧ Own (Nw w0 (qf0 ++ ([]))) (fun _ => True) w (rfi0 ++ ([]))
def s_laws_markIntS (a_ : List Int) (k : Int) : Option (Int × (List Int)) :=
  (iter (S := Int × Int × (List Int)) (R := Int × (List Int)) (fun s25 =>
  (bif (decide (s25.2.1 < (s25.2.2.length : Int))) then (idx s25.2.2 s25.2.1).bind fun x34 =>
  some (.nx (w64 (s25.1 + 1), w64 (s25.2.1 + 1), List.set s25.2.2 (Int.toNat s25.2.1) s25.1)) else some (.br (s25.1, s25.2.1, s25.2.2)))) FU (k, 0, a_)).bind fun o29 => after o29 (fun r_ => some r_) (fun s25 =>
  some (s25.1, s25.2.2))
set_option maxHeartbeats 4000000 in
theorem c_laws_markIntS {M : Nat → Prop} {w : World} {pa0 : Option Addr} {pn0 pc0 : Nat} {pf0 : List Nat} (a_ : List Int) (k : Int) (h0 : (RT.os 3 (RT.int .i64)).val M w (.slice pa0 pn0 pc0) a_ pf0) (hI : Own (Nw w (pf0 ++ ([]))) M w (pf0 ++ ([]))) (hM : ∀ g, w.heap.size ≤ g → M g) {r : Int × (List Int)} (hs : s_laws_markIntS a_ k = some r) :
    Gives Try.prog 19 [(.slice pa0 pn0 pc0), (.int .i64 k)] w (fun v w' => ∃ (rfi0 : List Nat), v = (.int .i64 r.1) ∧ Chg (pf0 ++ ([])) w w' ∧ (RT.os 3 (RT.int .i64)).val M w' (.slice pa0 pn0 pc0) r.2 rfi0 ∧ Own (Nw w (pf0 ++ ([]))) (fun _ => True) w' (rfi0 ++ ([]))) := by
  refine calls_fr Try.func19 rfl Try.ntmps19 (Nat.le_of_ble_eq_true rfl) ?_
  have hO := hI
  have hC := Chg.refl (pf0 ++ ([])) w
  unfold s_laws_markIntS at hs
  refine wp_mono (Q := KPost (k_laws_markIntS M w pa0 pn0 pc0 pf0 r)) ?_ (fun e a w1 h => ?_)
  rotate_left
  · cases e
    case ret =>
      obtain ⟨σ, rfi0, rfl, hrest⟩ := h
      exact ret1x Try.results19 (res_tmp rfl) ⟨rfi0, rfl, hrest⟩
    all_goals exact (h : False).elim
  refine c_seq ?_
  refine c_region ?_
  refine pl_val (.int .i64 0) (y_assign rfl) ?_
  refine c_nil ?_
  refine c_seq ?_
  refine c_seq ?_
  refine c_region ?_
  refine pl_val (.int .i64 0) (y_assign rfl) ?_
  refine c_nil ?_
  obtain ⟨o29, hl30, hs⟩ := bind_some hs
  refine wp_block ?_
  refine wp_iter (id := 0) (I := fun s25 a w26 => ∃ (σ : Nat → Value) (f31 : List Nat), a = fr 19 (ovl σ [(0, (.slice pa0 pn0 pc0)), (1, (.int .i64 s25.1)), (5, (.int .i64 s25.2.1))]) ∧ Chg (pf0 ++ ([])) w w26 ∧ Own (Nw w (pf0 ++ ([]))) M w26 (f31 ++ []) ∧ (RT.os 3 (RT.int .i64)).val M w26 (.slice pa0 pn0 pc0) s25.2.2 f31) (J := fun s25 a w26 => ∃ (σ : Nat → Value) (f32 : List Nat), a = fr 19 (ovl σ [(1, (.int .i64 s25.1))]) ∧ Chg (pf0 ++ ([])) w w26 ∧ Own (Nw w (pf0 ++ ([]))) M w26 (f32 ++ []) ∧ (RT.os 3 (RT.int .i64)).val M w26 (.slice pa0 pn0 pc0) s25.2.2 f32) (K := (k_laws_markIntS M w pa0 pn0 pc0 pf0)) ?_ FU (k, 0, a_) o29 _ _ ?_ hl30 ?_
  · rintro s25 o29 a w26 ⟨σ, f31, rfl, hC, hO, hv31⟩ hs
    refine c_seq ?_
    refine c_seq ?_
    refine c_region ?_
    refine pl_val (.int .i64 s25.2.1) (y_move rfl) ?_
    refine pl_val (.slice pa0 pn0 pc0) (y_move rfl) ?_
    refine pl_val (.int .i64 (s25.2.2.length : Int)) (y_len' Sl22 (os_len hv31) rfl) ?_
    refine pl_val (.bool (decide (s25.2.1 < (s25.2.2.length : Int)))) (y_lss rfl rfl) ?_
    refine c_nil ?_
    rcases bif_some hs with ⟨hc33, hs⟩ | ⟨hc33, hs⟩
    · skip
      refine c_condT (congrArg Value.bool hc33) ?_
      refine wp_skip ?_
      refine c_seq ?_
      refine wp_block ?_
      refine c_seq ?_
      refine c_region ?_
      refine pl_val (.slice pa0 pn0 pc0) (y_move rfl) ?_
      refine pl_val (.int .i64 s25.2.1) (y_move rfl) ?_
      refine pl_val (.int .i64 s25.1) (y_move rfl) ?_
      obtain ⟨x34, hx34, hs⟩ := bind_some hs
      obtain ⟨g35, f35, hg35, hk35, hp35, ha35, hf35⟩ := os_idx Sl22 Sz3 hv31 hx34
      refine pl_val (.pointer (some ⟨g35, 0 + Int.toNat s25.2.1 * 1, none⟩)) (hp35 _ _ _ _ _ _ _ _ _ rfl rfl) ?_
      obtain ⟨w36, f36, hst36, hC36, hf36, hv36⟩ := os_store (P := Try.prog) (c' := [(.int .i64 s25.1)]) hg35 hv31 hk35 (fun g hg => hO.inM g (os_block hv31 g (by simpa using hg))) ⟨rfl, rfl⟩ List.nodup_nil (fun _ h => nomatch h) (fun _ h => .inl h)
      have hG36 : ∀ q ∈ [g35], q ∈ f31 := fun q hq => os_block hv31 q (by rw [hg35]; exact hq)
      refine pl_skip (w' := w36) (ys_store rfl rfl (hst36 _ _ rfl Sz3)) ?_
      have hC := hC.step hC36 (fun g hg => hO.inN g (hG36 g hg))
      have hO := hO.grow hC36 (fun q hq => .inl ((hf36 q hq).resolve_right (fun h => nomatch h))) (os_nodup hv36) hv36.fpl
      refine c_nil ?_
      refine c_region ?_
      refine pl_val (.int .i64 s25.1) (y_move rfl) ?_
      refine pl_val (.int .i64 (w64 (s25.1 + 1))) (y_add rfl rfl) ?_
      refine pl_val (.int .i64 (w64 (s25.1 + 1))) (y_assign rfl) ?_
      refine c_nil ?_
      refine c_region ?_
      refine pl_val (.int .i64 s25.2.1) (y_move rfl) ?_
      refine pl_val (.int .i64 (w64 (s25.2.1 + 1))) (y_add rfl rfl) ?_
      refine pl_val (.int .i64 (w64 (s25.2.1 + 1))) (y_assign rfl) ?_
      refine c_nil ?_
      cases hs
      exact ⟨_, f36, fr_ovl 19 ⟨rfl, rfl, rfl, trivial⟩, hC, hO, hv36⟩
    · skip
      refine c_condF (congrArg Value.bool hc33) ?_
      refine wp_exit ?_
      cases hs
      exact ⟨rfl, _, f31, fr_ovl 19 ⟨rfl, trivial⟩, hC, hO, hv31⟩
  · skip
    exact ⟨_, pf0, fr_ovl 19 ⟨rfl, rfl, rfl, trivial⟩, hC, hO, h0⟩
  · cases o29 with
    | nx _ => exact True.intro
    | rt r_ =>
      have hs := after_rt hs
      intro a1 w1 hK
      cases hs
      exact hK
    | br s25 =>
      have hs := after_br hs
      rintro a1 w26 ⟨σ, f32, rfl, hC, hO, hv32⟩
      refine c_seq ?_
      refine c_region ?_
      refine pl_val (.int .i64 s25.1) (y_move rfl) ?_
      refine pl_val (.int .i64 s25.1) (y_assign rfl) ?_
      refine c_nil ?_
      refine wp_ret ?_
      cases hs
      exact ⟨_, f32, fr_ovl 19 ⟨rfl, trivial⟩, hC, hv32, hO.top⟩

theorem Bd19 : Bodied Try.prog 19 := bodied Try.func19 (by kernel_rfl) rfl

def k_laws_markIntSS (M : Nat → Prop) (w0 : World) (qa0 : Option Addr) (qn0 qc0 : Nat) (qf0 : List Nat) (r : Int × (List (List Int))) (a : Act) (w : World) : Prop :=
  ∃ (σ : Nat → Value) (rfi0 : List Nat), a = fr 19 (ovl σ [(4, (.int .i64 r.1))]) ∧ Chg (qf0 ++ ([])) w0 w ∧ (RT.os 22 (RT.os 3 (RT.int .i64))).val M w (.slice qa0 qn0 qc0) r.2 rfi0 ∧ Own (Nw w0 (qf0 ++ ([]))) (fun _ => True) w (rfi0 ++ ([]))
def s_laws_markIntSS (a_ : List (List Int)) (k : Int) : Option (Int × (List (List Int))) :=
  (iter (S := Int × Int × (List (List Int))) (R := Int × (List (List Int))) (fun s37 =>
  (bif (decide (s37.2.1 < (s37.2.2.length : Int))) then (idx s37.2.2 s37.2.1).bind fun x46 =>
  (s_laws_markIntS x46 s37.1).bind fun r51 =>
  some (.nx (r51.1, w64 (s37.2.1 + 1), List.set s37.2.2 (Int.toNat s37.2.1) r51.2)) else some (.br (s37.1, s37.2.1, s37.2.2)))) FU (k, 0, a_)).bind fun o41 => after o41 (fun r_ => some r_) (fun s37 =>
  some (s37.1, s37.2.2))
set_option maxHeartbeats 4000000 in
theorem c_laws_markIntSS {M : Nat → Prop} {w : World} {pa0 : Option Addr} {pn0 pc0 : Nat} {pf0 : List Nat} (a_ : List (List Int)) (k : Int) (h0 : (RT.os 22 (RT.os 3 (RT.int .i64))).val M w (.slice pa0 pn0 pc0) a_ pf0) (hI : Own (Nw w (pf0 ++ ([]))) M w (pf0 ++ ([]))) (hM : ∀ g, w.heap.size ≤ g → M g) {r : Int × (List (List Int))} (hs : s_laws_markIntSS a_ k = some r) :
    Gives Try.prog 82 [(.slice pa0 pn0 pc0), (.int .i64 k)] w (fun v w' => ∃ (rfi0 : List Nat), v = (.int .i64 r.1) ∧ Chg (pf0 ++ ([])) w w' ∧ (RT.os 22 (RT.os 3 (RT.int .i64))).val M w' (.slice pa0 pn0 pc0) r.2 rfi0 ∧ Own (Nw w (pf0 ++ ([]))) (fun _ => True) w' (rfi0 ++ ([]))) := by
  refine calls_fr Try.func82 rfl Try.ntmps82 (Nat.le_of_ble_eq_true rfl) ?_
  have hO := hI
  have hC := Chg.refl (pf0 ++ ([])) w
  unfold s_laws_markIntSS at hs
  refine wp_mono (Q := KPost (k_laws_markIntSS M w pa0 pn0 pc0 pf0 r)) ?_ (fun e a w1 h => ?_)
  rotate_left
  · cases e
    case ret =>
      obtain ⟨σ, rfi0, rfl, hrest⟩ := h
      exact ret1x Try.results82 (res_tmp rfl) ⟨rfi0, rfl, hrest⟩
    all_goals exact (h : False).elim
  refine c_seq ?_
  refine c_region ?_
  refine pl_val (.int .i64 0) (y_assign rfl) ?_
  refine c_nil ?_
  refine c_seq ?_
  refine c_seq ?_
  refine c_region ?_
  refine pl_val (.int .i64 0) (y_assign rfl) ?_
  refine c_nil ?_
  obtain ⟨o41, hl42, hs⟩ := bind_some hs
  refine wp_block ?_
  refine wp_iter (id := 0) (I := fun s37 a w38 => ∃ (σ : Nat → Value) (f43 : List Nat), a = fr 19 (ovl σ [(0, (.slice pa0 pn0 pc0)), (1, (.int .i64 s37.1)), (5, (.int .i64 s37.2.1))]) ∧ Chg (pf0 ++ ([])) w w38 ∧ Own (Nw w (pf0 ++ ([]))) M w38 (f43 ++ []) ∧ (RT.os 22 (RT.os 3 (RT.int .i64))).val M w38 (.slice pa0 pn0 pc0) s37.2.2 f43) (J := fun s37 a w38 => ∃ (σ : Nat → Value) (f44 : List Nat), a = fr 19 (ovl σ [(1, (.int .i64 s37.1))]) ∧ Chg (pf0 ++ ([])) w w38 ∧ Own (Nw w (pf0 ++ ([]))) M w38 (f44 ++ []) ∧ (RT.os 22 (RT.os 3 (RT.int .i64))).val M w38 (.slice pa0 pn0 pc0) s37.2.2 f44) (K := (k_laws_markIntSS M w pa0 pn0 pc0 pf0)) ?_ FU (k, 0, a_) o41 _ _ ?_ hl42 ?_
  · rintro s37 o41 a w38 ⟨σ, f43, rfl, hC, hO, hv43⟩ hs
    refine c_seq ?_
    refine c_seq ?_
    refine c_region ?_
    refine pl_val (.int .i64 s37.2.1) (y_move rfl) ?_
    refine pl_val (.slice pa0 pn0 pc0) (y_move rfl) ?_
    refine pl_val (.int .i64 (s37.2.2.length : Int)) (y_len' Sl29 (os_len hv43) rfl) ?_
    refine pl_val (.bool (decide (s37.2.1 < (s37.2.2.length : Int)))) (y_lss rfl rfl) ?_
    refine c_nil ?_
    rcases bif_some hs with ⟨hc45, hs⟩ | ⟨hc45, hs⟩
    · skip
      refine c_condT (congrArg Value.bool hc45) ?_
      refine wp_skip ?_
      refine c_seq ?_
      refine wp_block ?_
      refine c_region ?_
      refine pl_val (.slice pa0 pn0 pc0) (y_move rfl) ?_
      refine pl_val (.int .i64 s37.2.1) (y_move rfl) ?_
      obtain ⟨x46, hx46, hs⟩ := bind_some hs
      obtain ⟨g47, f47, hg47, hk47, hp47, ha47, hf47⟩ := os_idx Sl29 Sz22 hv43 hx46
      have hb47 := own_row (Frz.os Frz.int) ha47 hf47
      refine pl_val (.pointer (some ⟨g47, 0 + Int.toNat s37.2.1 * 1, none⟩)) (hp47 _ _ _ _ _ _ _ _ _ rfl rfl) ?_
      obtain ⟨v48, hl48, hrow48, hv48⟩ := at_load1 Ag22 Sz22 rfl rfl hb47
      obtain ⟨a48, n48, c48, rfl⟩ := rs_sl hv48
      refine pl_val (.slice a48 n48 c48) (y_load rfl (hl48 _ (Chg.refl _ _))) ?_
      refine pl_val (.int .i64 s37.1) (y_move rfl) ?_
      obtain ⟨fg50, hrr50, hsf50, hnf50, hput50⟩ := os_put hg47 hv43 hx46 hrow48 rfl hO.inM
      have hg50x0 : (RT.os 3 (RT.int .i64)).val M w38 (.slice a48 n48 c48) x46 fg50 := ⟨[_], rfl, hrr50⟩
      have hfs50 : ∀ q ∈ (fg50 ++ ([])), q ∈ f43 := fun q hq => hsf50 q (by simpa using hq)
      have hfn50 : List.Nodup (fg50 ++ ([])) := by simpa using hnf50
      have hL50 := hO
      have hI50 := Own.part (X := (fg50 ++ ([]))) (hL50) hfs50 hfn50
      obtain ⟨r51, hr51, hs⟩ := bind_some hs
      refine pl_call Bd19 rfl (c_laws_markIntS (M := M) x46 s37.1 hg50x0 hI50 hI50.fut hr51) ?_
      rintro _ w50 ⟨fi50x0, rfl, hC50, hvi50x0, hOc50⟩
      obtain ⟨fq50, hvq50, hsq50⟩ := hput50 w50 (fg50 ++ ([])) r51.2 fi50x0 hC50 (fun q hq => by simpa using hq) (os_unval hvi50x0) (by simpa using hOc50.1) (fun q hq => (hOc50.2.1 q (by simpa using hq)).2.2.imp (fun h => by simpa using h) id)
      have hC := hC.step hC50 (fun g hg => hO.inN g (hfs50 g hg))
      have hO := hO.grow hC50 hsq50 (os_nodup hvq50) hvq50.fpl
      refine pl_val (.int .i64 r51.1) (y_assign rfl) ?_
      refine c_nil ?_
      refine c_region ?_
      refine pl_val (.int .i64 s37.2.1) (y_move rfl) ?_
      refine pl_val (.int .i64 (w64 (s37.2.1 + 1))) (y_add rfl rfl) ?_
      refine pl_val (.int .i64 (w64 (s37.2.1 + 1))) (y_assign rfl) ?_
      refine c_nil ?_
      cases hs
      exact ⟨_, fq50, fr_ovl 19 ⟨rfl, rfl, rfl, trivial⟩, hC, hO, hvq50⟩
    · skip
      refine c_condF (congrArg Value.bool hc45) ?_
      refine wp_exit ?_
      cases hs
      exact ⟨rfl, _, f43, fr_ovl 19 ⟨rfl, trivial⟩, hC, hO, hv43⟩
  · skip
    exact ⟨_, pf0, fr_ovl 19 ⟨rfl, rfl, rfl, trivial⟩, hC, hO, h0⟩
  · cases o41 with
    | nx _ => exact True.intro
    | rt r_ =>
      have hs := after_rt hs
      intro a1 w1 hK
      cases hs
      exact hK
    | br s37 =>
      have hs := after_br hs
      rintro a1 w38 ⟨σ, f44, rfl, hC, hO, hv44⟩
      refine c_seq ?_
      refine c_region ?_
      refine pl_val (.int .i64 s37.1) (y_move rfl) ?_
      refine pl_val (.int .i64 s37.1) (y_assign rfl) ?_
      refine c_nil ?_
      refine wp_ret ?_
      cases hs
      exact ⟨_, f44, fr_ovl 19 ⟨rfl, trivial⟩, hC, hv44, hO.top⟩

theorem Bd82 : Bodied Try.prog 82 := bodied Try.func82 (by kernel_rfl) rfl

def k_laws_markRelation (M : Nat → Prop) (w0 : World) (qa0 : Option Addr) (qn0 qc0 : Nat) (qf0 : List Nat) (r : Int × (List (List Int))) (a : Act) (w : World) : Prop :=
  ∃ (σ : Nat → Value) (rfi0 : List Nat), a = fr 10 (ovl σ [(4, (.int .i64 r.1))]) ∧ Chg (qf0 ++ ([])) w0 w ∧ (RT.os 22 (RT.os 3 (RT.int .i64))).val M w (.slice qa0 qn0 qc0) r.2 rfi0 ∧ Own (Nw w0 (qf0 ++ ([]))) (fun _ => True) w (rfi0 ++ ([]))
def s_laws_markRelation (a_ : Int × (List (List Int))) (k : Int) : Option (Int × (List (List Int))) :=
  (s_laws_markIntSS a_.2 k).bind fun r4 =>
  some (r4.1, r4.2)
set_option maxHeartbeats 4000000 in
theorem c_laws_markRelation {M : Nat → Prop} {w : World} {pa0 : Option Addr} {pn0 pc0 : Nat} {pf0 : List Nat} (a_ : Int × (List (List Int))) (k : Int) (h0 : (RT.os 22 (RT.os 3 (RT.int .i64))).val M w (.slice pa0 pn0 pc0) a_.2 pf0) (hI : Own (Nw w (pf0 ++ ([]))) M w (pf0 ++ ([]))) (hM : ∀ g, w.heap.size ≤ g → M g) {r : Int × (List (List Int))} (hs : s_laws_markRelation a_ k = some r) :
    Gives Try.prog 24 [(.agg #[(.int .i64 a_.1), (.slice pa0 pn0 pc0)]), (.int .i64 k)] w (fun v w' => ∃ (rfi0 : List Nat), v = (.int .i64 r.1) ∧ Chg (pf0 ++ ([])) w w' ∧ (RT.os 22 (RT.os 3 (RT.int .i64))).val M w' (.slice pa0 pn0 pc0) r.2 rfi0 ∧ Own (Nw w (pf0 ++ ([]))) (fun _ => True) w' (rfi0 ++ ([]))) := by
  refine calls_fr Try.func24 rfl Try.ntmps24 (Nat.le_of_ble_eq_true rfl) ?_
  have hO := hI
  have hC := Chg.refl (pf0 ++ ([])) w
  unfold s_laws_markRelation at hs
  refine wp_mono (Q := KPost (k_laws_markRelation M w pa0 pn0 pc0 pf0 r)) ?_ (fun e a w1 h => ?_)
  rotate_left
  · cases e
    case ret =>
      obtain ⟨σ, rfi0, rfl, hrest⟩ := h
      exact ret1x Try.results24 (res_tmp rfl) ⟨rfi0, rfl, hrest⟩
    all_goals exact (h : False).elim
  refine c_seq ?_
  refine c_region ?_
  obtain ⟨w2, g2, ew2, eg2, hC2, hb2⟩ := new_block w [(.int .i64 a_.1), (.slice pa0 pn0 pc0)] 31
  refine pl_val (w' := w2) (.pointer (some ⟨g2, 0, none⟩)) (y_box rfl (by rw [ew2, eg2]; kernel_rfl)) ?_
  have h0 := h0.ext hC2
  have hC := hC.ext hC2
  have hO := hO.new (X' := [g2]) hC2 (fun q hq => by rw [List.mem_singleton.1 hq, eg2]; exact Nat.le_refl _) (List.nodup_cons.2 ⟨(fun h => nomatch h), List.nodup_nil⟩) (fun q hq => by rw [List.mem_singleton.1 hq]; exact hb2.lt)
  refine pl_val (.int .i64 0) (y_assign rfl) ?_
  refine c_nil ?_
  refine c_seq ?_
  refine c_region ?_
  refine pl_val (.pointer (some ⟨g2, 1, none⟩)) (y_faddr rfl Fa31x1) ?_
  refine pl_val (.slice pa0 pn0 pc0) (y_load rfl ((box_load Ag29 Sz29 hb2 [(.int .i64 a_.1)] [(.slice pa0 pn0 pc0)] [] rfl rfl (fun _ => rfl)) _ (Chg.refl _ _))) ?_
  refine pl_val (.int .i64 k) (y_move rfl) ?_
  have hO := hO.fr1
  have hL3 := hO
  have hI3 := Own.lend (F := (pf0 ++ ([]))) (R := ([g2]) ++ ([])) (Own.perm (hL3) (by simp))
  obtain ⟨r4, hr4, hs⟩ := bind_some hs
  refine pl_call Bd82 rfl (c_laws_markIntSS (M := M) a_.2 k h0 hI3 hI3.fut hr4) ?_
  rintro _ w3 ⟨fi3x0, rfl, hC3, hvi3x0, hOc3⟩
  have hO := hO.perm (R := (pf0 ++ ([])) ++ (([g2]) ++ ([]))) (by simp)
  have hb2 := hb2.chg hC3 (fun hg => hO.apart _ ((fun _ h => h) _ hg) (mem_l (List.mem_singleton.2 rfl)))
  have hC := hC.step hC3 (fun g hg => hO.inN g ((fun _ h => h) g hg))
  have hO := Own.join hO hC3 hOc3
  have hO := hO.perm (R := fi3x0 ++ (([g2]) ++ ([]))) (by simp)
  refine pl_val (.int .i64 r4.1) (y_assign rfl) ?_
  refine c_nil ?_
  refine c_seq ?_
  refine c_region ?_
  refine pl_val (.int .i64 r4.1) (y_move rfl) ?_
  refine pl_val (.int .i64 r4.1) (y_assign rfl) ?_
  refine c_nil ?_
  refine wp_ret ?_
  cases hs
  have hO := hO.fr1
  have hO := hO.drop
  exact ⟨_, fi3x0, fr_ovl 10 ⟨rfl, trivial⟩, hC, hvi3x0, hO.top⟩

def k_laws_heldIntS (M : Nat → Prop) (w0 : World) (r : Int) (a : Act) (w : World) : Prop :=
  ∃ (σ : Nat → Value) , a = fr 21 (ovl σ [(4, (.int .i64 r))]) ∧ Chg [] w0 w
def s_laws_heldIntS (a_ : List Int) (k : Int) : Option (Int) :=
  (forC (S := Int) (R := Int) (fun k7 s5 =>
  (idx a_ k7).bind fun x11 =>
  (bif (x11 != s5) then some (.rt (-1)) else some (.nx (w64 (s5 + 1))))) 0 (a_.length : Int) k).bind fun o9 => after o9 (fun r_ => some r_) (fun s5 =>
  some s5)
set_option maxHeartbeats 4000000 in
theorem c_laws_heldIntS {M : Nat → Prop} {w : World} {pa0 : Option Addr} {pn0 pc0 : Nat} (a_ : List Int) (k : Int) (h0 : (RT.rs (RT.int .i64)).val M w (.slice pa0 pn0 pc0) a_ ([])) (hM : ∀ g, w.heap.size ≤ g → M g) {r : Int} (hs : s_laws_heldIntS a_ k = some r) :
    Gives Try.prog 20 [(.slice pa0 pn0 pc0), (.int .i64 k)] w (fun v w' => v = (.int .i64 r) ∧ Chg [] w w') := by
  refine calls_fr Try.func20 rfl Try.ntmps20 (Nat.le_of_ble_eq_true rfl) ?_
  have hO := Own.start (N := Nw w []) hM Nw.fut
  have hC := Chg.refl [] w
  unfold s_laws_heldIntS at hs
  refine wp_mono (Q := KPost (k_laws_heldIntS M w r)) ?_ (fun e a w1 h => ?_)
  rotate_left
  · cases e
    case ret =>
      obtain ⟨σ, rfl, hrest⟩ := h
      exact ret1x Try.results20 (res_tmp rfl) ⟨rfl, hrest⟩
    all_goals exact (h : False).elim
  refine c_seq ?_
  refine c_region ?_
  refine pl_val (.int .i64 0) (y_assign rfl) ?_
  refine c_nil ?_
  refine c_seq ?_
  refine c_seq ?_
  refine c_region ?_
  refine pl_val (.int .i64 0) (y_assign rfl) ?_
  refine c_nil ?_
  obtain ⟨o9, hl10, hs⟩ := bind_some hs
  refine wp_block ?_
  refine wp_forC (id := 0) (a_.length : Int) (I := fun k7 s5 a w6 => ∃ (σ : Nat → Value), a = fr 21 (ovl σ [(0, (.slice pa0 pn0 pc0)), (1, (.int .i64 s5)), (5, (.int .i64 k7))]) ∧ Chg [] w w6 ∧ Own (Nw w []) M w6 ([]) ∧ (RT.rs (RT.int .i64)).val M w6 (.slice pa0 pn0 pc0) a_ ([])) (J := fun s5 a w6 => ∃ (σ : Nat → Value), a = fr 21 (ovl σ [(1, (.int .i64 s5))]) ∧ Chg [] w w6 ∧ Own (Nw w []) M w6 ([]) ∧ (RT.rs (RT.int .i64)).val M w6 (.slice pa0 pn0 pc0) a_ ([])) (K := (k_laws_heldIntS M w)) ?_ ?_ 0 k o9 _ _ ?_ hl10 ?_
  · rintro k7 s5 a w6 ⟨σ, rfl, hC, hO, h0⟩ hlt
    refine c_seq ?_
    refine c_seq ?_
    refine c_region ?_
    refine pl_val (.int .i64 k7) (y_move rfl) ?_
    refine pl_val (.slice pa0 pn0 pc0) (y_move rfl) ?_
    refine pl_val (.int .i64 (a_.length : Int)) (y_len' Sl22 (rs_len h0) rfl) ?_
    refine pl_val (.bool (decide (k7 < (a_.length : Int)))) (y_lss rfl rfl) ?_
    refine c_nil ?_
    refine c_condF (congrArg Value.bool (decide_eq_false hlt)) ?_
    refine wp_exit ?_
    exact ⟨rfl, _, fr_ovl 21 ⟨rfl, trivial⟩, hC, hO, h0⟩
  · rintro k7 s5 o9 a w6 ⟨σ, rfl, hC, hO, h0⟩ hlt hw hs
    refine c_seq ?_
    refine c_seq ?_
    refine c_region ?_
    refine pl_val (.int .i64 k7) (y_move rfl) ?_
    refine pl_val (.slice pa0 pn0 pc0) (y_move rfl) ?_
    refine pl_val (.int .i64 (a_.length : Int)) (y_len' Sl22 (rs_len h0) rfl) ?_
    refine pl_val (.bool (decide (k7 < (a_.length : Int)))) (y_lss rfl rfl) ?_
    refine c_nil ?_
    refine c_condT (congrArg Value.bool (decide_eq_true hlt)) ?_
    refine wp_skip ?_
    refine c_seq ?_
    refine wp_block ?_
    refine c_seq ?_
    refine c_seq ?_
    refine c_region ?_
    refine pl_val (.slice pa0 pn0 pc0) (y_move rfl) ?_
    refine pl_val (.int .i64 k7) (y_move rfl) ?_
    obtain ⟨x11, hx11, hs⟩ := bind_some hs
    obtain ⟨b12, o12, hp12, ha12⟩ := rs_idx Sl22 Sz3 h0 hx11
    refine pl_val (.pointer (some ⟨b12, o12, none⟩)) (hp12 _ _ _ _ _ _ _ _ _ rfl rfl) ?_
    refine pl_val (.int .i64 x11) (y_load rfl ((at_load_int Ag3 Sz3 ha12) _ (Chg.refl _ _))) ?_
    refine pl_val (.int .i64 s5) (y_move rfl) ?_
    refine pl_val (.bool (x11 != s5)) (y_neq rfl rfl) ?_
    refine c_nil ?_
    rcases bif_some hs with ⟨hc13, hs⟩ | ⟨hc13, hs⟩
    · skip
      refine c_condT (congrArg Value.bool hc13) ?_
      refine c_seq ?_
      refine c_region ?_
      refine pl_val (.int .i64 (-1)) (y_assign rfl) ?_
      refine c_nil ?_
      refine wp_ret ?_
      cases hs
      exact ⟨_, fr_ovl 21 ⟨rfl, trivial⟩, hC⟩
    · skip
      refine c_condF (congrArg Value.bool hc13) ?_
      refine wp_skip ?_
      refine c_region ?_
      refine pl_val (.int .i64 s5) (y_move rfl) ?_
      refine pl_val (.int .i64 (w64 (s5 + 1))) (y_add rfl rfl) ?_
      refine pl_val (.int .i64 (w64 (s5 + 1))) (y_assign rfl) ?_
      refine c_nil ?_
      refine c_region ?_
      refine pl_val (.int .i64 k7) (y_move rfl) ?_
      refine pl_val (.int .i64 (w64 (k7 + 1))) (y_add rfl rfl) ?_
      refine pl_val (.int .i64 (w64 (k7 + 1))) (y_assign rfl) ?_
      refine c_nil ?_
      cases hs
      exact ⟨_, fr_ovl 21 ⟨rfl, rfl, congrArg (Value.int .i64) hw, trivial⟩, hC, hO, h0⟩
  · skip
    exact ⟨_, fr_ovl 21 ⟨rfl, rfl, rfl, trivial⟩, hC, hO, h0⟩
  · cases o9 with
    | nx _ => exact True.intro
    | rt r_ =>
      have hs := after_rt hs
      intro a1 w1 hK
      cases hs
      exact hK
    | br s5 =>
      have hs := after_br hs
      rintro a1 w6 ⟨σ, rfl, hC, hO, h0⟩
      refine c_seq ?_
      refine c_region ?_
      refine pl_val (.int .i64 s5) (y_move rfl) ?_
      refine pl_val (.int .i64 s5) (y_assign rfl) ?_
      refine c_nil ?_
      refine wp_ret ?_
      cases hs
      exact ⟨_, fr_ovl 21 ⟨rfl, trivial⟩, hC⟩

theorem Bd20 : Bodied Try.prog 20 := bodied Try.func20 (by kernel_rfl) rfl

def k_laws_heldIntSS (M : Nat → Prop) (w0 : World) (r : Int) (a : Act) (w : World) : Prop :=
  ∃ (σ : Nat → Value) , a = fr 21 (ovl σ [(4, (.int .i64 r))]) ∧ Chg [] w0 w
def s_laws_heldIntSS (a_ : List (List Int)) (k : Int) : Option (Int) :=
  (forC (S := Int) (R := Int) (fun k11 s9 =>
  (idx a_ k11).bind fun x15 =>
  (s_laws_heldIntS x15 s9).bind fun r20 =>
  (bif (decide (r20 < 0)) then some (.rt (-1)) else some (.nx r20))) 0 (a_.length : Int) k).bind fun o13 => after o13 (fun r_ => some r_) (fun s9 =>
  some s9)
set_option maxHeartbeats 4000000 in
theorem c_laws_heldIntSS {M : Nat → Prop} {w : World} {pa0 : Option Addr} {pn0 pc0 : Nat} (a_ : List (List Int)) (k : Int) (h0 : (RT.rs (RT.rs (RT.int .i64))).val M w (.slice pa0 pn0 pc0) a_ ([])) (hM : ∀ g, w.heap.size ≤ g → M g) {r : Int} (hs : s_laws_heldIntSS a_ k = some r) :
    Gives Try.prog 83 [(.slice pa0 pn0 pc0), (.int .i64 k)] w (fun v w' => v = (.int .i64 r) ∧ Chg [] w w') := by
  refine calls_fr Try.func83 rfl Try.ntmps83 (Nat.le_of_ble_eq_true rfl) ?_
  have hO := Own.start (N := Nw w []) hM Nw.fut
  have hC := Chg.refl [] w
  unfold s_laws_heldIntSS at hs
  refine wp_mono (Q := KPost (k_laws_heldIntSS M w r)) ?_ (fun e a w1 h => ?_)
  rotate_left
  · cases e
    case ret =>
      obtain ⟨σ, rfl, hrest⟩ := h
      exact ret1x Try.results83 (res_tmp rfl) ⟨rfl, hrest⟩
    all_goals exact (h : False).elim
  refine c_seq ?_
  refine c_region ?_
  refine pl_val (.int .i64 0) (y_assign rfl) ?_
  refine c_nil ?_
  refine c_seq ?_
  refine c_seq ?_
  refine c_region ?_
  refine pl_val (.int .i64 0) (y_assign rfl) ?_
  refine c_nil ?_
  obtain ⟨o13, hl14, hs⟩ := bind_some hs
  refine wp_block ?_
  refine wp_forC (id := 0) (a_.length : Int) (I := fun k11 s9 a w10 => ∃ (σ : Nat → Value), a = fr 21 (ovl σ [(0, (.slice pa0 pn0 pc0)), (1, (.int .i64 s9)), (5, (.int .i64 k11))]) ∧ Chg [] w w10 ∧ Own (Nw w []) M w10 ([]) ∧ (RT.rs (RT.rs (RT.int .i64))).val M w10 (.slice pa0 pn0 pc0) a_ ([])) (J := fun s9 a w10 => ∃ (σ : Nat → Value), a = fr 21 (ovl σ [(1, (.int .i64 s9))]) ∧ Chg [] w w10 ∧ Own (Nw w []) M w10 ([]) ∧ (RT.rs (RT.rs (RT.int .i64))).val M w10 (.slice pa0 pn0 pc0) a_ ([])) (K := (k_laws_heldIntSS M w)) ?_ ?_ 0 k o13 _ _ ?_ hl14 ?_
  · rintro k11 s9 a w10 ⟨σ, rfl, hC, hO, h0⟩ hlt
    refine c_seq ?_
    refine c_seq ?_
    refine c_region ?_
    refine pl_val (.int .i64 k11) (y_move rfl) ?_
    refine pl_val (.slice pa0 pn0 pc0) (y_move rfl) ?_
    refine pl_val (.int .i64 (a_.length : Int)) (y_len' Sl29 (rs_len h0) rfl) ?_
    refine pl_val (.bool (decide (k11 < (a_.length : Int)))) (y_lss rfl rfl) ?_
    refine c_nil ?_
    refine c_condF (congrArg Value.bool (decide_eq_false hlt)) ?_
    refine wp_exit ?_
    exact ⟨rfl, _, fr_ovl 21 ⟨rfl, trivial⟩, hC, hO, h0⟩
  · rintro k11 s9 o13 a w10 ⟨σ, rfl, hC, hO, h0⟩ hlt hw hs
    refine c_seq ?_
    refine c_seq ?_
    refine c_region ?_
    refine pl_val (.int .i64 k11) (y_move rfl) ?_
    refine pl_val (.slice pa0 pn0 pc0) (y_move rfl) ?_
    refine pl_val (.int .i64 (a_.length : Int)) (y_len' Sl29 (rs_len h0) rfl) ?_
    refine pl_val (.bool (decide (k11 < (a_.length : Int)))) (y_lss rfl rfl) ?_
    refine c_nil ?_
    refine c_condT (congrArg Value.bool (decide_eq_true hlt)) ?_
    refine wp_skip ?_
    refine c_seq ?_
    refine wp_block ?_
    refine c_seq ?_
    refine c_region ?_
    refine pl_val (.slice pa0 pn0 pc0) (y_move rfl) ?_
    refine pl_val (.int .i64 k11) (y_move rfl) ?_
    obtain ⟨x15, hx15, hs⟩ := bind_some hs
    obtain ⟨b16, o16, hp16, ha16⟩ := rs_idx Sl29 Sz22 h0 hx15
    refine pl_val (.pointer (some ⟨b16, o16, none⟩)) (hp16 _ _ _ _ _ _ _ _ _ rfl rfl) ?_
    obtain ⟨v17, hl17, hv17⟩ := at_load Ag22 Sz22 (fun _ => rfl) ha16
    obtain ⟨a17, n17, c17, rfl⟩ := rs_sl hv17
    refine pl_val (.slice a17 n17 c17) (y_load rfl (hl17 _ (Chg.refl _ _))) ?_
    refine pl_val (.int .i64 s9) (y_move rfl) ?_
    obtain ⟨r20, hr20, hs⟩ := bind_some hs
    refine pl_call Bd20 rfl (c_laws_heldIntS (M := M) x15 s9 hv17 hO.fut hr20) ?_
    rintro _ w19 ⟨rfl, hC19⟩
    have h0 := h0.ext hC19
    have hv17 := hv17.ext hC19
    have hC := hC.ext hC19
    have hO := hO.ext hC19
    refine pl_val (.int .i64 r20) (y_assign rfl) ?_
    refine c_nil ?_
    refine c_seq ?_
    refine c_region ?_
    refine pl_val (.int .i64 r20) (y_move rfl) ?_
    refine pl_val (.bool (decide (r20 < 0))) (y_lss rfl rfl) ?_
    refine c_nil ?_
    rcases bif_some hs with ⟨hc21, hs⟩ | ⟨hc21, hs⟩
    · skip
      refine c_condT (congrArg Value.bool hc21) ?_
      refine c_seq ?_
      refine c_region ?_
      refine pl_val (.int .i64 (-1)) (y_assign rfl) ?_
      refine c_nil ?_
      refine wp_ret ?_
      cases hs
      exact ⟨_, fr_ovl 21 ⟨rfl, trivial⟩, hC⟩
    · skip
      refine c_condF (congrArg Value.bool hc21) ?_
      refine wp_skip ?_
      refine c_region ?_
      refine pl_val (.int .i64 k11) (y_move rfl) ?_
      refine pl_val (.int .i64 (w64 (k11 + 1))) (y_add rfl rfl) ?_
      refine pl_val (.int .i64 (w64 (k11 + 1))) (y_assign rfl) ?_
      refine c_nil ?_
      cases hs
      exact ⟨_, fr_ovl 21 ⟨rfl, rfl, congrArg (Value.int .i64) hw, trivial⟩, hC, hO, h0⟩
  · skip
    exact ⟨_, fr_ovl 21 ⟨rfl, rfl, rfl, trivial⟩, hC, hO, h0⟩
  · cases o13 with
    | nx _ => exact True.intro
    | rt r_ =>
      have hs := after_rt hs
      intro a1 w1 hK
      cases hs
      exact hK
    | br s9 =>
      have hs := after_br hs
      rintro a1 w10 ⟨σ, rfl, hC, hO, h0⟩
      refine c_seq ?_
      refine c_region ?_
      refine pl_val (.int .i64 s9) (y_move rfl) ?_
      refine pl_val (.int .i64 s9) (y_assign rfl) ?_
      refine c_nil ?_
      refine wp_ret ?_
      cases hs
      exact ⟨_, fr_ovl 21 ⟨rfl, trivial⟩, hC⟩

theorem Bd83 : Bodied Try.prog 83 := bodied Try.func83 (by kernel_rfl) rfl

def k_laws_heldRelation (M : Nat → Prop) (w0 : World) (r : Int) (a : Act) (w : World) : Prop :=
  ∃ (σ : Nat → Value) , a = fr 12 (ovl σ [(4, (.int .i64 r))]) ∧ Chg [] w0 w
def s_laws_heldRelation (a_ : Int × (List (List Int))) (k : Int) : Option (Int) :=
  (s_laws_heldIntSS a_.2 k).bind fun r4 =>
  (bif (decide (r4 < 0)) then some (-1) else some r4)
set_option maxHeartbeats 4000000 in
theorem c_laws_heldRelation {M : Nat → Prop} {w : World} {pa0 : Option Addr} {pn0 pc0 : Nat} (a_ : Int × (List (List Int))) (k : Int) (h0 : (RT.rs (RT.rs (RT.int .i64))).val M w (.slice pa0 pn0 pc0) a_.2 ([])) (hM : ∀ g, w.heap.size ≤ g → M g) {r : Int} (hs : s_laws_heldRelation a_ k = some r) :
    Gives Try.prog 25 [(.agg #[(.int .i64 a_.1), (.slice pa0 pn0 pc0)]), (.int .i64 k)] w (fun v w' => v = (.int .i64 r) ∧ Chg [] w w') := by
  refine calls_fr Try.func25 rfl Try.ntmps25 (Nat.le_of_ble_eq_true rfl) ?_
  have hO := Own.start (N := Nw w []) hM Nw.fut
  have hC := Chg.refl [] w
  unfold s_laws_heldRelation at hs
  refine wp_mono (Q := KPost (k_laws_heldRelation M w r)) ?_ (fun e a w1 h => ?_)
  rotate_left
  · cases e
    case ret =>
      obtain ⟨σ, rfl, hrest⟩ := h
      exact ret1x Try.results25 (res_tmp rfl) ⟨rfl, hrest⟩
    all_goals exact (h : False).elim
  refine c_seq ?_
  refine c_region ?_
  obtain ⟨w2, g2, ew2, eg2, hC2, hb2⟩ := new_block w [(.int .i64 a_.1), (.slice pa0 pn0 pc0)] 31
  refine pl_val (w' := w2) (.pointer (some ⟨g2, 0, none⟩)) (y_box rfl (by rw [ew2, eg2]; kernel_rfl)) ?_
  have h0 := h0.ext hC2
  have hC := hC.ext hC2
  have hO := hO.new (X' := [g2]) hC2 (fun q hq => by rw [List.mem_singleton.1 hq, eg2]; exact Nat.le_refl _) (List.nodup_cons.2 ⟨(fun h => nomatch h), List.nodup_nil⟩) (fun q hq => by rw [List.mem_singleton.1 hq]; exact hb2.lt)
  refine pl_val (.int .i64 0) (y_assign rfl) ?_
  refine c_nil ?_
  refine c_seq ?_
  refine c_region ?_
  refine pl_val (.pointer (some ⟨g2, 1, none⟩)) (y_faddr rfl Fa31x1) ?_
  refine pl_val (.slice pa0 pn0 pc0) (y_load rfl ((box_load Ag29 Sz29 hb2 [(.int .i64 a_.1)] [(.slice pa0 pn0 pc0)] [] rfl rfl (fun _ => rfl)) _ (Chg.refl _ _))) ?_
  refine pl_val (.int .i64 k) (y_move rfl) ?_
  obtain ⟨r4, hr4, hs⟩ := bind_some hs
  refine pl_call Bd83 rfl (c_laws_heldIntSS (M := M) a_.2 k h0 hO.fut hr4) ?_
  rintro _ w3 ⟨rfl, hC3⟩
  have h0 := h0.ext hC3
  have hb2 := hb2.chg hC3 (fun h => nomatch h)
  have hC := hC.ext hC3
  have hO := hO.ext hC3
  refine pl_val (.int .i64 r4) (y_assign rfl) ?_
  refine c_nil ?_
  refine c_seq ?_
  refine c_seq ?_
  refine c_region ?_
  refine pl_val (.int .i64 r4) (y_move rfl) ?_
  refine pl_val (.bool (decide (r4 < 0))) (y_lss rfl rfl) ?_
  refine c_nil ?_
  rcases bif_some hs with ⟨hc5, hs⟩ | ⟨hc5, hs⟩
  · skip
    refine c_condT (congrArg Value.bool hc5) ?_
    refine c_seq ?_
    refine c_region ?_
    refine pl_val (.int .i64 (-1)) (y_assign rfl) ?_
    refine c_nil ?_
    refine wp_ret ?_
    cases hs
    exact ⟨_, fr_ovl 12 ⟨rfl, trivial⟩, hC⟩
  · skip
    refine c_condF (congrArg Value.bool hc5) ?_
    refine wp_skip ?_
    refine c_seq ?_
    refine c_region ?_
    refine pl_val (.int .i64 r4) (y_move rfl) ?_
    refine pl_val (.int .i64 r4) (y_assign rfl) ?_
    refine c_nil ?_
    refine wp_ret ?_
    cases hs
    exact ⟨_, fr_ovl 12 ⟨rfl, trivial⟩, hC⟩

theorem Bd16 : Bodied Try.prog 16 := bodied Try.func16 (by kernel_rfl) rfl

theorem Bd21 : Bodied Try.prog 21 := bodied Try.func21 (by kernel_rfl) rfl

theorem Bd22 : Bodied Try.prog 22 := bodied Try.func22 (by kernel_rfl) rfl

theorem Bd23 : Bodied Try.prog 23 := bodied Try.func23 (by kernel_rfl) rfl

theorem Bd24 : Bodied Try.prog 24 := bodied Try.func24 (by kernel_rfl) rfl

theorem Bd25 : Bodied Try.prog 25 := bodied Try.func25 (by kernel_rfl) rfl

def k_laws_FnExactProductOfPartitions (M : Nat → Prop) (w0 : World) (r : Bool) (a : Act) (w : World) : Prop :=
  ∃ (σ : Nat → Value) , a = fr 119 (ovl σ [(6, (.bool r))]) ∧ Chg [] w0 w
def s_laws_FnExactProductOfPartitions (aN : Int) (aP : List Int) (aQ : List Int) : Option (Bool) :=
  (bif (decide (1048576 < (aP.length : Int))) then some true else (bif (decide (1048576 < (aQ.length : Int))) then some true else (s_laws_toIntS aP).bind fun r6 =>
  (s_laws_toIntS aQ).bind fun r9 =>
  (s_spec_ProductOfPartitions aN r6 r9).bind fun r12 =>
  (s_laws_toIntS aP).bind fun r17 =>
  (s_laws_toIntS aQ).bind fun r20 =>
  (s_impl_ProductOfPartitions aN r17 r20).bind fun r23 =>
  ((s_laws_eqRelation (r23.1.1, r23.1.2) (r12.1.1, r12.1.2)).bind fun r31 =>
  (bif (!r31) then some true else some (!(r23.2 == r12.2)))).bind fun s27 =>
  (bif s27 then some false else (s_laws_toIntS aP).bind fun r35 =>
  (s_laws_eqIntS r17 r35).bind fun r38 =>
  (bif (!r38) then some false else (s_laws_toIntS aQ).bind fun r41 =>
  (s_laws_eqIntS r20 r41).bind fun r44 =>
  (bif (!r44) then some false else (s_laws_markIntS r17 1).bind fun r47 =>
  (s_laws_markIntS r20 r47.1).bind fun r49 =>
  ((bif (decide (r49.1 < 0)) then some true else (s_laws_eqRelation (r23.1.1, r23.1.2) (r12.1.1, r12.1.2)).bind fun r55 =>
  (bif (!r55) then some true else some (!(r23.2 == r12.2))))).bind fun s50 =>
  (bif s50 then some false else (s_laws_markRelation (r23.1.1, r23.1.2) 1).bind fun r59 =>
  (s_laws_heldRelation (r23.1.1, r59.2) 1).bind fun r61 =>
  (bif (decide (r61 < 0)) then some false else (bif (r61 != r59.1) then some false else (s_laws_toIntS aP).bind fun r65 =>
  (s_laws_toIntS aQ).bind fun r68 =>
  (s_impl_ProductOfPartitions aN r65 r68).bind fun r71 =>
  ((s_laws_eqRelation (r71.1.1, r71.1.2) (r12.1.1, r12.1.2)).bind fun r79 =>
  (bif (!r79) then some true else some (!(r71.2 == r12.2)))).bind fun s75 =>
  (bif s75 then some false else (s_laws_heldRelation (r23.1.1, r59.2) 1).bind fun r83 =>
  (bif (decide (r83 < 0)) then some false else (bif (r83 != r59.1) then some false else some true)))))))))))
set_option maxHeartbeats 4000000 in
theorem c_laws_FnExactProductOfPartitions {M : Nat → Prop} {w : World} {pa0 : Option Addr} {pn0 pc0 : Nat} {pa1 : Option Addr} {pn1 pc1 : Nat} (aN : Int) (aP : List Int) (aQ : List Int) (h0 : (RT.rs (RT.int .i64)).val M w (.slice pa0 pn0 pc0) aP ([])) (h1 : (RT.rs (RT.int .i64)).val M w (.slice pa1 pn1 pc1) aQ ([])) (hM : ∀ g, w.heap.size ≤ g → M g) {r : Bool} (hs : s_laws_FnExactProductOfPartitions aN aP aQ = some r) :
    Gives Try.prog 4 [(.int .i64 aN), (.slice pa0 pn0 pc0), (.slice pa1 pn1 pc1)] w (fun v w' => v = (.bool r) ∧ Chg [] w w') := by
  refine calls_fr Try.func4 rfl Try.ntmps4 (Nat.le_of_ble_eq_true rfl) ?_
  have hO := Own.start (N := Nw w []) hM Nw.fut
  have hC := Chg.refl [] w
  unfold s_laws_FnExactProductOfPartitions at hs
  refine wp_mono (Q := KPost (k_laws_FnExactProductOfPartitions M w r)) ?_ (fun e a w1 h => ?_)
  rotate_left
  · cases e
    case ret =>
      obtain ⟨σ, rfl, hrest⟩ := h
      exact ret1x Try.results4 (res_tmp rfl) ⟨rfl, hrest⟩
    all_goals exact (h : False).elim
  refine c_seq ?_
  refine c_region ?_
  refine pl_val (.bool false) (y_assign rfl) ?_
  refine c_nil ?_
  refine c_seq ?_
  refine c_seq ?_
  refine c_region ?_
  refine pl_val (.slice pa0 pn0 pc0) (y_move rfl) ?_
  refine pl_val (.int .i64 (aP.length : Int)) (y_len' Sl22 (rs_len h0) rfl) ?_
  refine pl_val (.bool (decide (1048576 < (aP.length : Int)))) (y_gtr rfl rfl) ?_
  refine c_nil ?_
  rcases bif_some hs with ⟨hc3, hs⟩ | ⟨hc3, hs⟩
  · skip
    refine c_condT (congrArg Value.bool hc3) ?_
    refine c_seq ?_
    refine c_region ?_
    refine pl_val (.bool true) (y_assign rfl) ?_
    refine c_nil ?_
    refine wp_ret ?_
    cases hs
    exact ⟨_, fr_ovl 119 ⟨rfl, trivial⟩, hC⟩
  · skip
    refine c_condF (congrArg Value.bool hc3) ?_
    refine wp_skip ?_
    refine c_seq ?_
    refine c_seq ?_
    refine c_region ?_
    refine pl_val (.slice pa1 pn1 pc1) (y_move rfl) ?_
    refine pl_val (.int .i64 (aQ.length : Int)) (y_len' Sl22 (rs_len h1) rfl) ?_
    refine pl_val (.bool (decide (1048576 < (aQ.length : Int)))) (y_gtr rfl rfl) ?_
    refine c_nil ?_
    rcases bif_some hs with ⟨hc4, hs⟩ | ⟨hc4, hs⟩
    · skip
      refine c_condT (congrArg Value.bool hc4) ?_
      refine c_seq ?_
      refine c_region ?_
      refine pl_val (.bool true) (y_assign rfl) ?_
      refine c_nil ?_
      refine wp_ret ?_
      cases hs
      exact ⟨_, fr_ovl 119 ⟨rfl, trivial⟩, hC⟩
    · skip
      refine c_condF (congrArg Value.bool hc4) ?_
      refine wp_skip ?_
      refine c_seq ?_
      refine c_region ?_
      refine pl_val (.int .i64 aN) (y_move rfl) ?_
      refine pl_val (.slice pa0 pn0 pc0) (y_move rfl) ?_
      obtain ⟨r6, hr6, hs⟩ := bind_some hs
      refine pl_call Bd16 rfl (c_laws_toIntS (M := M) aP h0 hO.fut hr6) ?_
      rintro _ w5 ⟨a5x0, n5x0, c5x0, f5x0, rfl, hC5, hv5x0, hOc5⟩
      have h0 := h0.ext hC5
      have h1 := h1.ext hC5
      have hC := hC.ext hC5
      have hO := Own.join0 hO hC5 hOc5
      have hO := hO.perm (R := f5x0 ++ ([])) (by simp)
      refine pl_val (.slice pa1 pn1 pc1) (y_move rfl) ?_
      obtain ⟨r9, hr9, hs⟩ := bind_some hs
      refine pl_call Bd16 rfl (c_laws_toIntS (M := M) aQ h1 hO.fut hr9) ?_
      rintro _ w8 ⟨a8x0, n8x0, c8x0, f8x0, rfl, hC8, hv8x0, hOc8⟩
      have h0 := h0.ext hC8
      have h1 := h1.ext hC8
      have hv5x0 := hv5x0.ext hC8
      have hC := hC.ext hC8
      have hO := Own.join0 hO hC8 hOc8
      have hO := hO.perm (R := f8x0 ++ (f5x0 ++ ([]))) (by simp)
      have hO := hO.fr1
      obtain ⟨r12, hr12, hs⟩ := bind_some hs
      refine pl_call Bd21 rfl (c_spec_ProductOfPartitions (M := (Less (Less M f5x0) f8x0)) aN r6 r9 ((((Frz.os Frz.int)).val hv5x0 Less.sub Less.not).sub Less.sub) (((Frz.os Frz.int)).val (hv8x0.sub Less.sub) Less.sub Less.not) (hO.less).less.fut hr12) ?_
      rintro _ w11 ⟨a11x0, n11x0, c11x0, f11x0, rfl, hC11, hv11x0, hOc11⟩
      have h0 := h0.ext hC11
      have h1 := h1.ext hC11
      have hv5x0 := hv5x0.ext hC11
      have hv8x0 := hv8x0.ext hC11
      have hC := hC.ext hC11
      have hO := Own.join0 hO hC11 hOc11
      have hO := hO.perm (R := f11x0 ++ (f5x0 ++ (f8x0 ++ ([])))) (by simp)
      have hv11x0 := hv11x0.free (M' := M) (Free.os (Free.os Free.int))
      refine pl_val (.tuple #[(.agg #[(.int .i64 r12.1.1), (.slice a11x0 n11x0 c11x0)]), (.bool r12.2)]) (y_move rfl) ?_
      refine pl_val (.agg #[(.int .i64 r12.1.1), (.slice a11x0 n11x0 c11x0)]) (y_extract rfl (by kernel_rfl)) ?_
      refine pl_val (.bool r12.2) (y_extract rfl (by kernel_rfl)) ?_
      obtain ⟨w14, g14, ew14, eg14, hC14, hb14⟩ := new_block w11 [(.int .i64 0), (.slice none 0 0)] 31
      refine pl_val (w' := w14) (.pointer (some ⟨g14, 0, none⟩)) (y_alloc (by rw [ew14, eg14]; kernel_rfl)) ?_
      have h0 := h0.ext hC14
      have h1 := h1.ext hC14
      have hv5x0 := hv5x0.ext hC14
      have hv8x0 := hv8x0.ext hC14
      have hv11x0 := hv11x0.ext hC14
      have hC := hC.ext hC14
      have hO := hO.new (X' := [g14]) hC14 (fun q hq => by rw [List.mem_singleton.1 hq, eg14]; exact Nat.le_refl _) (List.nodup_cons.2 ⟨(fun h => nomatch h), List.nodup_nil⟩) (fun q hq => by rw [List.mem_singleton.1 hq]; exact hb14.lt)
      obtain ⟨w15, hst15, hC15, hb15⟩ := box_store (P := Try.prog) hb14 [] [(.int .i64 0), (.slice none 0 0)] [] [(.int .i64 r12.1.1), (.slice a11x0 n11x0 c11x0)] rfl rfl (by intro u hu; simp only [List.mem_cons, List.not_mem_nil, or_false] at hu; rcases hu with rfl | rfl <;> rfl)
      refine pl_skip (w' := w15) (ys_store rfl rfl (hst15 _ _ rfl Sz31)) ?_
      have h0 := h0.mut hC15 (fun g hg => hO.inM g ((fun _ h => h) g hg)) (fun _ _ h => nomatch h)
      have h1 := h1.mut hC15 (fun g hg => hO.inM g ((fun _ h => h) g hg)) (fun _ _ h => nomatch h)
      have hv5x0 := hv5x0.mut hC15 (fun g hg => hO.inM g ((fun _ h => h) g hg)) (fun g hg e => hO.apart g ((fun _ h => h) g hg) (mem_r (mem_l (e))))
      have hv8x0 := hv8x0.mut hC15 (fun g hg => hO.inM g ((fun _ h => h) g hg)) (fun g hg e => hO.apart g ((fun _ h => h) g hg) (mem_r (mem_r (mem_l (e)))))
      have hv11x0 := hv11x0.mut hC15 (fun g hg => hO.inM g ((fun _ h => h) g hg)) (fun g hg e => hO.apart g ((fun _ h => h) g hg) (mem_l (e)))
      have hC := hC.step hC15 (fun g hg => hO.inN g ((fun _ h => h) g hg))
      have hO := hO.ext hC15
      have hb15 : BoxV w15 g14 31 [(.int .i64 r12.1.1), (.slice a11x0 n11x0 c11x0)] := hb15
      refine pl_val (.bool r12.2) (y_assign rfl) ?_
      refine c_nil ?_
      refine c_seq ?_
      refine c_region ?_
      refine pl_val (.slice pa0 pn0 pc0) (y_move rfl) ?_
      obtain ⟨r17, hr17, hs⟩ := bind_some hs
      refine pl_call Bd16 rfl (c_laws_toIntS (M := M) aP h0 hO.fut hr17) ?_
      rintro _ w16 ⟨a16x0, n16x0, c16x0, f16x0, rfl, hC16, hv16x0, hOc16⟩
      have h0 := h0.ext hC16
      have h1 := h1.ext hC16
      have hv5x0 := hv5x0.ext hC16
      have hv8x0 := hv8x0.ext hC16
      have hv11x0 := hv11x0.ext hC16
      have hb15 := hb15.chg hC16 (fun h => nomatch h)
      have hC := hC.ext hC16
      have hO := Own.join0 hO hC16 hOc16
      have hO := hO.perm (R := f16x0 ++ (([g14]) ++ (f11x0 ++ (f5x0 ++ (f8x0 ++ ([])))))) (by simp)
      refine pl_val (.slice a16x0 n16x0 c16x0) (y_assign rfl) ?_
      refine c_nil ?_
      refine c_seq ?_
      refine c_region ?_
      refine pl_val (.slice pa1 pn1 pc1) (y_move rfl) ?_
      obtain ⟨r20, hr20, hs⟩ := bind_some hs
      refine pl_call Bd16 rfl (c_laws_toIntS (M := M) aQ h1 hO.fut hr20) ?_
      rintro _ w19 ⟨a19x0, n19x0, c19x0, f19x0, rfl, hC19, hv19x0, hOc19⟩
      have h0 := h0.ext hC19
      have h1 := h1.ext hC19
      have hv5x0 := hv5x0.ext hC19
      have hv8x0 := hv8x0.ext hC19
      have hv11x0 := hv11x0.ext hC19
      have hb15 := hb15.chg hC19 (fun h => nomatch h)
      have hv16x0 := hv16x0.ext hC19
      have hC := hC.ext hC19
      have hO := Own.join0 hO hC19 hOc19
      have hO := hO.perm (R := f19x0 ++ (f16x0 ++ (([g14]) ++ (f11x0 ++ (f5x0 ++ (f8x0 ++ ([]))))))) (by simp)
      refine pl_val (.slice a19x0 n19x0 c19x0) (y_assign rfl) ?_
      refine c_nil ?_
      refine c_seq ?_
      refine c_region ?_
      refine pl_val (.int .i64 aN) (y_move rfl) ?_
      refine pl_val (.slice a16x0 n16x0 c16x0) (y_move rfl) ?_
      refine pl_val (.slice a19x0 n19x0 c19x0) (y_move rfl) ?_
      have hO := hO.fr1
      obtain ⟨r23, hr23, hs⟩ := bind_some hs
      refine pl_call Bd22 rfl (c_impl_ProductOfPartitions (M := (Less (Less M f16x0) f19x0)) aN r17 r20 ((((Frz.os Frz.int)).val hv16x0 Less.sub Less.not).sub Less.sub) (((Frz.os Frz.int)).val (hv19x0.sub Less.sub) Less.sub Less.not) (hO.less).less.fut hr23) ?_
      rintro _ w22 ⟨a22x0, n22x0, c22x0, f22x0, rfl, hC22, hv22x0, hOc22⟩
      have h0 := h0.ext hC22
      have h1 := h1.ext hC22
      have hv5x0 := hv5x0.ext hC22
      have hv8x0 := hv8x0.ext hC22
      have hv11x0 := hv11x0.ext hC22
      have hb15 := hb15.chg hC22 (fun h => nomatch h)
      have hv16x0 := hv16x0.ext hC22
      have hv19x0 := hv19x0.ext hC22
      have hC := hC.ext hC22
      have hO := Own.join0 hO hC22 hOc22
      have hO := hO.perm (R := f22x0 ++ (f16x0 ++ (f19x0 ++ (([g14]) ++ (f11x0 ++ (f5x0 ++ (f8x0 ++ ([])))))))) (by simp)
      have hv22x0 := hv22x0.free (M' := M) (Free.os (Free.os Free.int))
      refine pl_val (.tuple #[(.agg #[(.int .i64 r23.1.1), (.slice a22x0 n22x0 c22x0)]), (.bool r23.2)]) (y_move rfl) ?_
      refine pl_val (.agg #[(.int .i64 r23.1.1), (.slice a22x0 n22x0 c22x0)]) (y_extract rfl (by kernel_rfl)) ?_
      refine pl_val (.bool r23.2) (y_extract rfl (by kernel_rfl)) ?_
      obtain ⟨w25, g25, ew25, eg25, hC25, hb25⟩ := new_block w22 [(.int .i64 0), (.slice none 0 0)] 31
      refine pl_val (w' := w25) (.pointer (some ⟨g25, 0, none⟩)) (y_alloc (by rw [ew25, eg25]; kernel_rfl)) ?_
      have h0 := h0.ext hC25
      have h1 := h1.ext hC25
      have hv5x0 := hv5x0.ext hC25
      have hv8x0 := hv8x0.ext hC25
      have hv11x0 := hv11x0.ext hC25
      have hb15 := hb15.chg hC25 (fun h => nomatch h)
      have hv16x0 := hv16x0.ext hC25
      have hv19x0 := hv19x0.ext hC25
      have hv22x0 := hv22x0.ext hC25
      have hC := hC.ext hC25
      have hO := hO.new (X' := [g25]) hC25 (fun q hq => by rw [List.mem_singleton.1 hq, eg25]; exact Nat.le_refl _) (List.nodup_cons.2 ⟨(fun h => nomatch h), List.nodup_nil⟩) (fun q hq => by rw [List.mem_singleton.1 hq]; exact hb25.lt)
      obtain ⟨w26, hst26, hC26, hb26⟩ := box_store (P := Try.prog) hb25 [] [(.int .i64 0), (.slice none 0 0)] [] [(.int .i64 r23.1.1), (.slice a22x0 n22x0 c22x0)] rfl rfl (by intro u hu; simp only [List.mem_cons, List.not_mem_nil, or_false] at hu; rcases hu with rfl | rfl <;> rfl)
      refine pl_skip (w' := w26) (ys_store rfl rfl (hst26 _ _ rfl Sz31)) ?_
      have h0 := h0.mut hC26 (fun g hg => hO.inM g ((fun _ h => h) g hg)) (fun _ _ h => nomatch h)
      have h1 := h1.mut hC26 (fun g hg => hO.inM g ((fun _ h => h) g hg)) (fun _ _ h => nomatch h)
      have hv5x0 := hv5x0.mut hC26 (fun g hg => hO.inM g ((fun _ h => h) g hg)) (fun g hg e => hO.apart g ((fun _ h => h) g hg) (mem_r (mem_r (mem_r (mem_r (mem_r (mem_l (e))))))))
      have hv8x0 := hv8x0.mut hC26 (fun g hg => hO.inM g ((fun _ h => h) g hg)) (fun g hg e => hO.apart g ((fun _ h => h) g hg) (mem_r (mem_r (mem_r (mem_r (mem_r (mem_r (mem_l (e)))))))))
      have hv11x0 := hv11x0.mut hC26 (fun g hg => hO.inM g ((fun _ h => h) g hg)) (fun g hg e => hO.apart g ((fun _ h => h) g hg) (mem_r (mem_r (mem_r (mem_r (mem_l (e)))))))
      have hb15 := hb15.chg hC26 (fun hg => hO.apart _ ((fun _ h => h) _ hg) (mem_r (mem_r (mem_r (mem_l (List.mem_singleton.2 rfl))))))
      have hv16x0 := hv16x0.mut hC26 (fun g hg => hO.inM g ((fun _ h => h) g hg)) (fun g hg e => hO.apart g ((fun _ h => h) g hg) (mem_r (mem_l (e))))
      have hv19x0 := hv19x0.mut hC26 (fun g hg => hO.inM g ((fun _ h => h) g hg)) (fun g hg e => hO.apart g ((fun _ h => h) g hg) (mem_r (mem_r (mem_l (e)))))
      have hv22x0 := hv22x0.mut hC26 (fun g hg => hO.inM g ((fun _ h => h) g hg)) (fun g hg e => hO.apart g ((fun _ h => h) g hg) (mem_l (e)))
      have hC := hC.step hC26 (fun g hg => hO.inN g ((fun _ h => h) g hg))
      have hO := hO.ext hC26
      have hb26 : BoxV w26 g25 31 [(.int .i64 r23.1.1), (.slice a22x0 n22x0 c22x0)] := hb26
      refine pl_val (.bool r23.2) (y_assign rfl) ?_
      refine c_nil ?_
      refine c_seq ?_
      refine c_seq ?_
      obtain ⟨s27, hm29, hs⟩ := bind_some hs
      refine c_mid (I := fun a w28 => ∃ (σ : Nat → Value), a = fr 119 (ovl σ [(0, (.int .i64 aN)), (1, (.slice pa0 pn0 pc0)), (2, (.slice pa1 pn1 pc1)), (6, (.bool false)), (7, (.pointer (some ⟨g14, 0, none⟩))), (8, (.bool r12.2)), (9, (.slice a16x0 n16x0 c16x0)), (10, (.slice a19x0 n19x0 c19x0)), (11, (.pointer (some ⟨g25, 0, none⟩))), (12, (.bool r23.2)), (52, (.bool s27))]) ∧ Chg [] w26 w28) ?_ ?_
      · replace hs := hm29
        have hMid := Chg.refl [] w26
        refine c_region ?_
        refine pl_val (.agg #[(.int .i64 r23.1.1), (.slice a22x0 n22x0 c22x0)]) (y_load rfl ((box_load Ag31 Sz31 hb26 [] [(.int .i64 r23.1.1), (.slice a22x0 n22x0 c22x0)] [] rfl rfl (fun h => nomatch h)) _ (Chg.refl _ _))) ?_
        refine pl_val (.agg #[(.int .i64 r12.1.1), (.slice a11x0 n11x0 c11x0)]) (y_load rfl ((box_load Ag31 Sz31 hb15 [] [(.int .i64 r12.1.1), (.slice a11x0 n11x0 c11x0)] [] rfl rfl (fun h => nomatch h)) _ (Chg.refl _ _))) ?_
        have hO := hO.fr5
        have hO := hO.fr2
        obtain ⟨r31, hr31, hs⟩ := bind_some hs
        refine pl_call Bd23 rfl (c_laws_eqRelation (M := (Less (Less M f22x0) f11x0)) (r23.1.1, r23.1.2) (r12.1.1, r12.1.2) ((((Frz.os (Frz.os Frz.int))).val hv22x0 Less.sub Less.not).sub Less.sub) (((Frz.os (Frz.os Frz.int))).val (hv11x0.sub Less.sub) Less.sub Less.not) (hO.less).less.fut hr31) ?_
        rintro _ w30 ⟨rfl, hC30⟩
        have h0 := h0.ext hC30
        have h1 := h1.ext hC30
        have hv5x0 := hv5x0.ext hC30
        have hv8x0 := hv8x0.ext hC30
        have hv11x0 := hv11x0.ext hC30
        have hb15 := hb15.chg hC30 (fun h => nomatch h)
        have hv16x0 := hv16x0.ext hC30
        have hv19x0 := hv19x0.ext hC30
        have hv22x0 := hv22x0.ext hC30
        have hb26 := hb26.chg hC30 (fun h => nomatch h)
        have hMid := hMid.ext hC30
        have hC := hC.ext hC30
        have hO := hO.ext hC30
        refine pl_val (.bool (!r31)) (y_not rfl) ?_
        refine pl_val (.bool (!r31)) (y_move rfl) ?_
        rcases bif_some hs with ⟨hc32, hs⟩ | ⟨hc32, hs⟩
        · skip
          refine pl_not (tg := 48) (by kernel_rfl) (congrArg Value.bool hc32) ?_
          refine pl_not (tg := 48) (by kernel_rfl) (congrArg Value.bool hc32) ?_
          refine pl_not (tg := 48) (by kernel_rfl) (congrArg Value.bool hc32) ?_
          refine pl_val (.bool true) (y_pick_t (congrArg Value.bool hc32) rfl) ?_
          refine c_nil ?_
          cases hs
          exact ⟨_, fr_ovl 119 ⟨rfl, rfl, rfl, rfl, rfl, rfl, rfl, rfl, rfl, rfl, rfl, trivial⟩, hMid⟩
        · skip
          refine pl_yes (.bool r23.2) (tg := 48) (by kernel_rfl) (congrArg Value.bool hc32) (y_move rfl) ?_
          refine pl_yes (.bool r12.2) (tg := 48) (by kernel_rfl) (congrArg Value.bool hc32) (y_move rfl) ?_
          refine pl_yes (.bool (!(r23.2 == r12.2))) (tg := 48) (by kernel_rfl) (congrArg Value.bool hc32) (y_bneq Try.underlying4 rfl rfl) ?_
          refine pl_val (.bool (!(r23.2 == r12.2))) (y_pick_f (congrArg Value.bool hc32) rfl) ?_
          refine c_nil ?_
          cases hs
          exact ⟨_, fr_ovl 119 ⟨rfl, rfl, rfl, rfl, rfl, rfl, rfl, rfl, rfl, rfl, rfl, trivial⟩, hMid⟩
      · rintro a1 w28 ⟨σ, rfl, hCs27⟩
        have h0 := h0.ext hCs27
        have h1 := h1.ext hCs27
        have hv5x0 := hv5x0.ext hCs27
        have hv8x0 := hv8x0.ext hCs27
        have hv11x0 := hv11x0.ext hCs27
        have hb15 := hb15.chg hCs27 (fun h => nomatch h)
        have hv16x0 := hv16x0.ext hCs27
        have hv19x0 := hv19x0.ext hCs27
        have hv22x0 := hv22x0.ext hCs27
        have hb26 := hb26.chg hCs27 (fun h => nomatch h)
        have hC := hC.ext hCs27
        have hO := hO.ext hCs27
        rcases bif_some hs with ⟨hc33, hs⟩ | ⟨hc33, hs⟩
        · skip
          refine c_condT (congrArg Value.bool hc33) ?_
          refine c_seq ?_
          refine c_region ?_
          refine pl_val (.bool false) (y_assign rfl) ?_
          refine c_nil ?_
          refine wp_ret ?_
          cases hs
          exact ⟨_, fr_ovl 119 ⟨rfl, trivial⟩, hC⟩
        · skip
          refine c_condF (congrArg Value.bool hc33) ?_
          refine wp_skip ?_
          refine c_seq ?_
          refine c_seq ?_
          refine c_region ?_
          refine pl_val (.slice a16x0 n16x0 c16x0) (y_move rfl) ?_
          refine pl_val (.slice pa0 pn0 pc0) (y_move rfl) ?_
          obtain ⟨r35, hr35, hs⟩ := bind_some hs
          refine pl_call Bd16 rfl (c_laws_toIntS (M := M) aP h0 hO.fut hr35) ?_
          rintro _ w34 ⟨a34x0, n34x0, c34x0, f34x0, rfl, hC34, hv34x0, hOc34⟩
          have h0 := h0.ext hC34
          have h1 := h1.ext hC34
          have hv5x0 := hv5x0.ext hC34
          have hv8x0 := hv8x0.ext hC34
          have hv11x0 := hv11x0.ext hC34
          have hb15 := hb15.chg hC34 (fun h => nomatch h)
          have hv16x0 := hv16x0.ext hC34
          have hv19x0 := hv19x0.ext hC34
          have hv22x0 := hv22x0.ext hC34
          have hb26 := hb26.chg hC34 (fun h => nomatch h)
          have hC := hC.ext hC34
          have hO := Own.join0 hO hC34 hOc34
          have hO := hO.perm (R := f34x0 ++ (([g25]) ++ (f22x0 ++ (f16x0 ++ (f19x0 ++ (([g14]) ++ (f11x0 ++ (f5x0 ++ (f8x0 ++ ([])))))))))) (by simp)
          have hO := hO.fr3
          obtain ⟨r38, hr38, hs⟩ := bind_some hs
          refine pl_call Bd18 rfl (c_laws_eqIntS (M := (Less (Less M f16x0) f34x0)) r17 r35 ((((Frz.os Frz.int)).val hv16x0 Less.sub Less.not).sub Less.sub) (((Frz.os Frz.int)).val (hv34x0.sub Less.sub) Less.sub Less.not) (hO.less).less.fut hr38) ?_
          rintro _ w37 ⟨rfl, hC37⟩
          have h0 := h0.ext hC37
          have h1 := h1.ext hC37
          have hv5x0 := hv5x0.ext hC37
          have hv8x0 := hv8x0.ext hC37
          have hv11x0 := hv11x0.ext hC37
          have hb15 := hb15.chg hC37 (fun h => nomatch h)
          have hv16x0 := hv16x0.ext hC37
          have hv19x0 := hv19x0.ext hC37
          have hv22x0 := hv22x0.ext hC37
          have hb26 := hb26.chg hC37 (fun h => nomatch h)
          have hv34x0 := hv34x0.ext hC37
          have hC := hC.ext hC37
          have hO := hO.ext hC37
          refine pl_val (.bool (!r38)) (y_not rfl) ?_
          refine c_nil ?_
          rcases bif_some hs with ⟨hc39, hs⟩ | ⟨hc39, hs⟩
          · skip
            refine c_condT (congrArg Value.bool hc39) ?_
            refine c_seq ?_
            refine c_region ?_
            refine pl_val (.bool false) (y_assign rfl) ?_
            refine c_nil ?_
            refine wp_ret ?_
            cases hs
            exact ⟨_, fr_ovl 119 ⟨rfl, trivial⟩, hC⟩
          · skip
            refine c_condF (congrArg Value.bool hc39) ?_
            refine wp_skip ?_
            refine c_seq ?_
            refine c_seq ?_
            refine c_region ?_
            refine pl_val (.slice a19x0 n19x0 c19x0) (y_move rfl) ?_
            refine pl_val (.slice pa1 pn1 pc1) (y_move rfl) ?_
            obtain ⟨r41, hr41, hs⟩ := bind_some hs
            refine pl_call Bd16 rfl (c_laws_toIntS (M := M) aQ h1 hO.fut hr41) ?_
            rintro _ w40 ⟨a40x0, n40x0, c40x0, f40x0, rfl, hC40, hv40x0, hOc40⟩
            have h0 := h0.ext hC40
            have h1 := h1.ext hC40
            have hv5x0 := hv5x0.ext hC40
            have hv8x0 := hv8x0.ext hC40
            have hv11x0 := hv11x0.ext hC40
            have hb15 := hb15.chg hC40 (fun h => nomatch h)
            have hv16x0 := hv16x0.ext hC40
            have hv19x0 := hv19x0.ext hC40
            have hv22x0 := hv22x0.ext hC40
            have hb26 := hb26.chg hC40 (fun h => nomatch h)
            have hv34x0 := hv34x0.ext hC40
            have hC := hC.ext hC40
            have hO := Own.join0 hO hC40 hOc40
            have hO := hO.perm (R := f40x0 ++ (f16x0 ++ (f34x0 ++ (([g25]) ++ (f22x0 ++ (f19x0 ++ (([g14]) ++ (f11x0 ++ (f5x0 ++ (f8x0 ++ ([]))))))))))) (by simp)
            have hO := hO.fr5
            obtain ⟨r44, hr44, hs⟩ := bind_some hs
            refine pl_call Bd18 rfl (c_laws_eqIntS (M := (Less (Less M f19x0) f40x0)) r20 r41 ((((Frz.os Frz.int)).val hv19x0 Less.sub Less.not).sub Less.sub) (((Frz.os Frz.int)).val (hv40x0.sub Less.sub) Less.sub Less.not) (hO.less).less.fut hr44) ?_
            rintro _ w43 ⟨rfl, hC43⟩
            have h0 := h0.ext hC43
            have h1 := h1.ext hC43
            have hv5x0 := hv5x0.ext hC43
            have hv8x0 := hv8x0.ext hC43
            have hv11x0 := hv11x0.ext hC43
            have hb15 := hb15.chg hC43 (fun h => nomatch h)
            have hv16x0 := hv16x0.ext hC43
            have hv19x0 := hv19x0.ext hC43
            have hv22x0 := hv22x0.ext hC43
            have hb26 := hb26.chg hC43 (fun h => nomatch h)
            have hv34x0 := hv34x0.ext hC43
            have hv40x0 := hv40x0.ext hC43
            have hC := hC.ext hC43
            have hO := hO.ext hC43
            refine pl_val (.bool (!r44)) (y_not rfl) ?_
            refine c_nil ?_
            rcases bif_some hs with ⟨hc45, hs⟩ | ⟨hc45, hs⟩
            · skip
              refine c_condT (congrArg Value.bool hc45) ?_
              refine c_seq ?_
              refine c_region ?_
              refine pl_val (.bool false) (y_assign rfl) ?_
              refine c_nil ?_
              refine wp_ret ?_
              cases hs
              exact ⟨_, fr_ovl 119 ⟨rfl, trivial⟩, hC⟩
            · skip
              refine c_condF (congrArg Value.bool hc45) ?_
              refine wp_skip ?_
              refine c_seq ?_
              refine c_region ?_
              refine pl_val (.int .i64 1) (y_assign rfl) ?_
              refine c_nil ?_
              refine c_seq ?_
              refine c_region ?_
              refine pl_val (.slice a16x0 n16x0 c16x0) (y_move rfl) ?_
              refine pl_val (.int .i64 1) (y_move rfl) ?_
              have hO := hO.fr2
              have hL46 := hO
              have hI46 := Own.lend (F := (f16x0 ++ ([]))) (R := f19x0 ++ (f40x0 ++ (f34x0 ++ (([g25]) ++ (f22x0 ++ (([g14]) ++ (f11x0 ++ (f5x0 ++ (f8x0 ++ ([])))))))))) (Own.perm (hL46) (by simp))
              obtain ⟨r47, hr47, hs⟩ := bind_some hs
              refine pl_call Bd19 rfl (c_laws_markIntS (M := M) r17 1 hv16x0 hI46 hI46.fut hr47) ?_
              rintro _ w46 ⟨fi46x0, rfl, hC46, hvi46x0, hOc46⟩
              have hO := hO.perm (R := (f16x0 ++ ([])) ++ (f19x0 ++ (f40x0 ++ (f34x0 ++ (([g25]) ++ (f22x0 ++ (([g14]) ++ (f11x0 ++ (f5x0 ++ (f8x0 ++ ([]))))))))))) (by simp)
              have h0 := h0.mut hC46 (fun g hg => hO.inM g ((fun _ h => h) g hg)) (fun _ _ h => nomatch h)
              have h1 := h1.mut hC46 (fun g hg => hO.inM g ((fun _ h => h) g hg)) (fun _ _ h => nomatch h)
              have hv5x0 := hv5x0.mut hC46 (fun g hg => hO.inM g ((fun _ h => h) g hg)) (fun g hg e => hO.apart g ((fun _ h => h) g hg) (mem_r (mem_r (mem_r (mem_r (mem_r (mem_r (mem_r (mem_l (e))))))))))
              have hv8x0 := hv8x0.mut hC46 (fun g hg => hO.inM g ((fun _ h => h) g hg)) (fun g hg e => hO.apart g ((fun _ h => h) g hg) (mem_r (mem_r (mem_r (mem_r (mem_r (mem_r (mem_r (mem_r (mem_l (e)))))))))))
              have hv11x0 := hv11x0.mut hC46 (fun g hg => hO.inM g ((fun _ h => h) g hg)) (fun g hg e => hO.apart g ((fun _ h => h) g hg) (mem_r (mem_r (mem_r (mem_r (mem_r (mem_r (mem_l (e)))))))))
              have hb15 := hb15.chg hC46 (fun hg => hO.apart _ ((fun _ h => h) _ hg) (mem_r (mem_r (mem_r (mem_r (mem_r (mem_l (List.mem_singleton.2 rfl))))))))
              have hv19x0 := hv19x0.mut hC46 (fun g hg => hO.inM g ((fun _ h => h) g hg)) (fun g hg e => hO.apart g ((fun _ h => h) g hg) (mem_l (e)))
              have hv22x0 := hv22x0.mut hC46 (fun g hg => hO.inM g ((fun _ h => h) g hg)) (fun g hg e => hO.apart g ((fun _ h => h) g hg) (mem_r (mem_r (mem_r (mem_r (mem_l (e)))))))
              have hb26 := hb26.chg hC46 (fun hg => hO.apart _ ((fun _ h => h) _ hg) (mem_r (mem_r (mem_r (mem_l (List.mem_singleton.2 rfl))))))
              have hv34x0 := hv34x0.mut hC46 (fun g hg => hO.inM g ((fun _ h => h) g hg)) (fun g hg e => hO.apart g ((fun _ h => h) g hg) (mem_r (mem_r (mem_l (e)))))
              have hv40x0 := hv40x0.mut hC46 (fun g hg => hO.inM g ((fun _ h => h) g hg)) (fun g hg e => hO.apart g ((fun _ h => h) g hg) (mem_r (mem_l (e))))
              have hC := hC.step hC46 (fun g hg => hO.inN g ((fun _ h => h) g hg))
              have hO := Own.join hO hC46 hOc46
              have hO := hO.perm (R := fi46x0 ++ (f19x0 ++ (f40x0 ++ (f34x0 ++ (([g25]) ++ (f22x0 ++ (([g14]) ++ (f11x0 ++ (f5x0 ++ (f8x0 ++ ([]))))))))))) (by simp)
              refine pl_val (.int .i64 r47.1) (y_assign rfl) ?_
              refine c_nil ?_
              refine c_seq ?_
              refine c_region ?_
              refine pl_val (.slice a19x0 n19x0 c19x0) (y_move rfl) ?_
              refine pl_val (.int .i64 r47.1) (y_move rfl) ?_
              have hO := hO.fr1
              have hL48 := hO
              have hI48 := Own.lend (F := (f19x0 ++ ([]))) (R := fi46x0 ++ (f40x0 ++ (f34x0 ++ (([g25]) ++ (f22x0 ++ (([g14]) ++ (f11x0 ++ (f5x0 ++ (f8x0 ++ ([])))))))))) (Own.perm (hL48) (by simp))
              obtain ⟨r49, hr49, hs⟩ := bind_some hs
              refine pl_call Bd19 rfl (c_laws_markIntS (M := M) r20 r47.1 hv19x0 hI48 hI48.fut hr49) ?_
              rintro _ w48 ⟨fi48x0, rfl, hC48, hvi48x0, hOc48⟩
              have hO := hO.perm (R := (f19x0 ++ ([])) ++ (fi46x0 ++ (f40x0 ++ (f34x0 ++ (([g25]) ++ (f22x0 ++ (([g14]) ++ (f11x0 ++ (f5x0 ++ (f8x0 ++ ([]))))))))))) (by simp)
              have h0 := h0.mut hC48 (fun g hg => hO.inM g ((fun _ h => h) g hg)) (fun _ _ h => nomatch h)
              have h1 := h1.mut hC48 (fun g hg => hO.inM g ((fun _ h => h) g hg)) (fun _ _ h => nomatch h)
              have hv5x0 := hv5x0.mut hC48 (fun g hg => hO.inM g ((fun _ h => h) g hg)) (fun g hg e => hO.apart g ((fun _ h => h) g hg) (mem_r (mem_r (mem_r (mem_r (mem_r (mem_r (mem_r (mem_l (e))))))))))
              have hv8x0 := hv8x0.mut hC48 (fun g hg => hO.inM g ((fun _ h => h) g hg)) (fun g hg e => hO.apart g ((fun _ h => h) g hg) (mem_r (mem_r (mem_r (mem_r (mem_r (mem_r (mem_r (mem_r (mem_l (e)))))))))))
              have hv11x0 := hv11x0.mut hC48 (fun g hg => hO.inM g ((fun _ h => h) g hg)) (fun g hg e => hO.apart g ((fun _ h => h) g hg) (mem_r (mem_r (mem_r (mem_r (mem_r (mem_r (mem_l (e)))))))))
              have hb15 := hb15.chg hC48 (fun hg => hO.apart _ ((fun _ h => h) _ hg) (mem_r (mem_r (mem_r (mem_r (mem_r (mem_l (List.mem_singleton.2 rfl))))))))
              have hvi46x0 := hvi46x0.mut hC48 (fun g hg => hO.inM g ((fun _ h => h) g hg)) (fun g hg e => hO.apart g ((fun _ h => h) g hg) (mem_l (e)))
              have hv22x0 := hv22x0.mut hC48 (fun g hg => hO.inM g ((fun _ h => h) g hg)) (fun g hg e => hO.apart g ((fun _ h => h) g hg) (mem_r (mem_r (mem_r (mem_r (mem_l (e)))))))
              have hb26 := hb26.chg hC48 (fun hg => hO.apart _ ((fun _ h => h) _ hg) (mem_r (mem_r (mem_r (mem_l (List.mem_singleton.2 rfl))))))
              have hv34x0 := hv34x0.mut hC48 (fun g hg => hO.inM g ((fun _ h => h) g hg)) (fun g hg e => hO.apart g ((fun _ h => h) g hg) (mem_r (mem_r (mem_l (e)))))
              have hv40x0 := hv40x0.mut hC48 (fun g hg => hO.inM g ((fun _ h => h) g hg)) (fun g hg e => hO.apart g ((fun _ h => h) g hg) (mem_r (mem_l (e))))
              have hC := hC.step hC48 (fun g hg => hO.inN g ((fun _ h => h) g hg))
              have hO := Own.join hO hC48 hOc48
              have hO := hO.perm (R := fi48x0 ++ (fi46x0 ++ (f40x0 ++ (f34x0 ++ (([g25]) ++ (f22x0 ++ (([g14]) ++ (f11x0 ++ (f5x0 ++ (f8x0 ++ ([]))))))))))) (by simp)
              refine pl_val (.int .i64 r49.1) (y_assign rfl) ?_
              refine c_nil ?_
              refine c_seq ?_
              refine c_seq ?_
              obtain ⟨s50, hm52, hs⟩ := bind_some hs
              refine c_mid (I := fun a w51 => ∃ (σ : Nat → Value), a = fr 119 (ovl σ [(0, (.int .i64 aN)), (1, (.slice pa0 pn0 pc0)), (2, (.slice pa1 pn1 pc1)), (6, (.bool false)), (7, (.pointer (some ⟨g14, 0, none⟩))), (8, (.bool r12.2)), (11, (.pointer (some ⟨g25, 0, none⟩))), (81, (.bool s50))]) ∧ Chg [] w48 w51) ?_ ?_
              · replace hs := hm52
                have hMid := Chg.refl [] w48
                refine c_region ?_
                refine pl_val (.int .i64 r49.1) (y_move rfl) ?_
                refine pl_val (.bool (decide (r49.1 < 0))) (y_lss rfl rfl) ?_
                refine pl_val (.bool (decide (r49.1 < 0))) (y_move rfl) ?_
                rcases bif_some hs with ⟨hc53, hs⟩ | ⟨hc53, hs⟩
                · skip
                  refine pl_not (tg := 71) (by kernel_rfl) (congrArg Value.bool hc53) ?_
                  refine pl_not (tg := 71) (by kernel_rfl) (congrArg Value.bool hc53) ?_
                  refine pl_not (tg := 71) (by kernel_rfl) (congrArg Value.bool hc53) ?_
                  refine pl_not (tg := 71) (by kernel_rfl) (congrArg Value.bool hc53) ?_
                  refine pl_val (.bool true) (y_pick_t (congrArg Value.bool hc53) rfl) ?_
                  refine pl_val (.bool true) (y_move rfl) ?_
                  refine pl_not (tg := 77) (by kernel_rfl) (by rfl) ?_
                  refine pl_not (tg := 77) (by kernel_rfl) (by rfl) ?_
                  refine pl_not (tg := 77) (by kernel_rfl) (by rfl) ?_
                  refine pl_val (.bool true) (y_pick_t (by rfl) rfl) ?_
                  refine c_nil ?_
                  cases hs
                  exact ⟨_, fr_ovl 119 ⟨rfl, rfl, rfl, rfl, rfl, rfl, rfl, rfl, trivial⟩, hMid⟩
                · skip
                  refine pl_yes (.agg #[(.int .i64 r23.1.1), (.slice a22x0 n22x0 c22x0)]) (tg := 71) (by kernel_rfl) (congrArg Value.bool hc53) (y_load rfl ((box_load Ag31 Sz31 hb26 [] [(.int .i64 r23.1.1), (.slice a22x0 n22x0 c22x0)] [] rfl rfl (fun h => nomatch h)) _ (Chg.refl _ _))) ?_
                  refine pl_yes (.agg #[(.int .i64 r12.1.1), (.slice a11x0 n11x0 c11x0)]) (tg := 71) (by kernel_rfl) (congrArg Value.bool hc53) (y_load rfl ((box_load Ag31 Sz31 hb15 [] [(.int .i64 r12.1.1), (.slice a11x0 n11x0 c11x0)] [] rfl rfl (fun h => nomatch h)) _ (Chg.refl _ _))) ?_
                  have hO := hO.fr7
                  have hO := hO.fr6
                  obtain ⟨r55, hr55, hs⟩ := bind_some hs
                  refine pl_cally (tg := 71) (by kernel_rfl) (congrArg Value.bool hc53) Bd23 rfl (c_laws_eqRelation (M := (Less (Less M f22x0) f11x0)) (r23.1.1, r23.1.2) (r12.1.1, r12.1.2) ((((Frz.os (Frz.os Frz.int))).val hv22x0 Less.sub Less.not).sub Less.sub) (((Frz.os (Frz.os Frz.int))).val (hv11x0.sub Less.sub) Less.sub Less.not) (hO.less).less.fut hr55) ?_
                  rintro _ w54 ⟨rfl, hC54⟩
                  have h0 := h0.ext hC54
                  have h1 := h1.ext hC54
                  have hv5x0 := hv5x0.ext hC54
                  have hv8x0 := hv8x0.ext hC54
                  have hv11x0 := hv11x0.ext hC54
                  have hb15 := hb15.chg hC54 (fun h => nomatch h)
                  have hvi46x0 := hvi46x0.ext hC54
                  have hvi48x0 := hvi48x0.ext hC54
                  have hv22x0 := hv22x0.ext hC54
                  have hb26 := hb26.chg hC54 (fun h => nomatch h)
                  have hv34x0 := hv34x0.ext hC54
                  have hv40x0 := hv40x0.ext hC54
                  have hMid := hMid.ext hC54
                  have hC := hC.ext hC54
                  have hO := hO.ext hC54
                  refine pl_yes (.bool (!r55)) (tg := 71) (by kernel_rfl) (congrArg Value.bool hc53) (y_not rfl) ?_
                  refine pl_val (.bool (!r55)) (y_pick_f (congrArg Value.bool hc53) rfl) ?_
                  refine pl_val (.bool (!r55)) (y_move rfl) ?_
                  rcases bif_some hs with ⟨hc56, hs⟩ | ⟨hc56, hs⟩
                  · skip
                    refine pl_not (tg := 77) (by kernel_rfl) (congrArg Value.bool hc56) ?_
                    refine pl_not (tg := 77) (by kernel_rfl) (congrArg Value.bool hc56) ?_
                    refine pl_not (tg := 77) (by kernel_rfl) (congrArg Value.bool hc56) ?_
                    refine pl_val (.bool true) (y_pick_t (congrArg Value.bool hc56) rfl) ?_
                    refine c_nil ?_
                    cases hs
                    exact ⟨_, fr_ovl 119 ⟨rfl, rfl, rfl, rfl, rfl, rfl, rfl, rfl, trivial⟩, hMid⟩
                  · skip
                    refine pl_yes (.bool r23.2) (tg := 77) (by kernel_rfl) (congrArg Value.bool hc56) (y_move rfl) ?_
                    refine pl_yes (.bool r12.2) (tg := 77) (by kernel_rfl) (congrArg Value.bool hc56) (y_move rfl) ?_
                    refine pl_yes (.bool (!(r23.2 == r12.2))) (tg := 77) (by kernel_rfl) (congrArg Value.bool hc56) (y_bneq Try.underlying4 rfl rfl) ?_
                    refine pl_val (.bool (!(r23.2 == r12.2))) (y_pick_f (congrArg Value.bool hc56) rfl) ?_
                    refine c_nil ?_
                    cases hs
                    exact ⟨_, fr_ovl 119 ⟨rfl, rfl, rfl, rfl, rfl, rfl, rfl, rfl, trivial⟩, hMid⟩
              · rintro a1 w51 ⟨σ, rfl, hCs50⟩
                have h0 := h0.ext hCs50
                have h1 := h1.ext hCs50
                have hv5x0 := hv5x0.ext hCs50
                have hv8x0 := hv8x0.ext hCs50
                have hv11x0 := hv11x0.ext hCs50
                have hb15 := hb15.chg hCs50 (fun h => nomatch h)
                have hvi46x0 := hvi46x0.ext hCs50
                have hvi48x0 := hvi48x0.ext hCs50
                have hv22x0 := hv22x0.ext hCs50
                have hb26 := hb26.chg hCs50 (fun h => nomatch h)
                have hv34x0 := hv34x0.ext hCs50
                have hv40x0 := hv40x0.ext hCs50
                have hC := hC.ext hCs50
                have hO := hO.ext hCs50
                rcases bif_some hs with ⟨hc57, hs⟩ | ⟨hc57, hs⟩
                · skip
                  refine c_condT (congrArg Value.bool hc57) ?_
                  refine c_seq ?_
                  refine c_region ?_
                  refine pl_val (.bool false) (y_assign rfl) ?_
                  refine c_nil ?_
                  refine wp_ret ?_
                  cases hs
                  exact ⟨_, fr_ovl 119 ⟨rfl, trivial⟩, hC⟩
                · skip
                  refine c_condF (congrArg Value.bool hc57) ?_
                  refine wp_skip ?_
                  refine c_seq ?_
                  refine c_region ?_
                  refine pl_val (.int .i64 1) (y_assign rfl) ?_
                  refine c_nil ?_
                  refine c_seq ?_
                  refine c_region ?_
                  refine pl_val (.agg #[(.int .i64 r23.1.1), (.slice a22x0 n22x0 c22x0)]) (y_load rfl ((box_load Ag31 Sz31 hb26 [] [(.int .i64 r23.1.1), (.slice a22x0 n22x0 c22x0)] [] rfl rfl (fun h => nomatch h)) _ (Chg.refl _ _))) ?_
                  refine pl_val (.int .i64 1) (y_move rfl) ?_
                  have hO := hO.fr5
                  have hL58 := hO
                  have hI58 := Own.lend (F := (f22x0 ++ ([]))) (R := fi48x0 ++ (fi46x0 ++ (f40x0 ++ (f34x0 ++ (([g25]) ++ (([g14]) ++ (f11x0 ++ (f5x0 ++ (f8x0 ++ ([])))))))))) (Own.perm (hL58) (by simp))
                  obtain ⟨r59, hr59, hs⟩ := bind_some hs
                  refine pl_call Bd24 rfl (c_laws_markRelation (M := M) (r23.1.1, r23.1.2) 1 hv22x0 hI58 hI58.fut hr59) ?_
                  rintro _ w58 ⟨fi58x0, rfl, hC58, hvi58x0, hOc58⟩
                  have hO := hO.perm (R := (f22x0 ++ ([])) ++ (fi48x0 ++ (fi46x0 ++ (f40x0 ++ (f34x0 ++ (([g25]) ++ (([g14]) ++ (f11x0 ++ (f5x0 ++ (f8x0 ++ ([]))))))))))) (by simp)
                  have h0 := h0.mut hC58 (fun g hg => hO.inM g ((fun _ h => h) g hg)) (fun _ _ h => nomatch h)
                  have h1 := h1.mut hC58 (fun g hg => hO.inM g ((fun _ h => h) g hg)) (fun _ _ h => nomatch h)
                  have hv5x0 := hv5x0.mut hC58 (fun g hg => hO.inM g ((fun _ h => h) g hg)) (fun g hg e => hO.apart g ((fun _ h => h) g hg) (mem_r (mem_r (mem_r (mem_r (mem_r (mem_r (mem_r (mem_l (e))))))))))
                  have hv8x0 := hv8x0.mut hC58 (fun g hg => hO.inM g ((fun _ h => h) g hg)) (fun g hg e => hO.apart g ((fun _ h => h) g hg) (mem_r (mem_r (mem_r (mem_r (mem_r (mem_r (mem_r (mem_r (mem_l (e)))))))))))
                  have hv11x0 := hv11x0.mut hC58 (fun g hg => hO.inM g ((fun _ h => h) g hg)) (fun g hg e => hO.apart g ((fun _ h => h) g hg) (mem_r (mem_r (mem_r (mem_r (mem_r (mem_r (mem_l (e)))))))))
                  have hb15 := hb15.chg hC58 (fun hg => hO.apart _ ((fun _ h => h) _ hg) (mem_r (mem_r (mem_r (mem_r (mem_r (mem_l (List.mem_singleton.2 rfl))))))))
                  have hvi46x0 := hvi46x0.mut hC58 (fun g hg => hO.inM g ((fun _ h => h) g hg)) (fun g hg e => hO.apart g ((fun _ h => h) g hg) (mem_r (mem_l (e))))
                  have hvi48x0 := hvi48x0.mut hC58 (fun g hg => hO.inM g ((fun _ h => h) g hg)) (fun g hg e => hO.apart g ((fun _ h => h) g hg) (mem_l (e)))
                  have hb26 := hb26.chg hC58 (fun hg => hO.apart _ ((fun _ h => h) _ hg) (mem_r (mem_r (mem_r (mem_r (mem_l (List.mem_singleton.2 rfl)))))))
                  have hv34x0 := hv34x0.mut hC58 (fun g hg => hO.inM g ((fun _ h => h) g hg)) (fun g hg e => hO.apart g ((fun _ h => h) g hg) (mem_r (mem_r (mem_r (mem_l (e))))))
                  have hv40x0 := hv40x0.mut hC58 (fun g hg => hO.inM g ((fun _ h => h) g hg)) (fun g hg e => hO.apart g ((fun _ h => h) g hg) (mem_r (mem_r (mem_l (e)))))
                  have hC := hC.step hC58 (fun g hg => hO.inN g ((fun _ h => h) g hg))
                  have hO := Own.join hO hC58 hOc58
                  have hO := hO.perm (R := fi58x0 ++ (fi48x0 ++ (fi46x0 ++ (f40x0 ++ (f34x0 ++ (([g25]) ++ (([g14]) ++ (f11x0 ++ (f5x0 ++ (f8x0 ++ ([]))))))))))) (by simp)
                  refine pl_val (.int .i64 r59.1) (y_assign rfl) ?_
                  refine c_nil ?_
                  refine c_seq ?_
                  refine c_region ?_
                  refine pl_val (.int .i64 1) (y_assign rfl) ?_
                  refine c_nil ?_
                  refine c_seq ?_
                  refine c_region ?_
                  refine pl_val (.agg #[(.int .i64 r23.1.1), (.slice a22x0 n22x0 c22x0)]) (y_load rfl ((box_load Ag31 Sz31 hb26 [] [(.int .i64 r23.1.1), (.slice a22x0 n22x0 c22x0)] [] rfl rfl (fun h => nomatch h)) _ (Chg.refl _ _))) ?_
                  refine pl_val (.int .i64 1) (y_move rfl) ?_
                  obtain ⟨r61, hr61, hs⟩ := bind_some hs
                  refine pl_call Bd25 rfl (c_laws_heldRelation (M := (Less M fi58x0)) (r23.1.1, r59.2) 1 (((Frz.os (Frz.os Frz.int))).val hvi58x0 Less.sub Less.not) hO.less.fut hr61) ?_
                  rintro _ w60 ⟨rfl, hC60⟩
                  have h0 := h0.ext hC60
                  have h1 := h1.ext hC60
                  have hv5x0 := hv5x0.ext hC60
                  have hv8x0 := hv8x0.ext hC60
                  have hv11x0 := hv11x0.ext hC60
                  have hb15 := hb15.chg hC60 (fun h => nomatch h)
                  have hvi46x0 := hvi46x0.ext hC60
                  have hvi48x0 := hvi48x0.ext hC60
                  have hvi58x0 := hvi58x0.ext hC60
                  have hb26 := hb26.chg hC60 (fun h => nomatch h)
                  have hv34x0 := hv34x0.ext hC60
                  have hv40x0 := hv40x0.ext hC60
                  have hC := hC.ext hC60
                  have hO := hO.ext hC60
                  refine pl_val (.int .i64 r61) (y_assign rfl) ?_
                  refine c_nil ?_
                  refine c_seq ?_
                  refine c_seq ?_
                  refine c_region ?_
                  refine pl_val (.int .i64 r61) (y_move rfl) ?_
                  refine pl_val (.bool (decide (r61 < 0))) (y_lss rfl rfl) ?_
                  refine c_nil ?_
                  rcases bif_some hs with ⟨hc62, hs⟩ | ⟨hc62, hs⟩
                  · skip
                    refine c_condT (congrArg Value.bool hc62) ?_
                    refine c_seq ?_
                    refine c_region ?_
                    refine pl_val (.bool false) (y_assign rfl) ?_
                    refine c_nil ?_
                    refine wp_ret ?_
                    cases hs
                    exact ⟨_, fr_ovl 119 ⟨rfl, trivial⟩, hC⟩
                  · skip
                    refine c_condF (congrArg Value.bool hc62) ?_
                    refine wp_skip ?_
                    refine c_seq ?_
                    refine c_seq ?_
                    refine c_region ?_
                    refine pl_val (.int .i64 r61) (y_move rfl) ?_
                    refine pl_val (.int .i64 r59.1) (y_move rfl) ?_
                    refine pl_val (.bool (r61 != r59.1)) (y_neq rfl rfl) ?_
                    refine c_nil ?_
                    rcases bif_some hs with ⟨hc63, hs⟩ | ⟨hc63, hs⟩
                    · skip
                      refine c_condT (congrArg Value.bool hc63) ?_
                      refine c_seq ?_
                      refine c_region ?_
                      refine pl_val (.bool false) (y_assign rfl) ?_
                      refine c_nil ?_
                      refine wp_ret ?_
                      cases hs
                      exact ⟨_, fr_ovl 119 ⟨rfl, trivial⟩, hC⟩
                    · skip
                      refine c_condF (congrArg Value.bool hc63) ?_
                      refine wp_skip ?_
                      refine c_seq ?_
                      refine c_region ?_
                      refine pl_val (.int .i64 aN) (y_move rfl) ?_
                      refine pl_val (.slice pa0 pn0 pc0) (y_move rfl) ?_
                      obtain ⟨r65, hr65, hs⟩ := bind_some hs
                      refine pl_call Bd16 rfl (c_laws_toIntS (M := M) aP h0 hO.fut hr65) ?_
                      rintro _ w64 ⟨a64x0, n64x0, c64x0, f64x0, rfl, hC64, hv64x0, hOc64⟩
                      have h0 := h0.ext hC64
                      have h1 := h1.ext hC64
                      have hv5x0 := hv5x0.ext hC64
                      have hv8x0 := hv8x0.ext hC64
                      have hv11x0 := hv11x0.ext hC64
                      have hb15 := hb15.chg hC64 (fun h => nomatch h)
                      have hvi46x0 := hvi46x0.ext hC64
                      have hvi48x0 := hvi48x0.ext hC64
                      have hvi58x0 := hvi58x0.ext hC64
                      have hb26 := hb26.chg hC64 (fun h => nomatch h)
                      have hv34x0 := hv34x0.ext hC64
                      have hv40x0 := hv40x0.ext hC64
                      have hC := hC.ext hC64
                      have hO := Own.join0 hO hC64 hOc64
                      have hO := hO.perm (R := f64x0 ++ (fi58x0 ++ (fi48x0 ++ (fi46x0 ++ (f40x0 ++ (f34x0 ++ (([g25]) ++ (([g14]) ++ (f11x0 ++ (f5x0 ++ (f8x0 ++ ([])))))))))))) (by simp)
                      refine pl_val (.slice pa1 pn1 pc1) (y_move rfl) ?_
                      obtain ⟨r68, hr68, hs⟩ := bind_some hs
                      refine pl_call Bd16 rfl (c_laws_toIntS (M := M) aQ h1 hO.fut hr68) ?_
                      rintro _ w67 ⟨a67x0, n67x0, c67x0, f67x0, rfl, hC67, hv67x0, hOc67⟩
                      have h0 := h0.ext hC67
                      have h1 := h1.ext hC67
                      have hv5x0 := hv5x0.ext hC67
                      have hv8x0 := hv8x0.ext hC67
                      have hv11x0 := hv11x0.ext hC67
                      have hb15 := hb15.chg hC67 (fun h => nomatch h)
                      have hvi46x0 := hvi46x0.ext hC67
                      have hvi48x0 := hvi48x0.ext hC67
                      have hvi58x0 := hvi58x0.ext hC67
                      have hb26 := hb26.chg hC67 (fun h => nomatch h)
                      have hv34x0 := hv34x0.ext hC67
                      have hv40x0 := hv40x0.ext hC67
                      have hv64x0 := hv64x0.ext hC67
                      have hC := hC.ext hC67
                      have hO := Own.join0 hO hC67 hOc67
                      have hO := hO.perm (R := f67x0 ++ (f64x0 ++ (fi58x0 ++ (fi48x0 ++ (fi46x0 ++ (f40x0 ++ (f34x0 ++ (([g25]) ++ (([g14]) ++ (f11x0 ++ (f5x0 ++ (f8x0 ++ ([]))))))))))))) (by simp)
                      have hO := hO.fr1
                      obtain ⟨r71, hr71, hs⟩ := bind_some hs
                      refine pl_call Bd22 rfl (c_impl_ProductOfPartitions (M := (Less (Less M f64x0) f67x0)) aN r65 r68 ((((Frz.os Frz.int)).val hv64x0 Less.sub Less.not).sub Less.sub) (((Frz.os Frz.int)).val (hv67x0.sub Less.sub) Less.sub Less.not) (hO.less).less.fut hr71) ?_
                      rintro _ w70 ⟨a70x0, n70x0, c70x0, f70x0, rfl, hC70, hv70x0, hOc70⟩
                      have h0 := h0.ext hC70
                      have h1 := h1.ext hC70
                      have hv5x0 := hv5x0.ext hC70
                      have hv8x0 := hv8x0.ext hC70
                      have hv11x0 := hv11x0.ext hC70
                      have hb15 := hb15.chg hC70 (fun h => nomatch h)
                      have hvi46x0 := hvi46x0.ext hC70
                      have hvi48x0 := hvi48x0.ext hC70
                      have hvi58x0 := hvi58x0.ext hC70
                      have hb26 := hb26.chg hC70 (fun h => nomatch h)
                      have hv34x0 := hv34x0.ext hC70
                      have hv40x0 := hv40x0.ext hC70
                      have hv64x0 := hv64x0.ext hC70
                      have hv67x0 := hv67x0.ext hC70
                      have hC := hC.ext hC70
                      have hO := Own.join0 hO hC70 hOc70
                      have hO := hO.perm (R := f70x0 ++ (f64x0 ++ (f67x0 ++ (fi58x0 ++ (fi48x0 ++ (fi46x0 ++ (f40x0 ++ (f34x0 ++ (([g25]) ++ (([g14]) ++ (f11x0 ++ (f5x0 ++ (f8x0 ++ ([])))))))))))))) (by simp)
                      have hv70x0 := hv70x0.free (M' := M) (Free.os (Free.os Free.int))
                      refine pl_val (.tuple #[(.agg #[(.int .i64 r71.1.1), (.slice a70x0 n70x0 c70x0)]), (.bool r71.2)]) (y_move rfl) ?_
                      refine pl_val (.agg #[(.int .i64 r71.1.1), (.slice a70x0 n70x0 c70x0)]) (y_extract rfl (by kernel_rfl)) ?_
                      refine pl_val (.bool r71.2) (y_extract rfl (by kernel_rfl)) ?_
                      obtain ⟨w73, g73, ew73, eg73, hC73, hb73⟩ := new_block w70 [(.int .i64 0), (.slice none 0 0)] 31
                      refine pl_val (w' := w73) (.pointer (some ⟨g73, 0, none⟩)) (y_alloc (by rw [ew73, eg73]; kernel_rfl)) ?_
                      have h0 := h0.ext hC73
                      have h1 := h1.ext hC73
                      have hv5x0 := hv5x0.ext hC73
                      have hv8x0 := hv8x0.ext hC73
                      have hv11x0 := hv11x0.ext hC73
                      have hb15 := hb15.chg hC73 (fun h => nomatch h)
                      have hvi46x0 := hvi46x0.ext hC73
                      have hvi48x0 := hvi48x0.ext hC73
                      have hvi58x0 := hvi58x0.ext hC73
                      have hb26 := hb26.chg hC73 (fun h => nomatch h)
                      have hv34x0 := hv34x0.ext hC73
                      have hv40x0 := hv40x0.ext hC73
                      have hv64x0 := hv64x0.ext hC73
                      have hv67x0 := hv67x0.ext hC73
                      have hv70x0 := hv70x0.ext hC73
                      have hC := hC.ext hC73
                      have hO := hO.new (X' := [g73]) hC73 (fun q hq => by rw [List.mem_singleton.1 hq, eg73]; exact Nat.le_refl _) (List.nodup_cons.2 ⟨(fun h => nomatch h), List.nodup_nil⟩) (fun q hq => by rw [List.mem_singleton.1 hq]; exact hb73.lt)
                      obtain ⟨w74, hst74, hC74, hb74⟩ := box_store (P := Try.prog) hb73 [] [(.int .i64 0), (.slice none 0 0)] [] [(.int .i64 r71.1.1), (.slice a70x0 n70x0 c70x0)] rfl rfl (by intro u hu; simp only [List.mem_cons, List.not_mem_nil, or_false] at hu; rcases hu with rfl | rfl <;> rfl)
                      refine pl_skip (w' := w74) (ys_store rfl rfl (hst74 _ _ rfl Sz31)) ?_
                      have h0 := h0.mut hC74 (fun g hg => hO.inM g ((fun _ h => h) g hg)) (fun _ _ h => nomatch h)
                      have h1 := h1.mut hC74 (fun g hg => hO.inM g ((fun _ h => h) g hg)) (fun _ _ h => nomatch h)
                      have hv5x0 := hv5x0.mut hC74 (fun g hg => hO.inM g ((fun _ h => h) g hg)) (fun g hg e => hO.apart g ((fun _ h => h) g hg) (mem_r (mem_r (mem_r (mem_r (mem_r (mem_r (mem_r (mem_r (mem_r (mem_r (mem_r (mem_l (e))))))))))))))
                      have hv8x0 := hv8x0.mut hC74 (fun g hg => hO.inM g ((fun _ h => h) g hg)) (fun g hg e => hO.apart g ((fun _ h => h) g hg) (mem_r (mem_r (mem_r (mem_r (mem_r (mem_r (mem_r (mem_r (mem_r (mem_r (mem_r (mem_r (mem_l (e)))))))))))))))
                      have hv11x0 := hv11x0.mut hC74 (fun g hg => hO.inM g ((fun _ h => h) g hg)) (fun g hg e => hO.apart g ((fun _ h => h) g hg) (mem_r (mem_r (mem_r (mem_r (mem_r (mem_r (mem_r (mem_r (mem_r (mem_r (mem_l (e)))))))))))))
                      have hb15 := hb15.chg hC74 (fun hg => hO.apart _ ((fun _ h => h) _ hg) (mem_r (mem_r (mem_r (mem_r (mem_r (mem_r (mem_r (mem_r (mem_r (mem_l (List.mem_singleton.2 rfl))))))))))))
                      have hvi46x0 := hvi46x0.mut hC74 (fun g hg => hO.inM g ((fun _ h => h) g hg)) (fun g hg e => hO.apart g ((fun _ h => h) g hg) (mem_r (mem_r (mem_r (mem_r (mem_r (mem_l (e))))))))
                      have hvi48x0 := hvi48x0.mut hC74 (fun g hg => hO.inM g ((fun _ h => h) g hg)) (fun g hg e => hO.apart g ((fun _ h => h) g hg) (mem_r (mem_r (mem_r (mem_r (mem_l (e)))))))
                      have hvi58x0 := hvi58x0.mut hC74 (fun g hg => hO.inM g ((fun _ h => h) g hg)) (fun g hg e => hO.apart g ((fun _ h => h) g hg) (mem_r (mem_r (mem_r (mem_l (e))))))
                      have hb26 := hb26.chg hC74 (fun hg => hO.apart _ ((fun _ h => h) _ hg) (mem_r (mem_r (mem_r (mem_r (mem_r (mem_r (mem_r (mem_r (mem_l (List.mem_singleton.2 rfl)))))))))))
                      have hv34x0 := hv34x0.mut hC74 (fun g hg => hO.inM g ((fun _ h => h) g hg)) (fun g hg e => hO.apart g ((fun _ h => h) g hg) (mem_r (mem_r (mem_r (mem_r (mem_r (mem_r (mem_r (mem_l (e))))))))))
                      have hv40x0 := hv40x0.mut hC74 (fun g hg => hO.inM g ((fun _ h => h) g hg)) (fun g hg e => hO.apart g ((fun _ h => h) g hg) (mem_r (mem_r (mem_r (mem_r (mem_r (mem_r (mem_l (e)))))))))
                      have hv64x0 := hv64x0.mut hC74 (fun g hg => hO.inM g ((fun _ h => h) g hg)) (fun g hg e => hO.apart g ((fun _ h => h) g hg) (mem_r (mem_l (e))))
                      have hv67x0 := hv67x0.mut hC74 (fun g hg => hO.inM g ((fun _ h => h) g hg)) (fun g hg e => hO.apart g ((fun _ h => h) g hg) (mem_r (mem_r (mem_l (e)))))
                      have hv70x0 := hv70x0.mut hC74 (fun g hg => hO.inM g ((fun _ h => h) g hg)) (fun g hg e => hO.apart g ((fun _ h => h) g hg) (mem_l (e)))
                      have hC := hC.step hC74 (fun g hg => hO.inN g ((fun _ h => h) g hg))
                      have hO := hO.ext hC74
                      have hb74 : BoxV w74 g73 31 [(.int .i64 r71.1.1), (.slice a70x0 n70x0 c70x0)] := hb74
                      refine pl_val (.bool r71.2) (y_assign rfl) ?_
                      refine c_nil ?_
                      refine c_seq ?_
                      refine c_seq ?_
                      obtain ⟨s75, hm77, hs⟩ := bind_some hs
                      refine c_mid (I := fun a w76 => ∃ (σ : Nat → Value), a = fr 119 (ovl σ [(6, (.bool false)), (11, (.pointer (some ⟨g25, 0, none⟩))), (14, (.int .i64 r59.1)), (15, (.int .i64 r61)), (110, (.bool s75))]) ∧ Chg [] w74 w76) ?_ ?_
                      · replace hs := hm77
                        have hMid := Chg.refl [] w74
                        refine c_region ?_
                        refine pl_val (.agg #[(.int .i64 r71.1.1), (.slice a70x0 n70x0 c70x0)]) (y_load rfl ((box_load Ag31 Sz31 hb74 [] [(.int .i64 r71.1.1), (.slice a70x0 n70x0 c70x0)] [] rfl rfl (fun h => nomatch h)) _ (Chg.refl _ _))) ?_
                        refine pl_val (.agg #[(.int .i64 r12.1.1), (.slice a11x0 n11x0 c11x0)]) (y_load rfl ((box_load Ag31 Sz31 hb15 [] [(.int .i64 r12.1.1), (.slice a11x0 n11x0 c11x0)] [] rfl rfl (fun h => nomatch h)) _ (Chg.refl _ _))) ?_
                        have hO := hO.fr11
                        have hO := hO.fr2
                        obtain ⟨r79, hr79, hs⟩ := bind_some hs
                        refine pl_call Bd23 rfl (c_laws_eqRelation (M := (Less (Less M f70x0) f11x0)) (r71.1.1, r71.1.2) (r12.1.1, r12.1.2) ((((Frz.os (Frz.os Frz.int))).val hv70x0 Less.sub Less.not).sub Less.sub) (((Frz.os (Frz.os Frz.int))).val (hv11x0.sub Less.sub) Less.sub Less.not) (hO.less).less.fut hr79) ?_
                        rintro _ w78 ⟨rfl, hC78⟩
                        have hv5x0 := hv5x0.ext hC78
                        have hv8x0 := hv8x0.ext hC78
                        have hv11x0 := hv11x0.ext hC78
                        have hb15 := hb15.chg hC78 (fun h => nomatch h)
                        have hvi46x0 := hvi46x0.ext hC78
                        have hvi48x0 := hvi48x0.ext hC78
                        have hvi58x0 := hvi58x0.ext hC78
                        have hb26 := hb26.chg hC78 (fun h => nomatch h)
                        have hv34x0 := hv34x0.ext hC78
                        have hv40x0 := hv40x0.ext hC78
                        have hv64x0 := hv64x0.ext hC78
                        have hv67x0 := hv67x0.ext hC78
                        have hv70x0 := hv70x0.ext hC78
                        have hb74 := hb74.chg hC78 (fun h => nomatch h)
                        have hMid := hMid.ext hC78
                        have hC := hC.ext hC78
                        have hO := hO.ext hC78
                        refine pl_val (.bool (!r79)) (y_not rfl) ?_
                        refine pl_val (.bool (!r79)) (y_move rfl) ?_
                        rcases bif_some hs with ⟨hc80, hs⟩ | ⟨hc80, hs⟩
                        · skip
                          refine pl_not (tg := 106) (by kernel_rfl) (congrArg Value.bool hc80) ?_
                          refine pl_not (tg := 106) (by kernel_rfl) (congrArg Value.bool hc80) ?_
                          refine pl_not (tg := 106) (by kernel_rfl) (congrArg Value.bool hc80) ?_
                          refine pl_val (.bool true) (y_pick_t (congrArg Value.bool hc80) rfl) ?_
                          refine c_nil ?_
                          cases hs
                          exact ⟨_, fr_ovl 119 ⟨rfl, rfl, rfl, rfl, rfl, trivial⟩, hMid⟩
                        · skip
                          refine pl_yes (.bool r71.2) (tg := 106) (by kernel_rfl) (congrArg Value.bool hc80) (y_move rfl) ?_
                          refine pl_yes (.bool r12.2) (tg := 106) (by kernel_rfl) (congrArg Value.bool hc80) (y_move rfl) ?_
                          refine pl_yes (.bool (!(r71.2 == r12.2))) (tg := 106) (by kernel_rfl) (congrArg Value.bool hc80) (y_bneq Try.underlying4 rfl rfl) ?_
                          refine pl_val (.bool (!(r71.2 == r12.2))) (y_pick_f (congrArg Value.bool hc80) rfl) ?_
                          refine c_nil ?_
                          cases hs
                          exact ⟨_, fr_ovl 119 ⟨rfl, rfl, rfl, rfl, rfl, trivial⟩, hMid⟩
                      · rintro a1 w76 ⟨σ, rfl, hCs75⟩
                        have hv5x0 := hv5x0.ext hCs75
                        have hv8x0 := hv8x0.ext hCs75
                        have hv11x0 := hv11x0.ext hCs75
                        have hb15 := hb15.chg hCs75 (fun h => nomatch h)
                        have hvi46x0 := hvi46x0.ext hCs75
                        have hvi48x0 := hvi48x0.ext hCs75
                        have hvi58x0 := hvi58x0.ext hCs75
                        have hb26 := hb26.chg hCs75 (fun h => nomatch h)
                        have hv34x0 := hv34x0.ext hCs75
                        have hv40x0 := hv40x0.ext hCs75
                        have hv64x0 := hv64x0.ext hCs75
                        have hv67x0 := hv67x0.ext hCs75
                        have hv70x0 := hv70x0.ext hCs75
                        have hb74 := hb74.chg hCs75 (fun h => nomatch h)
                        have hC := hC.ext hCs75
                        have hO := hO.ext hCs75
                        rcases bif_some hs with ⟨hc81, hs⟩ | ⟨hc81, hs⟩
                        · skip
                          refine c_condT (congrArg Value.bool hc81) ?_
                          refine c_seq ?_
                          refine c_region ?_
                          refine pl_val (.bool false) (y_assign rfl) ?_
                          refine c_nil ?_
                          refine wp_ret ?_
                          cases hs
                          exact ⟨_, fr_ovl 119 ⟨rfl, trivial⟩, hC⟩
                        · skip
                          refine c_condF (congrArg Value.bool hc81) ?_
                          refine wp_skip ?_
                          refine c_seq ?_
                          refine c_region ?_
                          refine pl_val (.int .i64 1) (y_assign rfl) ?_
                          refine c_nil ?_
                          refine c_seq ?_
                          refine c_region ?_
                          refine pl_val (.agg #[(.int .i64 r23.1.1), (.slice a22x0 n22x0 c22x0)]) (y_load rfl ((box_load Ag31 Sz31 hb26 [] [(.int .i64 r23.1.1), (.slice a22x0 n22x0 c22x0)] [] rfl rfl (fun h => nomatch h)) _ (Chg.refl _ _))) ?_
                          refine pl_val (.int .i64 1) (y_move rfl) ?_
                          have hO := hO.fr4
                          obtain ⟨r83, hr83, hs⟩ := bind_some hs
                          refine pl_call Bd25 rfl (c_laws_heldRelation (M := (Less M fi58x0)) (r23.1.1, r59.2) 1 (((Frz.os (Frz.os Frz.int))).val hvi58x0 Less.sub Less.not) hO.less.fut hr83) ?_
                          rintro _ w82 ⟨rfl, hC82⟩
                          have hv5x0 := hv5x0.ext hC82
                          have hv8x0 := hv8x0.ext hC82
                          have hv11x0 := hv11x0.ext hC82
                          have hb15 := hb15.chg hC82 (fun h => nomatch h)
                          have hvi46x0 := hvi46x0.ext hC82
                          have hvi48x0 := hvi48x0.ext hC82
                          have hvi58x0 := hvi58x0.ext hC82
                          have hb26 := hb26.chg hC82 (fun h => nomatch h)
                          have hv34x0 := hv34x0.ext hC82
                          have hv40x0 := hv40x0.ext hC82
                          have hv64x0 := hv64x0.ext hC82
                          have hv67x0 := hv67x0.ext hC82
                          have hv70x0 := hv70x0.ext hC82
                          have hb74 := hb74.chg hC82 (fun h => nomatch h)
                          have hC := hC.ext hC82
                          have hO := hO.ext hC82
                          refine pl_val (.int .i64 r83) (y_assign rfl) ?_
                          refine c_nil ?_
                          refine c_seq ?_
                          refine c_seq ?_
                          refine c_region ?_
                          refine pl_val (.int .i64 r83) (y_move rfl) ?_
                          refine pl_val (.bool (decide (r83 < 0))) (y_lss rfl rfl) ?_
                          refine c_nil ?_
                          rcases bif_some hs with ⟨hc84, hs⟩ | ⟨hc84, hs⟩
                          · skip
                            refine c_condT (congrArg Value.bool hc84) ?_
                            refine c_seq ?_
                            refine c_region ?_
                            refine pl_val (.bool false) (y_assign rfl) ?_
                            refine c_nil ?_
                            refine wp_ret ?_
                            cases hs
                            exact ⟨_, fr_ovl 119 ⟨rfl, trivial⟩, hC⟩
                          · skip
                            refine c_condF (congrArg Value.bool hc84) ?_
                            refine wp_skip ?_
                            refine c_seq ?_
                            refine c_seq ?_
                            refine c_region ?_
                            refine pl_val (.int .i64 r83) (y_move rfl) ?_
                            refine pl_val (.int .i64 r59.1) (y_move rfl) ?_
                            refine pl_val (.bool (r83 != r59.1)) (y_neq rfl rfl) ?_
                            refine c_nil ?_
                            rcases bif_some hs with ⟨hc85, hs⟩ | ⟨hc85, hs⟩
                            · skip
                              refine c_condT (congrArg Value.bool hc85) ?_
                              refine c_seq ?_
                              refine c_region ?_
                              refine pl_val (.bool false) (y_assign rfl) ?_
                              refine c_nil ?_
                              refine wp_ret ?_
                              cases hs
                              exact ⟨_, fr_ovl 119 ⟨rfl, trivial⟩, hC⟩
                            · skip
                              refine c_condF (congrArg Value.bool hc85) ?_
                              refine wp_skip ?_
                              refine c_seq ?_
                              refine c_region ?_
                              refine pl_val (.bool true) (y_assign rfl) ?_
                              refine c_nil ?_
                              refine wp_ret ?_
                              cases hs
                              exact ⟨_, fr_ovl 119 ⟨rfl, trivial⟩, hC⟩

end Go.Proofs
