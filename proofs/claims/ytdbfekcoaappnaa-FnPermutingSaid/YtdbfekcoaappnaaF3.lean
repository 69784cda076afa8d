/- What functions of the program compute, as plain functions, and that a call gives just that. Conditions: those named in each theorem. -/
import Derived.Test.YtdbfekcoaappnaaF2
set_option linter.unusedVariables false
namespace Go.Proofs
open Go.G Go.RowKit
set_option maxRecDepth 100000

def k_impl_pairsOf (M : Nat → Prop) (w0 : World) (r : (Int × (List (List Int)))) (a : Act) (w : World) : Prop :=
  ∃ (σ : Nat → Value) (rg2 : Nat) (ra0 : Option Addr) (rn0 rc0 : Nat) (rf0 : List Nat), a = fr 35 (ovl σ [(2, (.pointer (some ⟨rg2, 0, none⟩)))]) ∧ BoxV w rg2 45 [(.int .i64 r.1), (.slice ra0 rn0 rc0)] ∧ Chg [] w0 w ∧ (RT.os 25 (RT.os 3 (RT.int .i64))).val M w (.slice ra0 rn0 rc0) r.2 rf0 ∧ Own (Nw w0 []) (fun _ => True) w (rf0 ++ ([]))
def s_impl_pairsOf (table : List (List Bool)) : Option ((Int × (List (List Int)))) :=
  (forC (S := (List (List Int))) (R := (Int × (List (List Int)))) (fun k109 s107 =>
  (idx table k109).bind fun x117 =>
  (forC (S := (List (List Int))) (R := (Int × (List (List Int)))) (fun k147 s145 =>
  (idx x117 k147).bind fun x155 =>
  (bif x155 then (app s145 ([[k109, k147]])).bind fun y163 =>
  some (.nx y163) else some (.nx s145))) 0 (x117.length : Int) s107).bind fun o149 => after o149 (fun r_ => some (.rt r_)) (fun s145 =>
  some (.nx s145))) 0 (table.length : Int) ([])).bind fun o111 => after o111 (fun r_ => some r_) (fun s107 =>
  some (2, s107))
set_option maxHeartbeats 4000000 in
theorem c_impl_pairsOf {M : Nat → Prop} {w : World} {pa0 : Option Addr} {pn0 pc0 : Nat} (table : List (List Bool)) (h0 : (RT.rs (RT.rs RT.bool)).val M w (.slice pa0 pn0 pc0) table ([])) (hM : ∀ g, w.heap.size ≤ g → M g) {r : (Int × (List (List Int)))} (hs : s_impl_pairsOf table = some r) :
    Gives Try.prog 57 [(.slice pa0 pn0 pc0)] w (fun v w' => ∃ (ra0 : Option Addr) (rn0 rc0 : Nat) (rf0 : List Nat), v = (.agg #[(.int .i64 r.1), (.slice ra0 rn0 rc0)]) ∧ Chg [] w w' ∧ (RT.os 25 (RT.os 3 (RT.int .i64))).val M w' (.slice ra0 rn0 rc0) r.2 rf0 ∧ Own (Nw w []) (fun _ => True) w' (rf0 ++ ([]))) := by
 refine calls_fr Try.func57 rfl Try.ntmps57 (Nat.le_of_ble_eq_true rfl) ?_
 have hO := Own.start (N := Nw w []) hM Nw.fut
 have hC := Chg.refl [] w
 unfold s_impl_pairsOf at hs
 refine wp_mono (Q := KPost (k_impl_pairsOf M w r)) ?_ (fun e a f1 h => ?_)
 rotate_left
 ·cases e
  case ret =>
   obtain ⟨σ, rg2, ra0, rn0, rc0, rf0, rfl, hbrg2, hrest⟩ := h
   exact ret1x Try.results57 (res_cell rfl (box_load Ag45 Sz45 hbrg2 [] _ [] rfl rfl (fun h => nomatch h))) ⟨ra0, rn0, rc0, rf0, rfl, hrest⟩
  all_goals exact (h : False).elim
 refine c_sr ?_
 obtain ⟨f2, a5, g4, f3, e2, a0⟩ := new_block w [(.int .i64 0), (.slice none 0 0)] 45
 refine pl_val (w' := f2) (.pointer (some ⟨a5, 0, none⟩)) (y_alloc (by rw [g4, f3]; kernel_rfl)) ?_
 have h0 := h0.ext e2
 have hC := hC.ext e2
 have hO := hO.new1 e2 f3 a0.lt
 refine c_nil ?_
 refine c_sr ?_
 refine pl_val (.agg #[(.int .i64 2), (.slice none 0 0)]) (y_build rfl (by kernel_rfl)) ?_
 obtain ⟨g5, a3, g6, f4, d1, f5⟩ := new_block f2 [(.int .i64 0), (.slice none 0 0)] 45
 refine pl_val (w' := g5) (.pointer (some ⟨a3, 0, none⟩)) (y_alloc (by rw [g6, f4]; kernel_rfl)) ?_
 have h0 := h0.ext d1
 have a0 := a0.cn d1
 have hC := hC.ext d1
 have hO := hO.new1 d1 f4 f5.lt
 obtain ⟨f6, g7, d2, a1⟩ := box_store (P := Try.prog) f5 [] [(.int .i64 0), (.slice none 0 0)] [] [(.int .i64 2), (.slice none 0 0)] rfl rfl (by intro u hu; simp only [List.mem_cons, List.not_mem_nil, or_false] at hu; rcases hu with rfl | rfl <;> rfl)
 refine pl_skip (w' := f6) (ys_store rfl rfl (g7 _ _ rfl Sz45)) ?_
 have h0 := h0.mt d2 hO same_
 have a0 := a0.ap d2 hO same_ (mem_l (List.mem_singleton.2 rfl))
 have hC := hC.st d2 hO same_
 have hO := hO.ext d2
 have a1 : BoxV f6 a3 45 [(.int .i64 2), (.slice none 0 0)] := a1
 refine c_nil ?_
 refine c_seq ?_
 refine c_sr ?_
 refine pl_val (.slice pa0 pn0 pc0) (y_move rfl) ?_
 refine pl_val (.int .i64 (table.length : Int)) (y_len' Sl71 (rs_len h0) rfl) ?_
 refine pl_val (.int .i64 0) (y_move rfl) ?_
 refine c_nil ?_
 obtain ⟨o111, g8, hs⟩ := bind_some hs
 refine wp_block ?_
 refine wp_forC (id := 0) (table.length : Int) (I := fun k109 s107 a a6 => ∃ (σ : Nat → Value) (b8 : Option Addr) (b9 : Nat) (c0 : Nat) (c1 : List Nat), a = fr 35 (ovl σ [(2, (.pointer (some ⟨a5, 0, none⟩))), (3, (.pointer (some ⟨a3, 0, none⟩))), (9, (.slice pa0 pn0 pc0)), (10, (.int .i64 (table.length : Int))), (11, (.int .i64 k109))]) ∧ Chg [] w a6 ∧ Own (Nw w []) M a6 (c1 ++ (([a3]) ++ (([a5]) ++ []))) ∧ (RT.rs (RT.rs RT.bool)).val M a6 (.slice pa0 pn0 pc0) table ([]) ∧ BoxV a6 a5 45 [(.int .i64 0), (.slice none 0 0)] ∧ BoxV a6 a3 45 [(.int .i64 2), (.slice b8 b9 c0)] ∧ (RT.os 25 (RT.os 3 (RT.int .i64))).val M a6 (.slice b8 b9 c0) s107 c1) (J := fun s107 a a6 => ∃ (σ : Nat → Value) (b1 : Option Addr) (b2 : Nat) (b3 : Nat) (d3 : List Nat), a = fr 35 (ovl σ [(2, (.pointer (some ⟨a5, 0, none⟩))), (3, (.pointer (some ⟨a3, 0, none⟩)))]) ∧ Chg [] w a6 ∧ Own (Nw w []) M a6 (d3 ++ (([a3]) ++ (([a5]) ++ []))) ∧ (RT.rs (RT.rs RT.bool)).val M a6 (.slice pa0 pn0 pc0) table ([]) ∧ BoxV a6 a5 45 [(.int .i64 0), (.slice none 0 0)] ∧ BoxV a6 a3 45 [(.int .i64 2), (.slice b1 b2 b3)] ∧ (RT.os 25 (RT.os 3 (RT.int .i64))).val M a6 (.slice b1 b2 b3) s107 d3) (K := (k_impl_pairsOf M w)) ?_ ?_ 0 ([]) o111 _ _ ?_ g8 ?_
 ·rintro k109 s107 a a6 ⟨σ, b8, b9, c0, c1, rfl, hC, hO, h0, a0, a1, e3⟩ hlt
  refine c_sr ?_
  refine pl_val (.bool (decide (k109 < (table.length : Int)))) (y_lss rfl rfl) ?_
  refine c_nil ?_
  refine c_seq ?_
  refine c_condF (congrArg Value.bool (decide_eq_false hlt)) ?_
  refine wp_exit ?_
  have hO := hO.fr2
  have hO := hO.fr2
  have hO := hO.fr2
  exact ⟨rfl, _, b8, b9, c0, c1, fr_ovl 35 ⟨rfl, rfl, trivial⟩, hC, hO, h0, a0, a1, e3⟩
 ·rintro k109 s107 o111 a a6 ⟨σ, b8, b9, c0, c1, rfl, hC, hO, h0, a0, a1, e3⟩ hlt hw hs
  refine c_sr ?_
  refine pl_val (.bool (decide (k109 < (table.length : Int)))) (y_lss rfl rfl) ?_
  refine c_nil ?_
  refine c_seq ?_
  refine c_condT (congrArg Value.bool (decide_eq_true hlt)) ?_
  refine wp_skip ?_
  refine c_seq ?_
  refine wp_block ?_
  refine c_sr ?_
  refine pl_val (.int .i64 k109) (y_move rfl) ?_
  obtain ⟨x117, g9, hs⟩ := bind_some hs
  obtain ⟨h1, h2, h3, h4⟩ := rs_idx Sl71 Sz84 h0 g9
  refine pl_val (.pointer (some ⟨h1, h2, none⟩)) (h3 _ _ _ _ _ _ _ _ _ rfl rfl) ?_
  obtain ⟨j4, h5, a4⟩ := at_load Ag84 Sz84 (fun _ => rfl) h4
  obtain ⟨c2, c3, c4, rfl⟩ := rs_sl a4
  refine pl_val (.slice c2 c3 c4) (y_load rfl (h5 _ (Chg.refl _ _))) ?_
  refine pl_val (.int .i64 k109) (y_assign rfl) ?_
  refine pl_val (.slice c2 c3 c4) (y_assign rfl) ?_
  refine c_nil ?_
  refine c_sr ?_
  refine pl_val (.slice c2 c3 c4) (y_move rfl) ?_
  refine pl_val (.int .i64 (x117.length : Int)) (y_len' Sl84 (rs_len a4) rfl) ?_
  refine pl_val (.int .i64 0) (y_move rfl) ?_
  refine c_nil ?_
  obtain ⟨o149, h6, hs⟩ := bind_some hs
  refine wp_block ?_
  refine wp_forC (id := 2) (x117.length : Int) (I := fun k147 s145 a a2 => ∃ (σ : Nat → Value) (a7 : Option Addr) (a8 : Nat) (a9 : Nat) (b6 : List Nat), a = fr 35 (ovl σ [(2, (.pointer (some ⟨a5, 0, none⟩))), (3, (.pointer (some ⟨a3, 0, none⟩))), (4, (.int .i64 k109)), (9, (.slice pa0 pn0 pc0)), (10, (.int .i64 (table.length : Int))), (11, (.int .i64 k109)), (16, (.slice c2 c3 c4)), (17, (.int .i64 (x117.length : Int))), (18, (.int .i64 k147))]) ∧ Chg [] w a2 ∧ Own (Nw w []) M a2 (b6 ++ (([a3]) ++ (([a5]) ++ []))) ∧ (RT.rs (RT.rs RT.bool)).val M a2 (.slice pa0 pn0 pc0) table ([]) ∧ BoxV a2 a5 45 [(.int .i64 0), (.slice none 0 0)] ∧ BoxV a2 a3 45 [(.int .i64 2), (.slice a7 a8 a9)] ∧ (RT.rs RT.bool).val M a2 (.slice c2 c3 c4) x117 ([]) ∧ (RT.os 25 (RT.os 3 (RT.int .i64))).val M a2 (.slice a7 a8 a9) s145 b6) (J := fun s145 a a2 => ∃ (σ : Nat → Value) (d4 : Option Addr) (d5 : Nat) (d6 : Nat) (d7 : List Nat), a = fr 35 (ovl σ [(2, (.pointer (some ⟨a5, 0, none⟩))), (3, (.pointer (some ⟨a3, 0, none⟩))), (9, (.slice pa0 pn0 pc0)), (10, (.int .i64 (table.length : Int))), (11, (.int .i64 k109))]) ∧ Chg [] w a2 ∧ Own (Nw w []) M a2 (d7 ++ (([a3]) ++ (([a5]) ++ []))) ∧ (RT.rs (RT.rs RT.bool)).val M a2 (.slice pa0 pn0 pc0) table ([]) ∧ BoxV a2 a5 45 [(.int .i64 0), (.slice none 0 0)] ∧ BoxV a2 a3 45 [(.int .i64 2), (.slice d4 d5 d6)] ∧ (RT.rs RT.bool).val M a2 (.slice c2 c3 c4) x117 ([]) ∧ (RT.os 25 (RT.os 3 (RT.int .i64))).val M a2 (.slice d4 d5 d6) s145 d7) (K := (k_impl_pairsOf M w)) ?_ ?_ 0 s107 o149 _ _ ?_ h6 ?_
  ·rintro k147 s145 a a2 ⟨σ, a7, a8, a9, b6, rfl, hC, hO, h0, a0, a1, a4, b0⟩ hlt
   refine c_sr ?_
   refine pl_val (.bool (decide (k147 < (x117.length : Int)))) (y_lss rfl rfl) ?_
   refine c_nil ?_
   refine c_seq ?_
   refine c_condF (congrArg Value.bool (decide_eq_false hlt)) ?_
   refine wp_exit ?_
   have hO := hO.fr2
   have hO := hO.fr2
   have hO := hO.fr2
   exact ⟨rfl, _, a7, a8, a9, b6, fr_ovl 35 ⟨rfl, rfl, rfl, rfl, rfl, trivial⟩, hC, hO, h0, a0, a1, a4, b0⟩
  ·rintro k147 s145 o149 a a2 ⟨σ, a7, a8, a9, b6, rfl, hC, hO, h0, a0, a1, a4, b0⟩ hlt hw hs
   refine c_sr ?_
   refine pl_val (.bool (decide (k147 < (x117.length : Int)))) (y_lss rfl rfl) ?_
   refine c_nil ?_
   refine c_seq ?_
   refine c_condT (congrArg Value.bool (decide_eq_true hlt)) ?_
   refine wp_skip ?_
   refine c_seq ?_
   refine wp_block ?_
   refine c_sr ?_
   refine pl_val (.int .i64 k147) (y_move rfl) ?_
   obtain ⟨x155, h7, hs⟩ := bind_some hs
   obtain ⟨h8, h9, i0, i1⟩ := rs_idx Sl84 Sz4 a4 h7
   refine pl_val (.pointer (some ⟨h8, h9, none⟩)) (i0 _ _ _ _ _ _ _ _ _ rfl rfl) ?_
   refine pl_val (.bool x155) (y_load rfl ((at_load_bool Ag4 Sz4 i1) _ (Chg.refl _ _))) ?_
   refine pl_val (.int .i64 k147) (y_assign rfl) ?_
   refine pl_val (.bool x155) (y_assign rfl) ?_
   refine c_nil ?_
   refine c_sr ?_
   refine pl_val (.bool x155) (y_move rfl) ?_
   refine c_nil ?_
   rcases bif_some hs with ⟨e4, hs⟩ | ⟨e4, hs⟩
   ·refine c_condT (congrArg Value.bool e4) ?_
    refine c_region ?_
    refine pl_val (.pointer (some ⟨a3, 1, none⟩)) (y_faddr rfl Fa45x1) ?_
    refine pl_val (.slice a7 a8 a9) (y_load rfl ((box_load Ag43 Sz43 a1 [(.int .i64 2)] [(.slice a7 a8 a9)] [] rfl rfl (fun _ => rfl)) _ (Chg.refl _ _))) ?_
    refine pl_val (.int .i64 k109) (y_move rfl) ?_
    refine pl_val (.int .i64 k147) (y_move rfl) ?_
    obtain ⟨e5, b4, i2, f7, b7, f8⟩ := new_block a2 [(.int .i64 k109), (.int .i64 k147)] 3
    refine pl_val (w' := e5) (.slice (some ⟨b4, 0, none⟩) 2 2) (y_bslice rfl (by rw [i2, f7]; kernel_rfl)) ?_
    have h0 := h0.ext b7
    have a0 := a0.cn b7
    have a1 := a1.cn b7
    have a4 := a4.ext b7
    have b0 := b0.ext b7
    have hC := hC.ext b7
    have hO := hO.new1 b7 f7 f8.lt
    have c7 := os_of_box (r := (RT.int .i64)) (M := M) (css := [[(.int .i64 k109)], [(.int .i64 k147)]]) (fps := [([] : List Nat), ([] : List Nat)]) (xs := ([k109, k147] : List Int)) f8 ⟨⟨rfl, rfl⟩, ⟨⟨rfl, rfl⟩, trivial⟩⟩ (Nat.le_of_ble_eq_true rfl) (List.nodup_cons.2 ⟨(fun h => nomatch h), List.nodup_nil⟩)
    have c7 : (RT.os 3 (RT.int .i64)).val M e5 (.slice (some ⟨b4, 0, none⟩) 2 2) [k109, k147] [b4] := c7
    obtain ⟨f9, d8, i3, g0, b5, g1⟩ := new_block e5 [(.slice (some ⟨b4, 0, none⟩) 2 2)] 25
    refine pl_val (w' := f9) (.slice (some ⟨d8, 0, none⟩) 1 1) (y_bslice rfl (by rw [i3, g0]; kernel_rfl)) ?_
    have h0 := h0.ext b5
    have a0 := a0.cn b5
    have a1 := a1.cn b5
    have a4 := a4.ext b5
    have b0 := b0.ext b5
    have c7 := c7.ext b5
    have hC := hC.ext b5
    have hO := hO.new1 b5 g0 g1.lt
    have hO := hO.perm (R := (d8 :: ((([b4])) ++ ([]))) ++ (b6 ++ (([a3]) ++ (([a5]) ++ ([]))))) (by simp)
    have i4 := hO.nd
    have e6 := os_of_box (r := (RT.os 3 (RT.int .i64))) (M := M) (css := [[(.slice (some ⟨b4, 0, none⟩) 2 2)]]) (fps := [([b4] : List Nat)]) (xs := ([[k109, k147]] : List (List Int))) g1 ⟨(os_unval c7), trivial⟩ (Nat.le_of_ble_eq_true rfl) i4
    have e6 : (RT.os 25 (RT.os 3 (RT.int .i64))).val M f9 (.slice (some ⟨d8, 0, none⟩) 1 1) [[k109, k147]] (d8 :: ((([b4])) ++ ([]))) := e6
    obtain ⟨y163, i5, hs⟩ := bind_some hs
    have hO := hO.fr1
    obtain ⟨d9, e0, e1, i6, i7, i9, c5, j0, c8⟩ := app_os Rw43 i5 b0 e6 hO.inM (fun g hg hq => hO.apart g hq (mem_l hg))
    have c9 := os_block b0
    refine pl_val (w' := i6) (.slice d9 e0 e1) (y_append rfl rfl (i9 _)) ?_
    have hO := hO.fr1
    have hO := hO.fr1
    have h0 := h0.mt c5 hO c9
    have a0 := a0.ap c5 hO c9 (mem_r (mem_r (mem_l (List.mem_singleton.2 rfl))))
    have a1 := a1.ap c5 hO c9 (mem_r (mem_l (List.mem_singleton.2 rfl)))
    have a4 := a4.mt c5 hO c9
    have hC := hC.st c5 hO c9
    have hO := hO.eat c5 j0 (os_nodup c8) c8.fpl
    refine pl_val (.pointer (some ⟨a3, 1, none⟩)) (y_faddr rfl Fa45x1) ?_
    obtain ⟨g2, j1, c6, e7⟩ := box_store (P := Try.prog) a1 [(.int .i64 2)] [(.slice a7 a8 a9)] [] [(.slice d9 e0 e1)] rfl rfl (by intro u hu; simp only [List.mem_cons, List.not_mem_nil, or_false] at hu; rcases hu with rfl <;> rfl)
    refine pl_skip (w' := g2) (ys_store rfl rfl (j1 _ _ rfl Sz43)) ?_
    have hO := hO.fr1
    have h0 := h0.mt c6 hO same_
    have a0 := a0.ap c6 hO same_ (mem_r (mem_l (List.mem_singleton.2 rfl)))
    have a4 := a4.mt c6 hO same_
    have c8 := c8.ma c6 hO same_ (fun _ e => (mem_l (e)))
    have hC := hC.st c6 hO same_
    have hO := hO.ext c6
    have e7 : BoxV g2 a3 45 [(.int .i64 2), (.slice d9 e0 e1)] := e7
    refine c_nil ?_
    refine c_region ?_
    refine pl_val (.int .i64 (w64 (k147 + 1))) (y_add rfl rfl) ?_
    refine pl_val (.int .i64 (w64 (k147 + 1))) (y_move rfl) ?_
    refine c_nil ?_
    cases hs
    have hO := hO.fr2
    have hO := hO.fr1
    have hO := hO.fr2
    exact ⟨_, d9, e0, e1, i7, fr_ovl 35 ⟨rfl, rfl, rfl, rfl, rfl, rfl, rfl, rfl, congrArg (Value.int .i64) hw, trivial⟩, hC, hO, h0, a0, e7, a4, c8⟩
   refine c_condF (congrArg Value.bool e4) ?_
   refine wp_skip ?_
   refine c_region ?_
   refine pl_val (.int .i64 (w64 (k147 + 1))) (y_add rfl rfl) ?_
   refine pl_val (.int .i64 (w64 (k147 + 1))) (y_move rfl) ?_
   refine c_nil ?_
   cases hs
   have hO := hO.fr2
   have hO := hO.fr2
   have hO := hO.fr2
   exact ⟨_, a7, a8, a9, b6, fr_ovl 35 ⟨rfl, rfl, rfl, rfl, rfl, rfl, rfl, rfl, congrArg (Value.int .i64) hw, trivial⟩, hC, hO, h0, a0, a1, a4, b0⟩
  ·skip
   have hO := hO.fr2
   have hO := hO.fr2
   have hO := hO.fr2
   exact ⟨_, b8, b9, c0, c1, fr_ovl 35 ⟨rfl, rfl, rfl, rfl, rfl, rfl, rfl, rfl, rfl, trivial⟩, hC, hO, h0, a0, a1, a4, e3⟩
  cases o149 with
  | nx _ => exact True.intro
  | rt r_ =>
   have hs := after_rt hs
   intro e8 f1 hK
   cases hs
   exact hK
  | br s145 =>
   have hs := after_br hs
   rintro e8 a2 ⟨σ, d4, d5, d6, d7, rfl, hC, hO, h0, a0, a1, a4, j2⟩
   refine c_region ?_
   refine pl_val (.int .i64 (w64 (k109 + 1))) (y_add rfl rfl) ?_
   refine pl_val (.int .i64 (w64 (k109 + 1))) (y_move rfl) ?_
   refine c_nil ?_
   cases hs
   have hO := hO.fr2
   have hO := hO.fr2
   have hO := hO.fr2
   exact ⟨_, d4, d5, d6, d7, fr_ovl 35 ⟨rfl, rfl, rfl, rfl, congrArg (Value.int .i64) hw, trivial⟩, hC, hO, h0, a0, a1, j2⟩
 ·skip
  have hO := hO.fr1
  have hO := hO.fr1
  have hO := hO.nil
  exact ⟨_, none, 0, 0, [], fr_ovl 35 ⟨rfl, rfl, rfl, rfl, rfl, trivial⟩, hC, hO, h0, a0, a1, os_nil⟩
 cases o111 with
 | nx _ => exact True.intro
 | rt r_ =>
  have hs := after_rt hs
  intro e8 f1 hK
  cases hs
  exact hK
 | br s107 =>
  have hs := after_br hs
  rintro e8 a6 ⟨σ, b1, b2, b3, d3, rfl, hC, hO, h0, a0, a1, e9⟩
  refine c_sr ?_
  refine pl_val (.agg #[(.int .i64 2), (.slice b1 b2 b3)]) (y_load rfl ((box_load Ag45 Sz45 a1 [] [(.int .i64 2), (.slice b1 b2 b3)] [] rfl rfl (fun h => nomatch h)) _ (Chg.refl _ _))) ?_
  obtain ⟨g3, j3, d0, f0⟩ := box_store (P := Try.prog) a0 [] [(.int .i64 0), (.slice none 0 0)] [] [(.int .i64 2), (.slice b1 b2 b3)] rfl rfl (by intro u hu; simp only [List.mem_cons, List.not_mem_nil, or_false] at hu; rcases hu with rfl | rfl <;> rfl)
  refine pl_skip (w' := g3) (ys_store rfl rfl (j3 _ _ rfl Sz45)) ?_
  have hO := hO.fr2
  have h0 := h0.mt d0 hO same_
  have a1 := a1.ap d0 hO same_ (mem_r (mem_l (List.mem_singleton.2 rfl)))
  have e9 := e9.ma d0 hO same_ (fun _ e => (mem_l (e)))
  have hC := hC.st d0 hO same_
  have hO := hO.ext d0
  have f0 : BoxV g3 a5 45 [(.int .i64 2), (.slice b1 b2 b3)] := f0
  refine c_nil ?_
  refine wp_ret ?_
  cases hs
  have hO := hO.drop
  have hO := hO.fr1
  have hO := hO.drop
  exact ⟨_, a5, b1, b2, b3, d3, fr_ovl 35 ⟨rfl, trivial⟩, f0, hC, e9, hO.top⟩

theorem Bd57 : Bodied Try.prog 57 := bodied Try.func57 (by kernel_rfl) rfl

def k_impl_ProductOfPartitions (M : Nat → Prop) (w0 : World) (r : (Int × (List (List Int))) × Bool) (a : Act) (w : World) : Prop :=
  ∃ (σ : Nat → Value) (rg6 : Nat) (ra0 : Option Addr) (rn0 rc0 : Nat) (rf0 : List Nat), a = fr 18 (ovl σ [(6, (.pointer (some ⟨rg6, 0, none⟩))), (7, (.bool r.2))]) ∧ BoxV w rg6 45 [(.int .i64 r.1.1), (.slice ra0 rn0 rc0)] ∧ Chg [] w0 w ∧ (RT.os 25 (RT.os 3 (RT.int .i64))).val M w (.slice ra0 rn0 rc0) r.1.2 rf0 ∧ Own (Nw w0 []) (fun _ => True) w (rf0 ++ ([]))
def s_impl_ProductOfPartitions (n : Int) (p : List Int) (q : List Int) : Option ((Int × (List (List Int))) × Bool) :=
  (s_impl_arePartitions n p q).bind fun r5 =>
  (bif (!r5) then some ((0, []), false) else (s_impl_productTable p q).bind fun r9 =>
  (s_impl_pairsOf r9).bind fun r12 =>
  some ((r12.1, r12.2), true))
set_option maxHeartbeats 4000000 in
theorem c_impl_ProductOfPartitions {M : Nat → Prop} {w : World} {pa0 : Option Addr} {pn0 pc0 : Nat} {pa1 : Option Addr} {pn1 pc1 : Nat} (n : Int) (p : List Int) (q : List Int) (h0 : (RT.rs (RT.int .i64)).val M w (.slice pa0 pn0 pc0) p ([])) (h1 : (RT.rs (RT.int .i64)).val M w (.slice pa1 pn1 pc1) q ([])) (hM : ∀ g, w.heap.size ≤ g → M g) {r : (Int × (List (List Int))) × Bool} (hs : s_impl_ProductOfPartitions n p q = some r) :
    Gives Try.prog 27 [(.int .i64 n), (.slice pa0 pn0 pc0), (.slice pa1 pn1 pc1)] w (fun v w' => ∃ (ra0 : Option Addr) (rn0 rc0 : Nat) (rf0 : List Nat), v = (.tuple #[(.agg #[(.int .i64 r.1.1), (.slice ra0 rn0 rc0)]), (.bool r.2)]) ∧ Chg [] w w' ∧ (RT.os 25 (RT.os 3 (RT.int .i64))).val M w' (.slice ra0 rn0 rc0) r.1.2 rf0 ∧ Own (Nw w []) (fun _ => True) w' (rf0 ++ ([]))) := by
 refine calls_fr Try.func27 rfl Try.ntmps27 (Nat.le_of_ble_eq_true rfl) ?_
 have hO := Own.start (N := Nw w []) hM Nw.fut
 have hC := Chg.refl [] w
 unfold s_impl_ProductOfPartitions at hs
 refine wp_mono (Q := KPost (k_impl_ProductOfPartitions M w r)) ?_ (fun e a d0 h => ?_)
 rotate_left
 ·cases e
  case ret =>
   obtain ⟨σ, rg6, ra0, rn0, rc0, rf0, rfl, hbrg6, hrest⟩ := h
   exact ret2x Try.results27 (res_cell rfl (box_load Ag45 Sz45 hbrg6 [] _ [] rfl rfl (fun h => nomatch h))) (res_tmp rfl) ⟨ra0, rn0, rc0, rf0, rfl, hrest⟩
  all_goals exact (h : False).elim
 refine c_sr ?_
 obtain ⟨c1, a1, c2, b7, a8, a0⟩ := new_block w [(.int .i64 0), (.slice none 0 0)] 45
 refine pl_val (w' := c1) (.pointer (some ⟨a1, 0, none⟩)) (y_alloc (by rw [c2, b7]; kernel_rfl)) ?_
 have h0 := h0.ext a8
 have h1 := h1.ext a8
 have hC := hC.ext a8
 have hO := hO.new1 a8 b7 a0.lt
 refine pl_val (.bool false) (y_assign rfl) ?_
 refine c_nil ?_
 refine c_seq ?_
 refine c_sr ?_
 refine pl_val (.int .i64 n) (y_move rfl) ?_
 refine pl_val (.slice pa0 pn0 pc0) (y_move rfl) ?_
 refine pl_val (.slice pa1 pn1 pc1) (y_move rfl) ?_
 obtain ⟨r5, c3, hs⟩ := bind_some hs
 refine pl_call Bd48 rfl (c_impl_arePartitions (M := M) n p q h0 h1 hO.fut c3) ?_
 rintro _ d1 ⟨rfl, a4⟩
 have h0 := h0.ext a4
 have h1 := h1.ext a4
 have a0 := a0.cn a4
 have hC := hC.ext a4
 have hO := hO.ext a4
 refine pl_val (.bool (!r5)) (y_not rfl) ?_
 refine c_nil ?_
 rcases bif_some hs with ⟨b0, hs⟩ | ⟨b0, hs⟩
 ·refine c_condT (congrArg Value.bool b0) ?_
  refine c_sr ?_
  refine pl_val (.agg #[(.int .i64 0), (.slice none 0 0)]) (y_build rfl (by kernel_rfl)) ?_
  obtain ⟨b8, c4, a9, b1⟩ := box_store (P := Try.prog) a0 [] [(.int .i64 0), (.slice none 0 0)] [] [(.int .i64 0), (.slice none 0 0)] rfl rfl (by intro u hu; simp only [List.mem_cons, List.not_mem_nil, or_false] at hu; rcases hu with rfl | rfl <;> rfl)
  refine pl_skip (w' := b8) (ys_store rfl rfl (c4 _ _ rfl Sz45)) ?_
  have h0 := h0.mt a9 hO same_
  have h1 := h1.mt a9 hO same_
  have hC := hC.st a9 hO same_
  have hO := hO.ext a9
  have b1 : BoxV b8 a1 45 [(.int .i64 0), (.slice none 0 0)] := b1
  refine pl_val (.bool false) (y_assign rfl) ?_
  refine c_nil ?_
  refine wp_ret ?_
  cases hs
  have hO := hO.drop
  have hO := hO.nil
  exact ⟨_, a1, none, 0, 0, [], fr_ovl 18 ⟨rfl, rfl, trivial⟩, b1, hC, os_nil, hO.top⟩
 refine c_condF (congrArg Value.bool b0) ?_
 refine wp_skip ?_
 refine c_sr ?_
 refine pl_val (.slice pa0 pn0 pc0) (y_move rfl) ?_
 refine pl_val (.slice pa1 pn1 pc1) (y_move rfl) ?_
 obtain ⟨r9, c5, hs⟩ := bind_some hs
 refine pl_call Bd58 rfl (c_impl_productTable (M := M) p q h0 h1 hO.fut c5) ?_
 rintro _ d2 ⟨d3, d4, d5, b2, rfl, a5, a6, c6⟩
 have h0 := h0.ext a5
 have h1 := h1.ext a5
 have a0 := a0.cn a5
 have hC := hC.ext a5
 have hO := Own.join0 hO a5 c6
 have hO := hO.perm (R := b2 ++ (([a1]) ++ ([]))) (by simp)
 obtain ⟨r12, c7, hs⟩ := bind_some hs
 refine pl_call Bd57 rfl (c_impl_pairsOf (M := (Less M b2)) r9 (((Frz.os (Frz.os Frz.bool))).val a6 Less.sub Less.not) hO.less.fut c7) ?_
 rintro _ d6 ⟨b3, b4, b5, b9, rfl, a2, a7, c8⟩
 have h0 := h0.ext a2
 have h1 := h1.ext a2
 have a0 := a0.cn a2
 have a6 := a6.ext a2
 have hC := hC.ext a2
 have hO := Own.join0 hO a2 c8
 have hO := hO.perm (R := b9 ++ (b2 ++ (([a1]) ++ ([])))) (by simp)
 have a7 := a7.free (M' := M) (Free.os (Free.os Free.int))
 obtain ⟨c0, c9, a3, b6⟩ := box_store (P := Try.prog) a0 [] [(.int .i64 0), (.slice none 0 0)] [] [(.int .i64 r12.1), (.slice b3 b4 b5)] rfl rfl (by intro u hu; simp only [List.mem_cons, List.not_mem_nil, or_false] at hu; rcases hu with rfl | rfl <;> rfl)
 refine pl_skip (w' := c0) (ys_store rfl rfl (c9 _ _ rfl Sz45)) ?_
 have hO := hO.fr2
 have h0 := h0.mt a3 hO same_
 have h1 := h1.mt a3 hO same_
 have a6 := a6.ma a3 hO same_ (fun _ e => (mem_r (mem_l (e))))
 have a7 := a7.ma a3 hO same_ (fun _ e => (mem_l (e)))
 have hC := hC.st a3 hO same_
 have hO := hO.ext a3
 have b6 : BoxV c0 a1 45 [(.int .i64 r12.1), (.slice b3 b4 b5)] := b6
 refine pl_val (.bool true) (y_assign rfl) ?_
 refine c_nil ?_
 refine wp_ret ?_
 cases hs
 have hO := hO.drop
 have hO := hO.fr1
 have hO := hO.drop
 exact ⟨_, a1, b3, b4, b5, b9, fr_ovl 18 ⟨rfl, rfl, trivial⟩, b6, hC, a7, hO.top⟩

def k_spec_ProductOfPartitions (M : Nat → Prop) (w0 : World) (r : (Int × (List (List Int))) × Bool) (a : Act) (w : World) : Prop :=
  ∃ (σ : Nat → Value) (rg6 : Nat) (ra0 : Option Addr) (rn0 rc0 : Nat) (rf0 : List Nat), a = fr 17 (ovl σ [(6, (.pointer (some ⟨rg6, 0, none⟩))), (7, (.bool r.2))]) ∧ BoxV w rg6 45 [(.int .i64 r.1.1), (.slice ra0 rn0 rc0)] ∧ Chg [] w0 w ∧ (RT.os 25 (RT.os 3 (RT.int .i64))).val M w (.slice ra0 rn0 rc0) r.1.2 rf0 ∧ Own (Nw w0 []) (fun _ => True) w (rf0 ++ ([]))
def s_spec_ProductOfPartitions (n : Int) (p : List Int) (q : List Int) : Option ((Int × (List (List Int))) × Bool) :=
  (s_spec_l16Two n p q).bind fun r5 =>
  (bif (!r5) then some ((0, []), false) else (s_spec_l16Product p q).bind fun r9 =>
  some ((r9.1, r9.2), true))
set_option maxHeartbeats 4000000 in
theorem c_spec_ProductOfPartitions {M : Nat → Prop} {w : World} {pa0 : Option Addr} {pn0 pc0 : Nat} {pa1 : Option Addr} {pn1 pc1 : Nat} (n : Int) (p : List Int) (q : List Int) (h0 : (RT.rs (RT.int .i64)).val M w (.slice pa0 pn0 pc0) p ([])) (h1 : (RT.rs (RT.int .i64)).val M w (.slice pa1 pn1 pc1) q ([])) (hM : ∀ g, w.heap.size ≤ g → M g) {r : (Int × (List (List Int))) × Bool} (hs : s_spec_ProductOfPartitions n p q = some r) :
    Gives Try.prog 28 [(.int .i64 n), (.slice pa0 pn0 pc0), (.slice pa1 pn1 pc1)] w (fun v w' => ∃ (ra0 : Option Addr) (rn0 rc0 : Nat) (rf0 : List Nat), v = (.tuple #[(.agg #[(.int .i64 r.1.1), (.slice ra0 rn0 rc0)]), (.bool r.2)]) ∧ Chg [] w w' ∧ (RT.os 25 (RT.os 3 (RT.int .i64))).val M w' (.slice ra0 rn0 rc0) r.1.2 rf0 ∧ Own (Nw w []) (fun _ => True) w' (rf0 ++ ([]))) := by
 refine calls_fr Try.func28 rfl Try.ntmps28 (Nat.le_of_ble_eq_true rfl) ?_
 have hO := Own.start (N := Nw w []) hM Nw.fut
 have hC := Chg.refl [] w
 unfold s_spec_ProductOfPartitions at hs
 refine wp_mono (Q := KPost (k_spec_ProductOfPartitions M w r)) ?_ (fun e a c5 h => ?_)
 rotate_left
 ·cases e
  case ret =>
   obtain ⟨σ, rg6, ra0, rn0, rc0, rf0, rfl, hbrg6, hrest⟩ := h
   exact ret2x Try.results28 (res_cell rfl (box_load Ag45 Sz45 hbrg6 [] _ [] rfl rfl (fun h => nomatch h))) (res_tmp rfl) ⟨ra0, rn0, rc0, rf0, rfl, hrest⟩
  all_goals exact (h : False).elim
 refine c_sr ?_
 obtain ⟨b8, a1, b9, b4, a5, a0⟩ := new_block w [(.int .i64 0), (.slice none 0 0)] 45
 refine pl_val (w' := b8) (.pointer (some ⟨a1, 0, none⟩)) (y_alloc (by rw [b9, b4]; kernel_rfl)) ?_
 have h0 := h0.ext a5
 have h1 := h1.ext a5
 have hC := hC.ext a5
 have hO := hO.new1 a5 b4 a0.lt
 refine pl_val (.bool false) (y_assign rfl) ?_
 refine c_nil ?_
 refine c_seq ?_
 refine c_sr ?_
 refine pl_val (.int .i64 n) (y_move rfl) ?_
 refine pl_val (.slice pa0 pn0 pc0) (y_move rfl) ?_
 refine pl_val (.slice pa1 pn1 pc1) (y_move rfl) ?_
 obtain ⟨r5, c0, hs⟩ := bind_some hs
 refine pl_call Bd50 rfl (c_spec_l16Two (M := M) n p q h0 h1 hO.fut c0) ?_
 rintro _ c6 ⟨rfl, a2⟩
 have h0 := h0.ext a2
 have h1 := h1.ext a2
 have a0 := a0.cn a2
 have hC := hC.ext a2
 have hO := hO.ext a2
 refine pl_val (.bool (!r5)) (y_not rfl) ?_
 refine c_nil ?_
 rcases bif_some hs with ⟨a7, hs⟩ | ⟨a7, hs⟩
 ·refine c_condT (congrArg Value.bool a7) ?_
  refine c_sr ?_
  refine pl_val (.agg #[(.int .i64 0), (.slice none 0 0)]) (y_build rfl (by kernel_rfl)) ?_
  obtain ⟨b5, c1, a6, a8⟩ := box_store (P := Try.prog) a0 [] [(.int .i64 0), (.slice none 0 0)] [] [(.int .i64 0), (.slice none 0 0)] rfl rfl (by intro u hu; simp only [List.mem_cons, List.not_mem_nil, or_false] at hu; rcases hu with rfl | rfl <;> rfl)
  refine pl_skip (w' := b5) (ys_store rfl rfl (c1 _ _ rfl Sz45)) ?_
  have h0 := h0.mt a6 hO same_
  have h1 := h1.mt a6 hO same_
  have hC := hC.st a6 hO same_
  have hO := hO.ext a6
  have a8 : BoxV b5 a1 45 [(.int .i64 0), (.slice none 0 0)] := a8
  refine pl_val (.bool false) (y_assign rfl) ?_
  refine c_nil ?_
  refine wp_ret ?_
  cases hs
  have hO := hO.drop
  have hO := hO.nil
  exact ⟨_, a1, none, 0, 0, [], fr_ovl 17 ⟨rfl, rfl, trivial⟩, a8, hC, os_nil, hO.top⟩
 refine c_condF (congrArg Value.bool a7) ?_
 refine wp_skip ?_
 refine c_sr ?_
 refine pl_val (.slice pa0 pn0 pc0) (y_move rfl) ?_
 refine pl_val (.slice pa1 pn1 pc1) (y_move rfl) ?_
 obtain ⟨r9, c2, hs⟩ := bind_some hs
 refine pl_call Bd51 rfl (c_spec_l16Product (M := M) p q h0 h1 hO.fut c2) ?_
 rintro _ c7 ⟨a9, b0, b1, b6, rfl, a3, b2, c3⟩
 have h0 := h0.ext a3
 have h1 := h1.ext a3
 have a0 := a0.cn a3
 have hC := hC.ext a3
 have hO := Own.join0 hO a3 c3
 have hO := hO.perm (R := b6 ++ (([a1]) ++ ([]))) (by simp)
 obtain ⟨b7, c4, a4, b3⟩ := box_store (P := Try.prog) a0 [] [(.int .i64 0), (.slice none 0 0)] [] [(.int .i64 r9.1), (.slice a9 b0 b1)] rfl rfl (by intro u hu; simp only [List.mem_cons, List.not_mem_nil, or_false] at hu; rcases hu with rfl | rfl <;> rfl)
 refine pl_skip (w' := b7) (ys_store rfl rfl (c4 _ _ rfl Sz45)) ?_
 have hO := hO.fr1
 have h0 := h0.mt a4 hO same_
 have h1 := h1.mt a4 hO same_
 have b2 := b2.ma a4 hO same_ (fun _ e => (mem_l (e)))
 have hC := hC.st a4 hO same_
 have hO := hO.ext a4
 have b3 : BoxV b7 a1 45 [(.int .i64 r9.1), (.slice a9 b0 b1)] := b3
 refine pl_val (.bool true) (y_assign rfl) ?_
 refine c_nil ?_
 refine wp_ret ?_
 cases hs
 have hO := hO.drop
 exact ⟨_, a1, a9, b0, b1, b6, fr_ovl 17 ⟨rfl, rfl, trivial⟩, b3, hC, b2, hO.top⟩

theorem Bd22 : Bodied Try.prog 22 := bodied Try.func22 (by kernel_rfl) rfl

def k_laws_vTable (M : Nat → Prop) (w0 : World) (r : Bool) (a : Act) (w : World) : Prop :=
  ∃ (σ : Nat → Value) , a = fr 27 (ovl σ [(4, (.bool r))]) ∧ Chg [] w0 w
def s_laws_vTable (a_ : List (List Int)) (b : List (List Int)) : Option (Bool) :=
  (bif ((a_.length : Int) != (b.length : Int)) then some false else (forC (S := Unit) (R := Bool) (fun k18 s16 =>
  (idx a_ k18).bind fun x23 =>
  (idx b k18).bind fun x27 =>
  (s_laws_vInts x23 x27).bind fun r32 =>
  (bif (!r32) then some (.rt false) else some (.nx ()))) 0 (a_.length : Int) ()).bind fun o20 => after o20 (fun r_ => some r_) (fun s16 =>
  some true))
set_option maxHeartbeats 4000000 in
theorem c_laws_vTable {M : Nat → Prop} {w : World} {pa0 : Option Addr} {pn0 pc0 : Nat} {pa1 : Option Addr} {pn1 pc1 : Nat} (a_ : List (List Int)) (b : List (List Int)) (h0 : (RT.rs (RT.rs (RT.int .i64))).val M w (.slice pa0 pn0 pc0) a_ ([])) (h1 : (RT.rs (RT.rs (RT.int .i64))).val M w (.slice pa1 pn1 pc1) b ([])) (hM : ∀ g, w.heap.size ≤ g → M g) {r : Bool} (hs : s_laws_vTable a_ b = some r) :
    Gives Try.prog 59 [(.slice pa0 pn0 pc0), (.slice pa1 pn1 pc1)] w (fun v w' => v = (.bool r) ∧ Chg [] w w') := by
 refine calls_fr Try.func59 rfl Try.ntmps59 (Nat.le_of_ble_eq_true rfl) ?_
 have hO := Own.start (N := Nw w []) hM Nw.fut
 have hC := Chg.refl [] w
 unfold s_laws_vTable at hs
 refine wp_mono (Q := KPost (k_laws_vTable M w r)) ?_ (fun e a a7 h => ?_)
 rotate_left
 ·cases e
  case ret =>
   obtain ⟨σ, rfl, hrest⟩ := h
   exact ret1x Try.results59 (res_tmp rfl) ⟨rfl, hrest⟩
  all_goals exact (h : False).elim
 refine c_sr ?_
 refine pl_val (.bool false) (y_assign rfl) ?_
 refine c_nil ?_
 refine c_seq ?_
 refine c_sr ?_
 refine pl_val (.slice pa0 pn0 pc0) (y_move rfl) ?_
 refine pl_val (.int .i64 (a_.length : Int)) (y_len' Sl43 (rs_len h0) rfl) ?_
 refine pl_val (.slice pa1 pn1 pc1) (y_move rfl) ?_
 refine pl_val (.int .i64 (b.length : Int)) (y_len' Sl43 (rs_len h1) rfl) ?_
 refine pl_val (.bool ((a_.length : Int) != (b.length : Int))) (y_neq rfl rfl) ?_
 refine c_nil ?_
 rcases bif_some hs with ⟨a5, hs⟩ | ⟨a5, hs⟩
 ·refine c_condT (congrArg Value.bool a5) ?_
  refine c_sr ?_
  refine pl_val (.bool false) (y_assign rfl) ?_
  refine c_nil ?_
  refine wp_ret ?_
  cases hs
  exact ⟨_, fr_ovl 27 ⟨rfl, trivial⟩, hC⟩
 refine c_condF (congrArg Value.bool a5) ?_
 refine wp_skip ?_
 refine c_seq ?_
 refine c_sr ?_
 refine pl_val (.int .i64 0) (y_assign rfl) ?_
 refine c_nil ?_
 obtain ⟨o20, a8, hs⟩ := bind_some hs
 refine wp_block ?_
 refine wp_forC (id := 0) (a_.length : Int) (I := fun k18 s16 a a0 => ∃ (σ : Nat → Value), a = fr 27 (ovl σ [(0, (.slice pa0 pn0 pc0)), (1, (.slice pa1 pn1 pc1)), (5, (.int .i64 k18))]) ∧ Chg [] w a0 ∧ Own (Nw w []) M a0 ([]) ∧ (RT.rs (RT.rs (RT.int .i64))).val M a0 (.slice pa0 pn0 pc0) a_ ([]) ∧ (RT.rs (RT.rs (RT.int .i64))).val M a0 (.slice pa1 pn1 pc1) b ([])) (J := fun s16 a a0 => ∃ (σ : Nat → Value), a = fr 27 (ovl σ []) ∧ Chg [] w a0 ∧ Own (Nw w []) M a0 ([]) ∧ (RT.rs (RT.rs (RT.int .i64))).val M a0 (.slice pa0 pn0 pc0) a_ ([]) ∧ (RT.rs (RT.rs (RT.int .i64))).val M a0 (.slice pa1 pn1 pc1) b ([])) (K := (k_laws_vTable M w)) ?_ ?_ 0 () o20 _ _ ?_ a8 ?_
 ·rintro k18 s16 a a0 ⟨σ, rfl, hC, hO, h0, h1⟩ hlt
  refine c_seq ?_
  refine c_sr ?_
  refine pl_val (.int .i64 k18) (y_move rfl) ?_
  refine pl_val (.slice pa0 pn0 pc0) (y_move rfl) ?_
  refine pl_val (.int .i64 (a_.length : Int)) (y_len' Sl43 (rs_len h0) rfl) ?_
  refine pl_val (.bool (decide (k18 < (a_.length : Int)))) (y_lss rfl rfl) ?_
  refine c_nil ?_
  refine c_condF (congrArg Value.bool (decide_eq_false hlt)) ?_
  refine wp_exit ?_
  exact ⟨rfl, _, fr_ovl 27 trivial, hC, hO, h0, h1⟩
 ·rintro k18 s16 o20 a a0 ⟨σ, rfl, hC, hO, h0, h1⟩ hlt hw hs
  refine c_seq ?_
  refine c_sr ?_
  refine pl_val (.int .i64 k18) (y_move rfl) ?_
  refine pl_val (.slice pa0 pn0 pc0) (y_move rfl) ?_
  refine pl_val (.int .i64 (a_.length : Int)) (y_len' Sl43 (rs_len h0) rfl) ?_
  refine pl_val (.bool (decide (k18 < (a_.length : Int)))) (y_lss rfl rfl) ?_
  refine c_nil ?_
  refine c_condT (congrArg Value.bool (decide_eq_true hlt)) ?_
  refine wp_skip ?_
  refine c_seq ?_
  refine wp_block ?_
  refine c_seq ?_
  refine x_start [] Mx rfl ?_
  have a2 := Chg.drew a0
  generalize World.drew a0 = a9 at a2 ⊢
  have h0 := h0.ext a2
  have h1 := h1.ext a2
  have hC := hC.ext a2
  have hO := hO.ext a2
  have hS := Chg.refl [] a9
  refine x_p 0 (.slice pa0 pn0 pc0) rfl (by kernel_rfl)  (fun _ => y_move rfl) (fun _ => hS) ?_
  refine x_p 1 (.int .i64 k18) rfl (by kernel_rfl)  (fun _ => y_move rfl) (fun _ => hS) ?_
  obtain ⟨x23, b0, hs⟩ := bind_some hs
  obtain ⟨b1, b2, b3, b4⟩ := rs_idx Sl43 Sz25 h0 b0
  refine x_p 2 (.pointer (some ⟨b1, b2, none⟩)) rfl (by kernel_rfl)  (fun _ => b3 _ _ _ _ _ _ _ _ _ rfl rfl) (fun _ => hS) ?_
  obtain ⟨d0, b5, a3⟩ := at_load Ag25 Sz25 (fun _ => rfl) b4
  obtain ⟨b6, b7, b8, rfl⟩ := rs_sl a3
  refine x_l 3 (.slice b6 b7 b8) rfl (by kernel_rfl)  (fun w' hw' => y_load rfl (b5 w' hw')) hS ?_
  refine x_p 4 (.slice pa1 pn1 pc1) rfl (by kernel_rfl)  (fun _ => y_move rfl) (fun _ => hS) ?_
  refine x_p 5 (.int .i64 k18) rfl (by kernel_rfl)  (fun _ => y_move rfl) (fun _ => hS) ?_
  obtain ⟨x27, b9, hs⟩ := bind_some hs
  obtain ⟨c0, c1, c2, c3⟩ := rs_idx Sl43 Sz25 h1 b9
  refine x_p 6 (.pointer (some ⟨c0, c1, none⟩)) rfl (by kernel_rfl)  (fun _ => c2 _ _ _ _ _ _ _ _ _ rfl rfl) (fun _ => hS) ?_
  obtain ⟨d1, c4, a4⟩ := at_load Ag25 Sz25 (fun _ => rfl) c3
  obtain ⟨c5, c6, c7, rfl⟩ := rs_sl a4
  refine x_l 7 (.slice c5 c6 c7) rfl (by kernel_rfl)  (fun w' hw' => y_load rfl (c4 w' hw')) hS ?_
  refine x_one (i := 8) (by kernel_rfl) ?_
  obtain ⟨r32, c8, hs⟩ := bind_some hs
  refine xk_call (b := false) rfl  Bd22 rfl (c_laws_vInts (M := M) x23 x27 a3 a4 hO.fut c8) rfl (by rintro _ _ _ ⟨rfl, a1⟩; exact hS.ext a1) ?_
  rintro _ d2 ⟨rfl, a1⟩
  have h0 := h0.ext a1
  have h1 := h1.ext a1
  have a3 := a3.ext a1
  have a4 := a4.ext a1
  have hC := hC.ext a1
  have hO := hO.ext a1
  have hS := hS.ext a1
  refine x_p 9 (.bool (!r32)) rfl (by kernel_rfl)  (fun _ => y_not rfl) (fun _ => hS) ?_
  refine x_end (by kernel_rfl) ?_
  clear hS
  rcases bif_some hs with ⟨a6, hs⟩ | ⟨a6, hs⟩
  ·refine c_condT (congrArg Value.bool a6) ?_
   refine c_sr ?_
   refine pl_val (.bool false) (y_assign rfl) ?_
   refine c_nil ?_
   refine wp_ret ?_
   cases hs
   exact ⟨_, fr_ovl 27 ⟨rfl, trivial⟩, hC⟩
  refine c_condF (congrArg Value.bool a6) ?_
  refine wp_skip ?_
  refine c_region ?_
  refine pl_val (.int .i64 k18) (y_move rfl) ?_
  refine pl_val (.int .i64 (w64 (k18 + 1))) (y_add rfl rfl) ?_
  refine pl_val (.int .i64 (w64 (k18 + 1))) (y_assign rfl) ?_
  refine c_nil ?_
  cases hs
  exact ⟨_, fr_ovl 27 ⟨rfl, rfl, congrArg (Value.int .i64) hw, trivial⟩, hC, hO, h0, h1⟩
 ·skip
  exact ⟨_, fr_ovl 27 ⟨rfl, rfl, rfl, trivial⟩, hC, hO, h0, h1⟩
 cases o20 with
 | nx _ => exact True.intro
 | rt r_ =>
  have hs := after_rt hs
  intro c9 a7 hK
  cases hs
  exact hK
 | br s16 =>
  have hs := after_br hs
  rintro c9 a0 ⟨σ, rfl, hC, hO, h0, h1⟩
  refine c_sr ?_
  refine pl_val (.bool true) (y_assign rfl) ?_
  refine c_nil ?_
  refine wp_ret ?_
  cases hs
  exact ⟨_, fr_ovl 27 ⟨rfl, trivial⟩, hC⟩

theorem Bd59 : Bodied Try.prog 59 := bodied Try.func59 (by kernel_rfl) rfl

def k_laws_vRelation (M : Nat → Prop) (w0 : World) (r : Bool) (a : Act) (w : World) : Prop :=
  ∃ (σ : Nat → Value) , a = fr 17 (ovl σ [(4, (.bool r))]) ∧ Chg [] w0 w
def s_laws_vRelation (r_ : Int × (List (List Int))) (s_ : Int × (List (List Int))) : Option (Bool) :=
  (bif (r_.1 == s_.1) then (s_laws_vTable r_.2 s_.2).bind fun r7 =>
  some r7 else some false)
set_option maxHeartbeats 4000000 in
theorem c_laws_vRelation {M : Nat → Prop} {w : World} {pa0 : Option Addr} {pn0 pc0 : Nat} {pa1 : Option Addr} {pn1 pc1 : Nat} (r_ : Int × (List (List Int))) (s_ : Int × (List (List Int))) (h0 : (RT.rs (RT.rs (RT.int .i64))).val M w (.slice pa0 pn0 pc0) r_.2 ([])) (h1 : (RT.rs (RT.rs (RT.int .i64))).val M w (.slice pa1 pn1 pc1) s_.2 ([])) (hM : ∀ g, w.heap.size ≤ g → M g) {r : Bool} (hs : s_laws_vRelation r_ s_ = some r) :
    Gives Try.prog 29 [(.agg #[(.int .i64 r_.1), (.slice pa0 pn0 pc0)]), (.agg #[(.int .i64 s_.1), (.slice pa1 pn1 pc1)])] w (fun v w' => v = (.bool r) ∧ Chg [] w w') := by
 refine calls_fr Try.func29 rfl Try.ntmps29 (Nat.le_of_ble_eq_true rfl) ?_
 have hO := Own.start (N := Nw w []) hM Nw.fut
 have hC := Chg.refl [] w
 unfold s_laws_vRelation at hs
 refine wp_mono (Q := KPost (k_laws_vRelation M w r)) ?_ (fun e a b5 h => ?_)
 rotate_left
 ·cases e
  case ret =>
   obtain ⟨σ, rfl, hrest⟩ := h
   exact ret1x Try.results29 (res_tmp rfl) ⟨rfl, hrest⟩
  all_goals exact (h : False).elim
 refine c_sr ?_
 obtain ⟨a8, a6, b1, a9, a5, a1⟩ := new_block w [(.int .i64 r_.1), (.slice pa0 pn0 pc0)] 45
 refine pl_val (w' := a8) (.pointer (some ⟨a6, 0, none⟩)) (y_box rfl (by rw [b1, a9]; kernel_rfl)) ?_
 have h0 := h0.ext a5
 have h1 := h1.ext a5
 have hC := hC.ext a5
 have hO := hO.new1 a5 a9 a1.lt
 obtain ⟨b2, a7, b3, b0, a3, a4⟩ := new_block a8 [(.int .i64 s_.1), (.slice pa1 pn1 pc1)] 45
 refine pl_val (w' := b2) (.pointer (some ⟨a7, 0, none⟩)) (y_box rfl (by rw [b3, b0]; kernel_rfl)) ?_
 have h0 := h0.ext a3
 have h1 := h1.ext a3
 have a1 := a1.cn a3
 have hC := hC.ext a3
 have hO := hO.new1 a3 b0 a4.lt
 refine pl_val (.bool false) (y_assign rfl) ?_
 refine c_nil ?_
 refine c_sr ?_
 refine pl_val (.pointer (some ⟨a6, 0, none⟩)) (y_faddr rfl Fa45x0) ?_
 refine pl_val (.int .i64 r_.1) (y_load rfl ((box_load Ag3 Sz3 a1 [] [(.int .i64 r_.1)] [(.slice pa0 pn0 pc0)] rfl rfl (fun _ => rfl)) _ (Chg.refl _ _))) ?_
 refine pl_val (.pointer (some ⟨a7, 0, none⟩)) (y_faddr rfl Fa45x0) ?_
 refine pl_val (.int .i64 s_.1) (y_load rfl ((box_load Ag3 Sz3 a4 [] [(.int .i64 s_.1)] [(.slice pa1 pn1 pc1)] rfl rfl (fun _ => rfl)) _ (Chg.refl _ _))) ?_
 refine pl_val (.bool (r_.1 == s_.1)) (y_eql rfl rfl) ?_
 refine pl_val (.bool (r_.1 == s_.1)) (y_move rfl) ?_
 rcases bif_some hs with ⟨a0, hs⟩ | ⟨a0, hs⟩
 ·skip
  refine pl_yes (.pointer (some ⟨a6, 1, none⟩)) (tg := 10) (by kernel_rfl) (congrArg Value.bool a0) (y_faddr rfl Fa45x1) ?_
  refine pl_yes (.slice pa0 pn0 pc0) (tg := 10) (by kernel_rfl) (congrArg Value.bool a0) (y_load rfl ((box_load Ag43 Sz43 a1 [(.int .i64 r_.1)] [(.slice pa0 pn0 pc0)] [] rfl rfl (fun _ => rfl)) _ (Chg.refl _ _))) ?_
  refine pl_yes (.pointer (some ⟨a7, 1, none⟩)) (tg := 10) (by kernel_rfl) (congrArg Value.bool a0) (y_faddr rfl Fa45x1) ?_
  refine pl_yes (.slice pa1 pn1 pc1) (tg := 10) (by kernel_rfl) (congrArg Value.bool a0) (y_load rfl ((box_load Ag43 Sz43 a4 [(.int .i64 s_.1)] [(.slice pa1 pn1 pc1)] [] rfl rfl (fun _ => rfl)) _ (Chg.refl _ _))) ?_
  obtain ⟨r7, b4, hs⟩ := bind_some hs
  refine pl_cally (tg := 10) (by kernel_rfl) (congrArg Value.bool a0) Bd59 rfl (c_laws_vTable (M := M) r_.2 s_.2 h0 h1 hO.fut b4) ?_
  rintro _ b6 ⟨rfl, a2⟩
  have h0 := h0.ext a2
  have h1 := h1.ext a2
  have a1 := a1.cn a2
  have a4 := a4.cn a2
  have hC := hC.ext a2
  have hO := hO.ext a2
  refine pl_val (.bool r7) (y_pick_t (congrArg Value.bool a0) rfl) ?_
  refine pl_val (.bool r7) (y_assign rfl) ?_
  refine c_nil ?_
  have hO := hO.drop
  have hO := hO.drop
  refine wp_ret ?_
  cases hs
  exact ⟨_, fr_ovl 17 ⟨rfl, trivial⟩, hC⟩
 refine pl_not (tg := 10) (by kernel_rfl) (congrArg Value.bool a0) ?_
 refine pl_not (tg := 10) (by kernel_rfl) (congrArg Value.bool a0) ?_
 refine pl_not (tg := 10) (by kernel_rfl) (congrArg Value.bool a0) ?_
 refine pl_not (tg := 10) (by kernel_rfl) (congrArg Value.bool a0) ?_
 refine pl_not (tg := 10) (by kernel_rfl) (congrArg Value.bool a0) ?_
 refine pl_val (.bool false) (y_pick_f (congrArg Value.bool a0) rfl) ?_
 refine pl_val (.bool false) (y_assign rfl) ?_
 refine c_nil ?_
 have hO := hO.drop
 have hO := hO.drop
 refine wp_ret ?_
 cases hs
 exact ⟨_, fr_ovl 17 ⟨rfl, trivial⟩, hC⟩

def k_impl_inSize (M : Nat → Prop) (w0 : World) (r : Bool) (a : Act) (w : World) : Prop :=
  ∃ (σ : Nat → Value) , a = fr 21 (ovl σ [(4, (.bool r))]) ∧ Chg [] w0 w
def s_impl_inSize (list : List Int) (n : Int) : Option (Bool) :=
  (forR (S := Unit) (R := Bool) (fun _ x8 s5 =>
  (bif (decide (x8 < 0)) then some (.rt false) else (bif (decide (n ≤ x8)) then some (.rt false) else some (.nx ())))) 0 list ()).bind fun o9 => after o9 (fun r_ => some r_) (fun s5 =>
  some true)
set_option maxHeartbeats 4000000 in
theorem c_impl_inSize {M : Nat → Prop} {w : World} {pa0 : Option Addr} {pn0 pc0 : Nat} (list : List Int) (n : Int) (h0 : (RT.rs (RT.int .i64)).val M w (.slice pa0 pn0 pc0) list ([])) (hM : ∀ g, w.heap.size ≤ g → M g) {r : Bool} (hs : s_impl_inSize list n = some r) :
    Gives Try.prog 67 [(.slice pa0 pn0 pc0), (.int .i64 n)] w (fun v w' => v = (.bool r) ∧ Chg [] w w') := by
 refine calls_fr Try.func67 rfl Try.ntmps67 (Nat.le_of_ble_eq_true rfl) ?_
 have hO := Own.start (N := Nw w []) hM Nw.fut
 have hC := Chg.refl [] w
 unfold s_impl_inSize at hs
 refine wp_mono (Q := KPost (k_impl_inSize M w r)) ?_ (fun e a a4 h => ?_)
 rotate_left
 ·cases e
  case ret =>
   obtain ⟨σ, rfl, hrest⟩ := h
   exact ret1x Try.results67 (res_tmp rfl) ⟨rfl, hrest⟩
  all_goals exact (h : False).elim
 refine c_sr ?_
 refine pl_val (.bool false) (y_assign rfl) ?_
 refine c_nil ?_
 refine c_seq ?_
 refine c_sr ?_
 refine pl_val (.slice pa0 pn0 pc0) (y_move rfl) ?_
 refine pl_val (.int .i64 (list.length : Int)) (y_len' Sl25 (rs_len h0) rfl) ?_
 refine pl_val (.int .i64 0) (y_move rfl) ?_
 refine c_nil ?_
 obtain ⟨o9, a5, hs⟩ := bind_some hs
 refine wp_block ?_
 refine wp_forR (id := 0) (I := fun i_ xs_ s5 a a0 => ∃ a1 : Nat, i_ = (a1 : Int) ∧ List.drop a1 list = xs_ ∧ (∃ (σ : Nat → Value), a = fr 21 (ovl σ [(1, (.int .i64 n)), (7, (.slice pa0 pn0 pc0)), (8, (.int .i64 (list.length : Int))), (9, (.int .i64 (a1 : Int)))]) ∧ Chg [] w a0 ∧ Own (Nw w []) M a0 ([]) ∧ (RT.rs (RT.int .i64)).val M a0 (.slice pa0 pn0 pc0) list ([]))) (J := fun s5 a a0 => ∃ (σ : Nat → Value), a = fr 21 (ovl σ []) ∧ Chg [] w a0 ∧ Own (Nw w []) M a0 ([]) ∧ (RT.rs (RT.int .i64)).val M a0 (.slice pa0 pn0 pc0) list ([])) (K := (k_impl_inSize M w)) ?_ ?_ list 0 () o9 _ _ ?_ a5 ?_
 ·rintro _ s5 a a0 ⟨a1, rfl, hd, σ, rfl, hC, hO, h0⟩
  have hlt := drop_nil_ge hd
  refine c_sr ?_
  refine pl_val (.bool (decide ((a1 : Int) < (list.length : Int)))) (y_lss rfl rfl) ?_
  refine c_nil ?_
  refine c_seq ?_
  refine c_condF (congrArg Value.bool (decide_eq_false hlt)) ?_
  refine wp_exit ?_
  exact ⟨rfl, _, fr_ovl 21 trivial, hC, hO, h0⟩
 ·rintro _ x8 xs_ s5 o9 a a0 ⟨a1, rfl, hd, σ, rfl, hC, hO, h0⟩ hs
  have hlt := drop_cons_lt hd
  have a6 := drop_cons_idx hd
  refine c_sr ?_
  refine pl_val (.bool (decide ((a1 : Int) < (list.length : Int)))) (y_lss rfl rfl) ?_
  refine c_nil ?_
  refine c_seq ?_
  refine c_condT (congrArg Value.bool (decide_eq_true hlt)) ?_
  refine wp_skip ?_
  refine c_seq ?_
  refine wp_block ?_
  refine c_sr ?_
  obtain ⟨a7, a8, a9, b0⟩ := rs_idx Sl25 Sz3 h0 a6
  refine pl_val (.pointer (some ⟨a7, a8, none⟩)) (a9 _ _ _ _ _ _ _ _ _ rfl rfl) ?_
  refine pl_val (.int .i64 x8) (y_load rfl ((at_load_int Ag3 Sz3 b0) _ (Chg.refl _ _))) ?_
  refine pl_val (.int .i64 x8) (y_assign rfl) ?_
  refine c_nil ?_
  refine c_sr ?_
  refine pl_val (.int .i64 x8) (y_move rfl) ?_
  refine pl_val (.bool (decide (x8 < 0))) (y_lss rfl rfl) ?_
  refine pl_val (.bool (decide (x8 < 0))) (y_move rfl) ?_
  rcases bif_some hs with ⟨a2, hs⟩ | ⟨a2, hs⟩
  ·skip
   refine pl_not (tg := 15) (by kernel_rfl) (congrArg Value.bool a2) ?_
   refine pl_not (tg := 15) (by kernel_rfl) (congrArg Value.bool a2) ?_
   refine pl_not (tg := 15) (by kernel_rfl) (congrArg Value.bool a2) ?_
   refine pl_val (.bool true) (y_pick_t (congrArg Value.bool a2) rfl) ?_
   refine c_nil ?_
   refine c_condT (by rfl) ?_
   refine c_sr ?_
   refine pl_val (.bool false) (y_assign rfl) ?_
   refine c_nil ?_
   refine wp_ret ?_
   cases hs
   exact ⟨_, fr_ovl 21 ⟨rfl, trivial⟩, hC⟩
  refine pl_yes (.int .i64 x8) (tg := 15) (by kernel_rfl) (congrArg Value.bool a2) (y_move rfl) ?_
  refine pl_yes (.int .i64 n) (tg := 15) (by kernel_rfl) (congrArg Value.bool a2) (y_move rfl) ?_
  refine pl_yes (.bool (decide (n ≤ x8))) (tg := 15) (by kernel_rfl) (congrArg Value.bool a2) (y_geq rfl rfl) ?_
  refine pl_val (.bool (decide (n ≤ x8))) (y_pick_f (congrArg Value.bool a2) rfl) ?_
  refine c_nil ?_
  rcases bif_some hs with ⟨a3, hs⟩ | ⟨a3, hs⟩
  ·refine c_condT (congrArg Value.bool a3) ?_
   refine c_sr ?_
   refine pl_val (.bool false) (y_assign rfl) ?_
   refine c_nil ?_
   refine wp_ret ?_
   cases hs
   exact ⟨_, fr_ovl 21 ⟨rfl, trivial⟩, hC⟩
  refine c_condF (congrArg Value.bool a3) ?_
  refine wp_skip ?_
  refine c_region ?_
  refine pl_val (.int .i64 (w64 ((a1 : Int) + 1))) (y_add rfl rfl) ?_
  refine pl_val (.int .i64 (w64 ((a1 : Int) + 1))) (y_move rfl) ?_
  refine c_nil ?_
  cases hs
  exact ⟨_, rfl, drop_cons_next hd, _, fr_ovl 21 ⟨rfl, rfl, rfl, congrArg (Value.int .i64) (w64_succ hlt (Int.natCast_nonneg _) (rs_max h0)), trivial⟩, hC, hO, h0⟩
 ·skip
  exact ⟨0, rfl, rfl, _, fr_ovl 21 ⟨rfl, rfl, rfl, rfl, trivial⟩, hC, hO, h0⟩
 cases o9 with
 | nx _ => exact True.intro
 | rt r_ =>
  have hs := after_rt hs
  intro b1 a4 hK
  cases hs
  exact hK
 | br s5 =>
  have hs := after_br hs
  rintro b1 a0 ⟨σ, rfl, hC, hO, h0⟩
  refine c_sr ?_
  refine pl_val (.bool true) (y_assign rfl) ?_
  refine c_nil ?_
  refine wp_ret ?_
  cases hs
  exact ⟨_, fr_ovl 21 ⟨rfl, trivial⟩, hC⟩

theorem Bd67 : Bodied Try.prog 67 := bodied Try.func67 (by kernel_rfl) rfl

def k_impl_isRelation (M : Nat → Prop) (w0 : World) (r : Bool) (a : Act) (w : World) : Prop :=
  ∃ (σ : Nat → Value) , a = fr 50 (ovl σ [(4, (.bool r))]) ∧ Chg [] w0 w
def s_impl_isRelation (n : Int) (r_ : Int × (List (List Int))) : Option (Bool) :=
  (bif ((decide (r_.1 < 1)) || (decide (3 < r_.1))) then some false else (forC (S := Unit) (R := Bool) (fun k26 s24 =>
  (idx r_.2 k26).bind fun x30 =>
  (bif ((x30.length : Int) != r_.1) then some (.rt false) else (s_impl_inSize x30 n).bind fun r36 =>
  (bif (!r36) then some (.rt false) else (bif (decide (0 < k26)) then (idx r_.2 (w64 (k26 - 1))).bind fun x39 =>
  (s_impl_compareLists x39 x30).bind fun r44 =>
  (bif (decide (0 ≤ r44)) then some (.rt false) else some (.nx ())) else some (.nx ()))))) 0 (r_.2.length : Int) ()).bind fun o28 => after o28 (fun r_ => some r_) (fun s24 =>
  some true))
set_option maxHeartbeats 4000000 in
theorem c_impl_isRelation {M : Nat → Prop} {w : World} {pa0 : Option Addr} {pn0 pc0 : Nat} (n : Int) (r_ : Int × (List (List Int))) (h0 : (RT.rs (RT.rs (RT.int .i64))).val M w (.slice pa0 pn0 pc0) r_.2 ([])) (hM : ∀ g, w.heap.size ≤ g → M g) {r : Bool} (hs : s_impl_isRelation n r_ = some r) :
    Gives Try.prog 87 [(.int .i64 n), (.agg #[(.int .i64 r_.1), (.slice pa0 pn0 pc0)])] w (fun v w' => v = (.bool r) ∧ Chg [] w w') := by
 refine calls_fr Try.func87 rfl Try.ntmps87 (Nat.le_of_ble_eq_true rfl) ?_
 have hO := Own.start (N := Nw w []) hM Nw.fut
 have hC := Chg.refl [] w
 unfold s_impl_isRelation at hs
 refine wp_mono (Q := KPost (k_impl_isRelation M w r)) ?_ (fun e a c2 h => ?_)
 rotate_left
 ·cases e
  case ret =>
   obtain ⟨σ, rfl, hrest⟩ := h
   exact ret1x Try.results87 (res_tmp rfl) ⟨rfl, hrest⟩
  all_goals exact (h : False).elim
 refine c_sr ?_
 obtain ⟨b5, a3, c3, b9, b6, a1⟩ := new_block w [(.int .i64 r_.1), (.slice pa0 pn0 pc0)] 45
 refine pl_val (w' := b5) (.pointer (some ⟨a3, 0, none⟩)) (y_box rfl (by rw [c3, b9]; kernel_rfl)) ?_
 have h0 := h0.ext b6
 have hC := hC.ext b6
 have hO := hO.new1 b6 b9 a1.lt
 refine pl_val (.bool false) (y_assign rfl) ?_
 refine c_nil ?_
 refine c_seq ?_
 refine c_seq ?_
 refine c_mid (I := fun a c0 => ∃ (σ : Nat → Value), a = fr 50 (ovl σ [(0, (.int .i64 n)), (3, (.pointer (some ⟨a3, 0, none⟩))), (4, (.bool false)), (14, (.bool ((decide (r_.1 < 1)) || (decide (3 < r_.1)))))]) ∧ Chg [] b5 c0) ?_ ?_
 ·have hMid := Chg.refl [] b5
  refine c_region ?_
  refine pl_val (.pointer (some ⟨a3, 0, none⟩)) (y_faddr rfl Fa45x0) ?_
  refine pl_val (.int .i64 r_.1) (y_load rfl ((box_load Ag3 Sz3 a1 [] [(.int .i64 r_.1)] [(.slice pa0 pn0 pc0)] rfl rfl (fun _ => rfl)) _ (Chg.refl _ _))) ?_
  refine pl_val (.bool (decide (r_.1 < 1))) (y_lss rfl rfl) ?_
  refine pl_val (.bool (decide (r_.1 < 1))) (y_move rfl) ?_
  rcases Bool.eq_false_or_eq_true ((decide (r_.1 < 1))) with a5 | a5
  ·skip
   refine pl_not (tg := 10) (by kernel_rfl) (congrArg Value.bool a5) ?_
   refine pl_not (tg := 10) (by kernel_rfl) (congrArg Value.bool a5) ?_
   refine pl_not (tg := 10) (by kernel_rfl) (congrArg Value.bool a5) ?_
   refine pl_val (.bool ((decide (r_.1 < 1)) || (decide (3 < r_.1)))) (y_pick_t (congrArg Value.bool a5) (congrArg Value.bool (by rw [a5]; rfl))) ?_
   refine c_nil ?_
   exact ⟨_, fr_ovl 50 ⟨rfl, rfl, rfl, rfl, trivial⟩, hMid⟩
  refine pl_yes (.pointer (some ⟨a3, 0, none⟩)) (tg := 10) (by kernel_rfl) (congrArg Value.bool a5) (y_faddr rfl Fa45x0) ?_
  refine pl_yes (.int .i64 r_.1) (tg := 10) (by kernel_rfl) (congrArg Value.bool a5) (y_load rfl ((box_load Ag3 Sz3 a1 [] [(.int .i64 r_.1)] [(.slice pa0 pn0 pc0)] rfl rfl (fun _ => rfl)) _ (Chg.refl _ _))) ?_
  refine pl_yes (.bool (decide (3 < r_.1))) (tg := 10) (by kernel_rfl) (congrArg Value.bool a5) (y_gtr rfl rfl) ?_
  refine pl_val (.bool ((decide (r_.1 < 1)) || (decide (3 < r_.1)))) (y_pick_f (congrArg Value.bool a5) (congrArg Value.bool (by rw [a5]; rfl))) ?_
  refine c_nil ?_
  exact ⟨_, fr_ovl 50 ⟨rfl, rfl, rfl, rfl, trivial⟩, hMid⟩
 rintro c1 c0 ⟨σ, rfl, b3⟩
 have h0 := h0.ext b3
 have a1 := a1.cn b3
 have hC := hC.ext b3
 have hO := hO.ext b3
 rcases bif_some hs with ⟨b7, hs⟩ | ⟨b7, hs⟩
 ·refine c_condT (congrArg Value.bool b7) ?_
  refine c_sr ?_
  refine pl_val (.bool false) (y_assign rfl) ?_
  refine c_nil ?_
  refine wp_ret ?_
  cases hs
  exact ⟨_, fr_ovl 50 ⟨rfl, trivial⟩, hC⟩
 refine c_condF (congrArg Value.bool b7) ?_
 refine wp_skip ?_
 refine c_seq ?_
 refine c_sr ?_
 refine pl_val (.pointer (some ⟨a3, 1, none⟩)) (y_faddr rfl Fa45x1) ?_
 refine pl_val (.slice pa0 pn0 pc0) (y_load rfl ((box_load Ag43 Sz43 a1 [(.int .i64 r_.1)] [(.slice pa0 pn0 pc0)] [] rfl rfl (fun _ => rfl)) _ (Chg.refl _ _))) ?_
 refine pl_val (.int .i64 (r_.2.length : Int)) (y_len' Sl43 (rs_len h0) rfl) ?_
 refine pl_val (.int .i64 0) (y_move rfl) ?_
 refine c_nil ?_
 obtain ⟨o28, c4, hs⟩ := bind_some hs
 refine wp_block ?_
 refine wp_forC (id := 0) (r_.2.length : Int) (I := fun k26 s24 a a4 => ∃ (σ : Nat → Value), a = fr 50 (ovl σ [(0, (.int .i64 n)), (3, (.pointer (some ⟨a3, 0, none⟩))), (16, (.slice pa0 pn0 pc0)), (17, (.int .i64 (r_.2.length : Int))), (18, (.int .i64 k26))]) ∧ Chg [] w a4 ∧ Own (Nw w []) M a4 (([a3]) ++ []) ∧ (RT.rs (RT.rs (RT.int .i64))).val M a4 (.slice pa0 pn0 pc0) r_.2 ([]) ∧ BoxV a4 a3 45 [(.int .i64 r_.1), (.slice pa0 pn0 pc0)]) (J := fun s24 a a4 => ∃ (σ : Nat → Value), a = fr 50 (ovl σ []) ∧ Chg [] w a4 ∧ Own (Nw w []) M a4 (([a3]) ++ []) ∧ (RT.rs (RT.rs (RT.int .i64))).val M a4 (.slice pa0 pn0 pc0) r_.2 ([]) ∧ BoxV a4 a3 45 [(.int .i64 r_.1), (.slice pa0 pn0 pc0)]) (K := (k_impl_isRelation M w)) ?_ ?_ 0 () o28 _ _ ?_ c4 ?_
 ·rintro k26 s24 a a4 ⟨σ, rfl, hC, hO, h0, a1⟩ hlt
  refine c_sr ?_
  refine pl_val (.bool (decide (k26 < (r_.2.length : Int)))) (y_lss rfl rfl) ?_
  refine c_nil ?_
  refine c_seq ?_
  refine c_condF (congrArg Value.bool (decide_eq_false hlt)) ?_
  refine wp_exit ?_
  exact ⟨rfl, _, fr_ovl 50 trivial, hC, hO, h0, a1⟩
 ·rintro k26 s24 o28 a a4 ⟨σ, rfl, hC, hO, h0, a1⟩ hlt hw hs
  refine c_sr ?_
  refine pl_val (.bool (decide (k26 < (r_.2.length : Int)))) (y_lss rfl rfl) ?_
  refine c_nil ?_
  refine c_seq ?_
  refine c_condT (congrArg Value.bool (decide_eq_true hlt)) ?_
  refine wp_skip ?_
  refine c_seq ?_
  refine wp_block ?_
  refine c_sr ?_
  refine pl_val (.int .i64 k26) (y_move rfl) ?_
  obtain ⟨x30, c5, hs⟩ := bind_some hs
  obtain ⟨c6, c7, c8, c9⟩ := rs_idx Sl43 Sz25 h0 c5
  refine pl_val (.pointer (some ⟨c6, c7, none⟩)) (c8 _ _ _ _ _ _ _ _ _ rfl rfl) ?_
  obtain ⟨e2, d0, a7⟩ := at_load Ag25 Sz25 (fun _ => rfl) c9
  obtain ⟨a9, b0, b1, rfl⟩ := rs_sl a7
  refine pl_val (.slice a9 b0 b1) (y_load rfl (d0 _ (Chg.refl _ _))) ?_
  refine pl_val (.int .i64 k26) (y_assign rfl) ?_
  refine pl_val (.slice a9 b0 b1) (y_assign rfl) ?_
  refine c_nil ?_
  refine c_sr ?_
  refine pl_val (.slice a9 b0 b1) (y_move rfl) ?_
  refine pl_val (.int .i64 (x30.length : Int)) (y_len' Sl25 (rs_len a7) rfl) ?_
  refine pl_val (.pointer (some ⟨a3, 0, none⟩)) (y_faddr rfl Fa45x0) ?_
  refine pl_val (.int .i64 r_.1) (y_load rfl ((box_load Ag3 Sz3 a1 [] [(.int .i64 r_.1)] [(.slice pa0 pn0 pc0)] rfl rfl (fun _ => rfl)) _ (Chg.refl _ _))) ?_
  refine pl_val (.bool ((x30.length : Int) != r_.1)) (y_neq rfl rfl) ?_
  refine pl_val (.bool ((x30.length : Int) != r_.1)) (y_move rfl) ?_
  rcases bif_some hs with ⟨a6, hs⟩ | ⟨a6, hs⟩
  ·skip
   refine pl_not (tg := 28) (by kernel_rfl) (congrArg Value.bool a6) ?_
   refine pl_not (tg := 28) (by kernel_rfl) (congrArg Value.bool a6) ?_
   refine pl_not (tg := 28) (by kernel_rfl) (congrArg Value.bool a6) ?_
   refine pl_not (tg := 28) (by kernel_rfl) (congrArg Value.bool a6) ?_
   refine pl_val (.bool true) (y_pick_t (congrArg Value.bool a6) rfl) ?_
   refine pl_val (.bool true) (y_move rfl) ?_
   refine pl_not (tg := 34) (by kernel_rfl) (by rfl) ?_
   refine pl_not (tg := 34) (by kernel_rfl) (by rfl) ?_
   refine pl_not (tg := 34) (by kernel_rfl) (by rfl) ?_
   refine pl_nou (tg := 37) (by kernel_rfl) rfl ?_
   refine pl_nou (tg := 37) (by kernel_rfl) rfl ?_
   refine pl_nou (tg := 37) (by kernel_rfl) rfl ?_
   refine pl_nou (tg := 37) (by kernel_rfl) rfl ?_
   refine pl_nou (tg := 37) (by kernel_rfl) rfl ?_
   refine pl_nou (tg := 37) (by kernel_rfl) rfl ?_
   refine pl_nou (tg := 37) (by kernel_rfl) rfl ?_
   refine pl_nou (tg := 37) (by kernel_rfl) rfl ?_
   refine pl_nou (tg := 37) (by kernel_rfl) rfl ?_
   refine pl_not (tg := 34) (by kernel_rfl) (by rfl) ?_
   refine pl_val (.bool true) (y_pick_t (by rfl) rfl) ?_
   refine c_nil ?_
   refine c_condT (by rfl) ?_
   refine c_sr ?_
   refine pl_val (.bool false) (y_assign rfl) ?_
   refine c_nil ?_
   refine wp_ret ?_
   cases hs
   exact ⟨_, fr_ovl 50 ⟨rfl, trivial⟩, hC⟩
  refine pl_yes (.slice a9 b0 b1) (tg := 28) (by kernel_rfl) (congrArg Value.bool a6) (y_move rfl) ?_
  refine pl_yes (.int .i64 n) (tg := 28) (by kernel_rfl) (congrArg Value.bool a6) (y_move rfl) ?_
  obtain ⟨r36, d1, hs⟩ := bind_some hs
  refine pl_cally (tg := 28) (by kernel_rfl) (congrArg Value.bool a6) Bd67 rfl (c_impl_inSize (M := M) x30 n a7 hO.fut d1) ?_
  rintro _ e3 ⟨rfl, b2⟩
  have h0 := h0.ext b2
  have a1 := a1.cn b2
  have a7 := a7.ext b2
  have hC := hC.ext b2
  have hO := hO.ext b2
  refine pl_yes (.bool (!r36)) (tg := 28) (by kernel_rfl) (congrArg Value.bool a6) (y_not rfl) ?_
  refine pl_val (.bool (!r36)) (y_pick_f (congrArg Value.bool a6) rfl) ?_
  refine pl_val (.bool (!r36)) (y_move rfl) ?_
  rcases bif_some hs with ⟨a2, hs⟩ | ⟨a2, hs⟩
  ·skip
   refine pl_not (tg := 34) (by kernel_rfl) (congrArg Value.bool a2) ?_
   refine pl_not (tg := 34) (by kernel_rfl) (congrArg Value.bool a2) ?_
   refine pl_not (tg := 34) (by kernel_rfl) (congrArg Value.bool a2) ?_
   refine pl_nou (tg := 37) (by kernel_rfl) rfl ?_
   refine pl_nou (tg := 37) (by kernel_rfl) rfl ?_
   refine pl_nou (tg := 37) (by kernel_rfl) rfl ?_
   refine pl_nou (tg := 37) (by kernel_rfl) rfl ?_
   refine pl_nou (tg := 37) (by kernel_rfl) rfl ?_
   refine pl_nou (tg := 37) (by kernel_rfl) rfl ?_
   refine pl_nou (tg := 37) (by kernel_rfl) rfl ?_
   refine pl_nou (tg := 37) (by kernel_rfl) rfl ?_
   refine pl_nou (tg := 37) (by kernel_rfl) rfl ?_
   refine pl_not (tg := 34) (by kernel_rfl) (congrArg Value.bool a2) ?_
   refine pl_val (.bool true) (y_pick_t (congrArg Value.bool a2) rfl) ?_
   refine c_nil ?_
   refine c_condT (by rfl) ?_
   refine c_sr ?_
   refine pl_val (.bool false) (y_assign rfl) ?_
   refine c_nil ?_
   refine wp_ret ?_
   cases hs
   exact ⟨_, fr_ovl 50 ⟨rfl, trivial⟩, hC⟩
  refine pl_yes (.int .i64 k26) (tg := 34) (by kernel_rfl) (congrArg Value.bool a2) (y_move rfl) ?_
  refine pl_yes (.bool (decide (0 < k26))) (tg := 34) (by kernel_rfl) (congrArg Value.bool a2) (y_gtr rfl rfl) ?_
  refine pl_yes (.bool (decide (0 < k26))) (tg := 34) (by kernel_rfl) (congrArg Value.bool a2) (y_move rfl) ?_
  rcases bif_some hs with ⟨a0, hs⟩ | ⟨a0, hs⟩
  ·skip
   refine pl_yes (.pointer (some ⟨a3, 1, none⟩)) (tg := 37) (by kernel_rfl) (congrArg Value.bool a0) (y_faddr rfl Fa45x1) ?_
   refine pl_yes (.slice pa0 pn0 pc0) (tg := 37) (by kernel_rfl) (congrArg Value.bool a0) (y_load rfl ((box_load Ag43 Sz43 a1 [(.int .i64 r_.1)] [(.slice pa0 pn0 pc0)] [] rfl rfl (fun _ => rfl)) _ (Chg.refl _ _))) ?_
   refine pl_yes (.int .i64 k26) (tg := 37) (by kernel_rfl) (congrArg Value.bool a0) (y_move rfl) ?_
   refine pl_yes (.int .i64 (w64 (k26 - 1))) (tg := 37) (by kernel_rfl) (congrArg Value.bool a0) (y_sub rfl rfl) ?_
   obtain ⟨x39, d2, hs⟩ := bind_some hs
   obtain ⟨d3, d4, d5, d6⟩ := rs_idx Sl43 Sz25 h0 d2
   refine pl_yes (.pointer (some ⟨d3, d4, none⟩)) (tg := 37) (by kernel_rfl) (congrArg Value.bool a0) (d5 _ _ _ _ _ _ _ _ _ rfl rfl) ?_
   obtain ⟨e4, d7, b4⟩ := at_load Ag25 Sz25 (fun _ => rfl) d6
   obtain ⟨d8, d9, e0, rfl⟩ := rs_sl b4
   refine pl_yes (.slice d8 d9 e0) (tg := 37) (by kernel_rfl) (congrArg Value.bool a0) (y_load rfl (d7 _ (Chg.refl _ _))) ?_
   refine pl_yes (.slice a9 b0 b1) (tg := 37) (by kernel_rfl) (congrArg Value.bool a0) (y_move rfl) ?_
   obtain ⟨r44, e1, hs⟩ := bind_some hs
   refine pl_cally (tg := 37) (by kernel_rfl) (congrArg Value.bool a0) Bd103 rfl (c_impl_compareLists (M := M) x39 x30 b4 a7 hO.fut e1) ?_
   rintro _ e5 ⟨rfl, a8⟩
   have h0 := h0.ext a8
   have a1 := a1.cn a8
   have a7 := a7.ext a8
   have b4 := b4.ext a8
   have hC := hC.ext a8
   have hO := hO.ext a8
   refine pl_yes (.bool (decide (0 ≤ r44))) (tg := 37) (by kernel_rfl) (congrArg Value.bool a0) (y_geq rfl rfl) ?_
   refine pl_yes (.bool (decide (0 ≤ r44))) (tg := 34) (by kernel_rfl) (congrArg Value.bool a2) (y_pick_t (congrArg Value.bool a0) rfl) ?_
   refine pl_val (.bool (decide (0 ≤ r44))) (y_pick_f (congrArg Value.bool a2) rfl) ?_
   refine c_nil ?_
   rcases bif_some hs with ⟨b8, hs⟩ | ⟨b8, hs⟩
   ·refine c_condT (congrArg Value.bool b8) ?_
    refine c_sr ?_
    refine pl_val (.bool false) (y_assign rfl) ?_
    refine c_nil ?_
    refine wp_ret ?_
    cases hs
    exact ⟨_, fr_ovl 50 ⟨rfl, trivial⟩, hC⟩
   refine c_condF (congrArg Value.bool b8) ?_
   refine wp_skip ?_
   refine c_region ?_
   refine pl_val (.int .i64 (w64 (k26 + 1))) (y_add rfl rfl) ?_
   refine pl_val (.int .i64 (w64 (k26 + 1))) (y_move rfl) ?_
   refine c_nil ?_
   cases hs
   exact ⟨_, fr_ovl 50 ⟨rfl, rfl, rfl, rfl, congrArg (Value.int .i64) hw, trivial⟩, hC, hO, h0, a1⟩
  refine pl_not (tg := 37) (by kernel_rfl) (congrArg Value.bool a0) ?_
  refine pl_not (tg := 37) (by kernel_rfl) (congrArg Value.bool a0) ?_
  refine pl_not (tg := 37) (by kernel_rfl) (congrArg Value.bool a0) ?_
  refine pl_not (tg := 37) (by kernel_rfl) (congrArg Value.bool a0) ?_
  refine pl_not (tg := 37) (by kernel_rfl) (congrArg Value.bool a0) ?_
  refine pl_not (tg := 37) (by kernel_rfl) (congrArg Value.bool a0) ?_
  refine pl_not (tg := 37) (by kernel_rfl) (congrArg Value.bool a0) ?_
  refine pl_not (tg := 37) (by kernel_rfl) (congrArg Value.bool a0) ?_
  refine pl_not (tg := 37) (by kernel_rfl) (congrArg Value.bool a0) ?_
  refine pl_yes (.bool false) (tg := 34) (by kernel_rfl) (congrArg Value.bool a2) (y_pick_f (congrArg Value.bool a0) rfl) ?_
  refine pl_val (.bool false) (y_pick_f (congrArg Value.bool a2) rfl) ?_
  refine c_nil ?_
  refine c_condF (by rfl) ?_
  refine wp_skip ?_
  refine c_region ?_
  refine pl_val (.int .i64 (w64 (k26 + 1))) (y_add rfl rfl) ?_
  refine pl_val (.int .i64 (w64 (k26 + 1))) (y_move rfl) ?_
  refine c_nil ?_
  cases hs
  exact ⟨_, fr_ovl 50 ⟨rfl, rfl, rfl, rfl, congrArg (Value.int .i64) hw, trivial⟩, hC, hO, h0, a1⟩
 ·skip
  exact ⟨_, fr_ovl 50 ⟨rfl, rfl, rfl, rfl, rfl, trivial⟩, hC, hO, h0, a1⟩
 cases o28 with
 | nx _ => exact True.intro
 | rt r_ =>
  have hs := after_rt hs
  intro c1 c2 hK
  cases hs
  exact hK
 | br s24 =>
  have hs := after_br hs
  rintro c1 a4 ⟨σ, rfl, hC, hO, h0, a1⟩
  refine c_sr ?_
  refine pl_val (.bool true) (y_assign rfl) ?_
  refine c_nil ?_
  refine wp_ret ?_
  cases hs
  exact ⟨_, fr_ovl 50 ⟨rfl, trivial⟩, hC⟩

theorem Bd87 : Bodied Try.prog 87 := bodied Try.func87 (by kernel_rfl) rfl

def k_impl_hasRelation (M : Nat → Prop) (w0 : World) (r : Bool) (a : Act) (w : World) : Prop :=
  ∃ (σ : Nat → Value) , a = fr 12 (ovl σ [(4, (.bool r))]) ∧ Chg [] w0 w
def s_impl_hasRelation (n : Int) (r_ : Int × (List (List Int))) : Option (Bool) :=
  (s_impl_isSize n).bind fun r4 =>
  (bif r4 then (s_impl_isRelation n (r_.1, r_.2)).bind fun r7 =>
  some r7 else some false)
set_option maxHeartbeats 4000000 in
theorem c_impl_hasRelation {M : Nat → Prop} {w : World} {pa0 : Option Addr} {pn0 pc0 : Nat} (n : Int) (r_ : Int × (List (List Int))) (h0 : (RT.rs (RT.rs (RT.int .i64))).val M w (.slice pa0 pn0 pc0) r_.2 ([])) (hM : ∀ g, w.heap.size ≤ g → M g) {r : Bool} (hs : s_impl_hasRelation n r_ = some r) :
    Gives Try.prog 60 [(.int .i64 n), (.agg #[(.int .i64 r_.1), (.slice pa0 pn0 pc0)])] w (fun v w' => v = (.bool r) ∧ Chg [] w w') := by
 refine calls_fr Try.func60 rfl Try.ntmps60 (Nat.le_of_ble_eq_true rfl) ?_
 have hO := Own.start (N := Nw w []) hM Nw.fut
 have hC := Chg.refl [] w
 unfold s_impl_hasRelation at hs
 refine wp_mono (Q := KPost (k_impl_hasRelation M w r)) ?_ (fun e a b1 h => ?_)
 rotate_left
 ·cases e
  case ret =>
   obtain ⟨σ, rfl, hrest⟩ := h
   exact ret1x Try.results60 (res_tmp rfl) ⟨rfl, hrest⟩
  all_goals exact (h : False).elim
 refine c_sr ?_
 obtain ⟨a6, a7, a8, a5, a4, a1⟩ := new_block w [(.int .i64 r_.1), (.slice pa0 pn0 pc0)] 45
 refine pl_val (w' := a6) (.pointer (some ⟨a7, 0, none⟩)) (y_box rfl (by rw [a8, a5]; kernel_rfl)) ?_
 have h0 := h0.ext a4
 have hC := hC.ext a4
 have hO := hO.new1 a4 a5 a1.lt
 refine pl_val (.bool false) (y_assign rfl) ?_
 refine c_nil ?_
 refine c_sr ?_
 refine pl_val (.int .i64 n) (y_move rfl) ?_
 obtain ⟨r4, a9, hs⟩ := bind_some hs
 refine pl_call Bd32 rfl (c_impl_isSize (M := M) n  hO.fut a9) ?_
 rintro _ b2 ⟨rfl, a2⟩
 have h0 := h0.ext a2
 have a1 := a1.cn a2
 have hC := hC.ext a2
 have hO := hO.ext a2
 refine pl_val (.bool r4) (y_move rfl) ?_
 rcases bif_some hs with ⟨a0, hs⟩ | ⟨a0, hs⟩
 ·skip
  refine pl_yes (.int .i64 n) (tg := 7) (by kernel_rfl) (congrArg Value.bool a0) (y_move rfl) ?_
  refine pl_yes (.agg #[(.int .i64 r_.1), (.slice pa0 pn0 pc0)]) (tg := 7) (by kernel_rfl) (congrArg Value.bool a0) (y_load rfl ((box_load Ag45 Sz45 a1 [] [(.int .i64 r_.1), (.slice pa0 pn0 pc0)] [] rfl rfl (fun h => nomatch h)) _ (Chg.refl _ _))) ?_
  obtain ⟨r7, b0, hs⟩ := bind_some hs
  refine pl_cally (tg := 7) (by kernel_rfl) (congrArg Value.bool a0) Bd87 rfl (c_impl_isRelation (M := M) n (r_.1, r_.2) h0 hO.fut b0) ?_
  rintro _ b3 ⟨rfl, a3⟩
  have h0 := h0.ext a3
  have a1 := a1.cn a3
  have hC := hC.ext a3
  have hO := hO.ext a3
  refine pl_val (.bool r7) (y_pick_t (congrArg Value.bool a0) rfl) ?_
  refine pl_val (.bool r7) (y_assign rfl) ?_
  refine c_nil ?_
  refine wp_ret ?_
  cases hs
  exact ⟨_, fr_ovl 12 ⟨rfl, trivial⟩, hC⟩
 refine pl_not (tg := 7) (by kernel_rfl) (congrArg Value.bool a0) ?_
 refine pl_not (tg := 7) (by kernel_rfl) (congrArg Value.bool a0) ?_
 refine pl_not (tg := 7) (by kernel_rfl) (congrArg Value.bool a0) ?_
 refine pl_val (.bool false) (y_pick_f (congrArg Value.bool a0) rfl) ?_
 refine pl_val (.bool false) (y_assign rfl) ?_
 refine c_nil ?_
 refine wp_ret ?_
 cases hs
 exact ⟨_, fr_ovl 12 ⟨rfl, trivial⟩, hC⟩

theorem Bd60 : Bodied Try.prog 60 := bodied Try.func60 (by kernel_rfl) rfl

def k_impl_HasTuple (M : Nat → Prop) (w0 : World) (r : Bool × Bool) (a : Act) (w : World) : Prop :=
  ∃ (σ : Nat → Value) , a = fr 25 (ovl σ [(6, (.bool r.1)), (7, (.bool r.2))]) ∧ Chg [] w0 w
def s_impl_HasTuple (n : Int) (r_ : Int × (List (List Int))) (t : List Int) : Option (Bool × Bool) :=
  (s_impl_hasRelation n (r_.1, r_.2)).bind fun r5 =>
  (bif (!r5) then some (false, false) else (forR (S := Unit) (R := Bool × Bool) (fun _ x16 s13 =>
  (s_impl_sameList x16 t).bind fun r23 =>
  (bif r23 then some (.rt (true, true)) else some (.nx ()))) 0 r_.2 ()).bind fun o17 => after o17 (fun r_ => some r_) (fun s13 =>
  some (false, true)))
set_option maxHeartbeats 4000000 in
theorem c_impl_HasTuple {M : Nat → Prop} {w : World} {pa0 : Option Addr} {pn0 pc0 : Nat} {pa1 : Option Addr} {pn1 pc1 : Nat} (n : Int) (r_ : Int × (List (List Int))) (t : List Int) (h0 : (RT.rs (RT.rs (RT.int .i64))).val M w (.slice pa0 pn0 pc0) r_.2 ([])) (h1 : (RT.rs (RT.int .i64)).val M w (.slice pa1 pn1 pc1) t ([])) (hM : ∀ g, w.heap.size ≤ g → M g) {r : Bool × Bool} (hs : s_impl_HasTuple n r_ t = some r) :
    Gives Try.prog 30 [(.int .i64 n), (.agg #[(.int .i64 r_.1), (.slice pa0 pn0 pc0)]), (.slice pa1 pn1 pc1)] w (fun v w' => v = (.tuple #[(.bool r.1), (.bool r.2)]) ∧ Chg [] w w') := by
 refine calls_fr Try.func30 rfl Try.ntmps30 (Nat.le_of_ble_eq_true rfl) ?_
 have hO := Own.start (N := Nw w []) hM Nw.fut
 have hC := Chg.refl [] w
 unfold s_impl_HasTuple at hs
 refine wp_mono (Q := KPost (k_impl_HasTuple M w r)) ?_ (fun e a b4 h => ?_)
 rotate_left
 ·cases e
  case ret =>
   obtain ⟨σ, rfl, hrest⟩ := h
   exact ret2x Try.results30 (res_tmp rfl) (res_tmp rfl) ⟨rfl, hrest⟩
  all_goals exact (h : False).elim
 refine c_sr ?_
 obtain ⟨b5, b2, b6, b3, a5, a2⟩ := new_block w [(.int .i64 r_.1), (.slice pa0 pn0 pc0)] 45
 refine pl_val (w' := b5) (.pointer (some ⟨b2, 0, none⟩)) (y_box rfl (by rw [b6, b3]; kernel_rfl)) ?_
 have h0 := h0.ext a5
 have h1 := h1.ext a5
 have hC := hC.ext a5
 have hO := hO.new1 a5 b3 a2.lt
 refine pl_val (.bool false) (y_assign rfl) ?_
 refine pl_val (.bool false) (y_assign rfl) ?_
 refine c_nil ?_
 refine c_seq ?_
 refine c_sr ?_
 refine pl_val (.int .i64 n) (y_move rfl) ?_
 refine pl_val (.agg #[(.int .i64 r_.1), (.slice pa0 pn0 pc0)]) (y_load rfl ((box_load Ag45 Sz45 a2 [] [(.int .i64 r_.1), (.slice pa0 pn0 pc0)] [] rfl rfl (fun h => nomatch h)) _ (Chg.refl _ _))) ?_
 obtain ⟨r5, b7, hs⟩ := bind_some hs
 refine pl_call Bd60 rfl (c_impl_hasRelation (M := M) n (r_.1, r_.2) h0 hO.fut b7) ?_
 rintro _ c7 ⟨rfl, a3⟩
 have h0 := h0.ext a3
 have h1 := h1.ext a3
 have a2 := a2.cn a3
 have hC := hC.ext a3
 have hO := hO.ext a3
 refine pl_val (.bool (!r5)) (y_not rfl) ?_
 refine c_nil ?_
 rcases bif_some hs with ⟨a7, hs⟩ | ⟨a7, hs⟩
 ·refine c_condT (congrArg Value.bool a7) ?_
  refine c_sr ?_
  refine pl_val (.bool false) (y_assign rfl) ?_
  refine pl_val (.bool false) (y_assign rfl) ?_
  refine c_nil ?_
  refine wp_ret ?_
  cases hs
  exact ⟨_, fr_ovl 25 ⟨rfl, rfl, trivial⟩, hC⟩
 refine c_condF (congrArg Value.bool a7) ?_
 refine wp_skip ?_
 refine c_seq ?_
 refine c_sr ?_
 refine pl_val (.pointer (some ⟨b2, 1, none⟩)) (y_faddr rfl Fa45x1) ?_
 refine pl_val (.slice pa0 pn0 pc0) (y_load rfl ((box_load Ag43 Sz43 a2 [(.int .i64 r_.1)] [(.slice pa0 pn0 pc0)] [] rfl rfl (fun _ => rfl)) _ (Chg.refl _ _))) ?_
 refine pl_val (.int .i64 (r_.2.length : Int)) (y_len' Sl43 (rs_len h0) rfl) ?_
 refine pl_val (.int .i64 0) (y_move rfl) ?_
 refine c_nil ?_
 have hO := hO.drop
 obtain ⟨o17, b8, hs⟩ := bind_some hs
 refine wp_block ?_
 refine wp_forR (id := 0) (I := fun i_ xs_ s13 a a0 => ∃ a1 : Nat, i_ = (a1 : Int) ∧ List.drop a1 r_.2 = xs_ ∧ (∃ (σ : Nat → Value), a = fr 25 (ovl σ [(2, (.slice pa1 pn1 pc1)), (15, (.slice pa0 pn0 pc0)), (16, (.int .i64 (r_.2.length : Int))), (17, (.int .i64 (a1 : Int)))]) ∧ Chg [] w a0 ∧ Own (Nw w []) M a0 ([]) ∧ (RT.rs (RT.rs (RT.int .i64))).val M a0 (.slice pa0 pn0 pc0) r_.2 ([]) ∧ (RT.rs (RT.int .i64)).val M a0 (.slice pa1 pn1 pc1) t ([]))) (J := fun s13 a a0 => ∃ (σ : Nat → Value), a = fr 25 (ovl σ []) ∧ Chg [] w a0 ∧ Own (Nw w []) M a0 ([]) ∧ (RT.rs (RT.rs (RT.int .i64))).val M a0 (.slice pa0 pn0 pc0) r_.2 ([]) ∧ (RT.rs (RT.int .i64)).val M a0 (.slice pa1 pn1 pc1) t ([])) (K := (k_impl_HasTuple M w)) ?_ ?_ r_.2 0 () o17 _ _ ?_ b8 ?_
 ·rintro _ s13 a a0 ⟨a1, rfl, hd, σ, rfl, hC, hO, h0, h1⟩
  have hlt := drop_nil_ge hd
  refine c_sr ?_
  refine pl_val (.bool (decide ((a1 : Int) < (r_.2.length : Int)))) (y_lss rfl rfl) ?_
  refine c_nil ?_
  refine c_seq ?_
  refine c_condF (congrArg Value.bool (decide_eq_false hlt)) ?_
  refine wp_exit ?_
  exact ⟨rfl, _, fr_ovl 25 trivial, hC, hO, h0, h1⟩
 ·rintro _ x16 xs_ s13 o17 a a0 ⟨a1, rfl, hd, σ, rfl, hC, hO, h0, h1⟩ hs
  have hlt := drop_cons_lt hd
  have b9 := drop_cons_idx hd
  refine c_sr ?_
  refine pl_val (.bool (decide ((a1 : Int) < (r_.2.length : Int)))) (y_lss rfl rfl) ?_
  refine c_nil ?_
  refine c_seq ?_
  refine c_condT (congrArg Value.bool (decide_eq_true hlt)) ?_
  refine wp_skip ?_
  refine c_seq ?_
  refine wp_block ?_
  refine c_sr ?_
  obtain ⟨c0, c1, c2, c3⟩ := rs_idx Sl43 Sz25 h0 b9
  refine pl_val (.pointer (some ⟨c0, c1, none⟩)) (c2 _ _ _ _ _ _ _ _ _ rfl rfl) ?_
  obtain ⟨c8, c4, a6⟩ := at_load Ag25 Sz25 (fun _ => rfl) c3
  obtain ⟨a8, a9, b0, rfl⟩ := rs_sl a6
  refine pl_val (.slice a8 a9 b0) (y_load rfl (c4 _ (Chg.refl _ _))) ?_
  refine pl_val (.slice a8 a9 b0) (y_assign rfl) ?_
  refine c_nil ?_
  refine c_sr ?_
  refine pl_val (.slice a8 a9 b0) (y_move rfl) ?_
  refine pl_val (.slice pa1 pn1 pc1) (y_move rfl) ?_
  obtain ⟨r23, c5, hs⟩ := bind_some hs
  refine pl_call Bd42 rfl (c_impl_sameList (M := M) x16 t a6 h1 hO.fut c5) ?_
  rintro _ c9 ⟨rfl, a4⟩
  have h0 := h0.ext a4
  have h1 := h1.ext a4
  have a6 := a6.ext a4
  have hC := hC.ext a4
  have hO := hO.ext a4
  refine c_nil ?_
  rcases bif_some hs with ⟨b1, hs⟩ | ⟨b1, hs⟩
  ·refine c_condT (congrArg Value.bool b1) ?_
   refine c_sr ?_
   refine pl_val (.bool true) (y_assign rfl) ?_
   refine pl_val (.bool true) (y_assign rfl) ?_
   refine c_nil ?_
   refine wp_ret ?_
   cases hs
   exact ⟨_, fr_ovl 25 ⟨rfl, rfl, trivial⟩, hC⟩
  refine c_condF (congrArg Value.bool b1) ?_
  refine wp_skip ?_
  refine c_region ?_
  refine pl_val (.int .i64 (w64 ((a1 : Int) + 1))) (y_add rfl rfl) ?_
  refine pl_val (.int .i64 (w64 ((a1 : Int) + 1))) (y_move rfl) ?_
  refine c_nil ?_
  cases hs
  exact ⟨_, rfl, drop_cons_next hd, _, fr_ovl 25 ⟨rfl, rfl, rfl, congrArg (Value.int .i64) (w64_succ hlt (Int.natCast_nonneg _) (rs_max h0)), trivial⟩, hC, hO, h0, h1⟩
 ·skip
  exact ⟨0, rfl, rfl, _, fr_ovl 25 ⟨rfl, rfl, rfl, rfl, trivial⟩, hC, hO, h0, h1⟩
 cases o17 with
 | nx _ => exact True.intro
 | rt r_ =>
  have hs := after_rt hs
  intro c6 b4 hK
  cases hs
  exact hK
 | br s13 =>
  have hs := after_br hs
  rintro c6 a0 ⟨σ, rfl, hC, hO, h0, h1⟩
  refine c_sr ?_
  refine pl_val (.bool false) (y_assign rfl) ?_
  refine pl_val (.bool true) (y_assign rfl) ?_
  refine c_nil ?_
  refine wp_ret ?_
  cases hs
  exact ⟨_, fr_ovl 25 ⟨rfl, rfl, trivial⟩, hC⟩

theorem Bd5 : Bodied Try.prog 5 := bodied Try.func5 (by kernel_rfl) rfl

theorem Bd19 : Bodied Try.prog 19 := bodied Try.func19 (by kernel_rfl) rfl

theorem Bd20 : Bodied Try.prog 20 := bodied Try.func20 (by kernel_rfl) rfl

theorem Bd21 : Bodied Try.prog 21 := bodied Try.func21 (by kernel_rfl) rfl

theorem Bd23 : Bodied Try.prog 23 := bodied Try.func23 (by kernel_rfl) rfl

theorem Bd24 : Bodied Try.prog 24 := bodied Try.func24 (by kernel_rfl) rfl

theorem Bd25 : Bodied Try.prog 25 := bodied Try.func25 (by kernel_rfl) rfl

theorem Bd26 : Bodied Try.prog 26 := bodied Try.func26 (by kernel_rfl) rfl

theorem Bd27 : Bodied Try.prog 27 := bodied Try.func27 (by kernel_rfl) rfl

theorem Bd28 : Bodied Try.prog 28 := bodied Try.func28 (by kernel_rfl) rfl

theorem Bd29 : Bodied Try.prog 29 := bodied Try.func29 (by kernel_rfl) rfl

theorem Bd30 : Bodied Try.prog 30 := bodied Try.func30 (by kernel_rfl) rfl

def k_laws_FnPermuting (M : Nat → Prop) (w0 : World) (r : Bool) (a : Act) (w : World) : Prop :=
  ∃ (σ : Nat → Value) , a = fr 210 (ovl σ [(2, (.bool r))]) ∧ Chg [] w0 w
def s_laws_FnPermuting (code : List Int) : Option (Bool) :=
  (s_laws_vBig code).bind fun r3 =>
  (bif r3 then some true else (s_spec_DrawFirstUnpermuted code).bind fun r6 =>
  (s_impl_FirstUnpermuted r6.1 r6.2.1 r6.2.2).bind fun r10 =>
  (s_spec_FirstUnpermuted r6.1 r6.2.1 r6.2.2).bind fun r15 =>
  ((bif (!(r10.2 == r15.2)) then some true else (s_laws_vInts r10.1 r15.1).bind fun r22 =>
  some (!r22))).bind fun s17 =>
  (bif s17 then some false else (s_impl_DoPermute r6.1 r6.2.1 r6.2.2).bind fun r25 =>
  (s_spec_DoPermute r6.1 r6.2.1 r6.2.2).bind fun r27 =>
  (bif ((!(r25.1 == r27.1)) || (!(r25.2 == r27.2))) then some false else (s_impl_FactorsToJoin r6.1 r6.2.1 r6.2.2).bind fun r34 =>
  (s_spec_FactorsToJoin r6.1 r6.2.1 r6.2.2).bind fun r36 =>
  (bif (((r34.1 != r36.1) || (!(r34.2 == r36.2))) || (!(r34.2 == r25.2))) then some false else (s_impl_ProductOfPartitions r6.1 r6.2.1 r6.2.2).bind fun r45 =>
  (s_spec_ProductOfPartitions r6.1 r6.2.1 r6.2.2).bind fun r50 =>
  ((bif (!(r45.2 == r50.2)) then some true else (bif (!(r45.2 == r25.2)) then some true else (s_laws_vRelation (r45.1.1, r45.1.2) (r50.1.1, r50.1.2)).bind fun r60 =>
  some (!r60)))).bind fun s54 =>
  (bif s54 then some false else (bif (!r25.2) then some (!r10.2) else (s_impl_ProductOfPartitions r6.1 r6.2.2 r6.2.1).bind fun r64 =>
  ((bif (!r64.2) then some true else (s_laws_vRelation (r45.1.1, r45.1.2) (r64.1.1, r64.1.2)).bind fun r73 =>
  (bif (!(r25.1 == r73)) then some true else some (!(r25.1 == (decide (r34.1 ≤ 2))))))).bind fun s68 =>
  (bif s68 then some false else (bif r10.2 then (s_impl_HasTuple r6.1 (r45.1.1, r45.1.2) r10.1).bind fun r78 =>
  (s_impl_HasTuple r6.1 (r64.1.1, r64.1.2) r10.1).bind fun r80 =>
  some ((((r78.2 && r80.2) && r78.1) && (!r80.1)) && (!r25.1)) else (s_impl_FirstUnpermuted r6.1 r6.2.2 r6.2.1).bind fun r100 =>
  (bif r25.1 then some true else (bif r100.2 then some ((r100.1.length : Int) == 2) else some false))))))))))
set_option maxHeartbeats 4000000 in
theorem c_laws_FnPermuting {M : Nat → Prop} {w : World} {pa0 : Option Addr} {pn0 pc0 : Nat} (code : List Int) (h0 : (RT.rs (RT.int .u8)).val M w (.slice pa0 pn0 pc0) code ([])) (hM : ∀ g, w.heap.size ≤ g → M g) {r : Bool} (hs : s_laws_FnPermuting code = some r) :
    Gives Try.prog 4 [(.slice pa0 pn0 pc0)] w (fun v w' => v = (.bool r) ∧ Chg [] w w') := by
 refine calls_fr Try.func4 rfl Try.ntmps4 (Nat.le_of_ble_eq_true rfl) ?_
 have hO := Own.start (N := Nw w []) hM Nw.fut
 have hC := Chg.refl [] w
 unfold s_laws_FnPermuting at hs
 refine wp_mono (Q := KPost (k_laws_FnPermuting M w r)) ?_ (fun e a r9 h => ?_)
 rotate_left
 ·cases e
  case ret =>
   obtain ⟨σ, rfl, hrest⟩ := h
   exact ret1x Try.results4 (res_tmp rfl) ⟨rfl, hrest⟩
  all_goals exact (h : False).elim
 refine c_sr ?_
 refine pl_val (.bool false) (y_assign rfl) ?_
 refine c_nil ?_
 refine c_seq ?_
 refine c_sr ?_
 refine pl_val (.slice pa0 pn0 pc0) (y_move rfl) ?_
 obtain ⟨r3, n5, hs⟩ := bind_some hs
 refine pl_call Bd5 rfl (c_laws_vBig (M := M) code h0 hO.fut n5) ?_
 rintro _ s0 ⟨rfl, k1⟩
 have h0 := h0.ext k1
 have hC := hC.ext k1
 have hO := hO.ext k1
 refine c_nil ?_
 rcases bif_some hs with ⟨k2, hs⟩ | ⟨k2, hs⟩
 ·refine c_condT (congrArg Value.bool k2) ?_
  refine c_sr ?_
  refine pl_val (.bool true) (y_assign rfl) ?_
  refine c_nil ?_
  refine wp_ret ?_
  cases hs
  exact ⟨_, fr_ovl 210 ⟨rfl, trivial⟩, hC⟩
 refine c_condF (congrArg Value.bool k2) ?_
 refine wp_skip ?_
 refine c_sr ?_
 refine pl_val (.slice pa0 pn0 pc0) (y_move rfl) ?_
 obtain ⟨r6, n6, hs⟩ := bind_some hs
 refine pl_call Bd19 rfl (c_spec_DrawFirstUnpermuted (M := M) code h0 hO.fut n6) ?_
 rintro _ s1 ⟨a6, a7, a8, k3, a9, b0, b1, k4, rfl, k5, i7, h1, n7⟩
 have h0 := h0.ext k5
 have hC := hC.ext k5
 have hO := Own.join0 hO k5 n7
 have hO := hO.perm (R := k3 ++ (k4 ++ ([]))) (by simp)
 refine pl_val (.tuple #[(.int .i64 r6.1), (.slice a6 a7 a8), (.slice a9 b0 b1)]) (y_move rfl) ?_
 refine pl_val (.int .i64 r6.1) (y_extract rfl (by kernel_rfl)) ?_
 refine pl_val (.slice a6 a7 a8) (y_extract rfl (by kernel_rfl)) ?_
 refine pl_val (.slice a9 b0 b1) (y_extract rfl (by kernel_rfl)) ?_
 refine pl_val (.int .i64 r6.1) (y_assign rfl) ?_
 refine pl_val (.slice a6 a7 a8) (y_assign rfl) ?_
 refine pl_val (.slice a9 b0 b1) (y_assign rfl) ?_
 refine c_nil ?_
 refine c_sr ?_
 refine pl_val (.int .i64 r6.1) (y_move rfl) ?_
 refine pl_val (.slice a6 a7 a8) (y_move rfl) ?_
 refine pl_val (.slice a9 b0 b1) (y_move rfl) ?_
 have hO := hO.fr1
 have hO := hO.fr1
 obtain ⟨r10, n8, hs⟩ := bind_some hs
 refine pl_call Bd20 rfl (c_impl_FirstUnpermuted (M := (Less (Less M k3) k4)) r6.1 r6.2.1 r6.2.2 ((((Frz.os Frz.int)).val i7 Less.sub Less.not).sub Less.sub) (((Frz.os Frz.int)).val (h1.sub Less.sub) Less.sub Less.not) (hO.less).less.fut n8) ?_
 rintro _ b3 ⟨b7, b8, b9, f2, rfl, i9, a2, n9⟩
 have i7 := i7.ext i9
 have h1 := h1.ext i9
 have hC := hC.ext i9
 have hO := Own.join0 hO i9 n9
 have hO := hO.perm (R := f2 ++ (k3 ++ (k4 ++ ([])))) (by simp)
 have a2 := a2.free (M' := M) (Free.os Free.int)
 refine pl_val (.tuple #[(.slice b7 b8 b9), (.bool r10.2)]) (y_move rfl) ?_
 refine pl_val (.slice b7 b8 b9) (y_extract rfl (by kernel_rfl)) ?_
 refine pl_val (.bool r10.2) (y_extract rfl (by kernel_rfl)) ?_
 refine pl_val (.slice b7 b8 b9) (y_assign rfl) ?_
 refine pl_val (.bool r10.2) (y_assign rfl) ?_
 refine c_nil ?_
 refine c_seq ?_
 refine c_sr ?_
 refine pl_val (.int .i64 r6.1) (y_move rfl) ?_
 refine pl_val (.slice a6 a7 a8) (y_move rfl) ?_
 refine pl_val (.slice a9 b0 b1) (y_move rfl) ?_
 have hO := hO.fr1
 obtain ⟨l4, s2, l5, o0, hO, a0⟩ := frz_own (Frz.os Frz.int) i7 hO
 have h1 := h1.sub (M' := l4) l5
 have a2 := a2.sub (M' := l4) l5
 have hK := o0
 have hO := hO.fr1
 obtain ⟨a5, s3, l6, o1, hO, a1⟩ := frz_own (Frz.os Frz.int) h1 hO
 have a0 := a0.sub (M' := a5) l6
 have a2 := a2.sub (M' := a5) l6
 have hK := hK.trans o1
 obtain ⟨r15, o2, hs⟩ := bind_some hs
 refine pl_call Bd21 rfl (c_spec_FirstUnpermuted (M := a5) r6.1 r6.2.1 r6.2.2 a0 a1 hO.fut o2) ?_
 rintro _ b2 ⟨j0, j1, j2, rfl, h7, k6⟩
 have hK := hK.trans (show Keeps w a5 (Past a5 b3 b2) from Keeps.past hC.size)
 have a0 := a0.ext h7
 have a1 := a1.ext h7
 have a2 := a2.ext h7
 have hC := hC.ext h7
 have hO := hO.past h7
 have a0 := a0.sub (M' := (Past a5 b3 b2)) (fun g hg => .inl hg.1)
 have a1 := a1.sub (M' := (Past a5 b3 b2)) (fun g hg => .inl hg.1)
 have a2 := a2.sub (M' := (Past a5 b3 b2)) (fun g hg => .inl hg.1)
 refine pl_val (.tuple #[(.slice j0 j1 j2), (.bool r15.2)]) (y_move rfl) ?_
 refine pl_val (.slice j0 j1 j2) (y_extract rfl (by kernel_rfl)) ?_
 refine pl_val (.bool r15.2) (y_extract rfl (by kernel_rfl)) ?_
 refine pl_val (.slice j0 j1 j2) (y_assign rfl) ?_
 refine pl_val (.bool r15.2) (y_assign rfl) ?_
 refine c_nil ?_
 refine c_seq ?_
 obtain ⟨s17, o3, hs⟩ := bind_some hs
 refine c_mid (I := fun a l7 => ∃ (σ : Nat → Value), a = fr 210 (ovl σ [(2, (.bool false)), (3, (.int .i64 r6.1)), (4, (.slice a6 a7 a8)), (5, (.slice a9 b0 b1)), (6, (.slice b7 b8 b9)), (7, (.bool r10.2)), (60, (.bool s17))]) ∧ Chg [] b2 l7) ?_ ?_
 ·replace hs := o3
  have hMid := Chg.refl [] b2
  refine c_region ?_
  refine pl_val (.bool r10.2) (y_move rfl) ?_
  refine pl_val (.bool r15.2) (y_move rfl) ?_
  refine pl_val (.bool (!(r10.2 == r15.2))) (y_bneq Try.underlying4 rfl rfl) ?_
  refine pl_val (.bool (!(r10.2 == r15.2))) (y_move rfl) ?_
  rcases bif_some hs with ⟨c0, hs⟩ | ⟨c0, hs⟩
  ·skip
   refine pl_not (tg := 55) (by kernel_rfl) (congrArg Value.bool c0) ?_
   refine pl_not (tg := 55) (by kernel_rfl) (congrArg Value.bool c0) ?_
   refine pl_not (tg := 55) (by kernel_rfl) (congrArg Value.bool c0) ?_
   refine pl_not (tg := 55) (by kernel_rfl) (congrArg Value.bool c0) ?_
   refine pl_val (.bool true) (y_pick_t (congrArg Value.bool c0) rfl) ?_
   refine c_nil ?_
   cases hs
   exact ⟨_, fr_ovl 210 ⟨rfl, rfl, rfl, rfl, rfl, rfl, rfl, trivial⟩, hMid⟩
  refine pl_yes (.slice b7 b8 b9) (tg := 55) (by kernel_rfl) (congrArg Value.bool c0) (y_move rfl) ?_
  refine pl_yes (.slice j0 j1 j2) (tg := 55) (by kernel_rfl) (congrArg Value.bool c0) (y_move rfl) ?_
  obtain ⟨r22, o4, hs⟩ := bind_some hs
  refine pl_cally (tg := 55) (by kernel_rfl) (congrArg Value.bool c0) Bd22 rfl (c_laws_vInts (M := (Less (Past a5 b3 b2) f2)) r10.1 r15.1 (((Frz.os Frz.int)).val a2 Less.sub Less.not) (k6.sub Less.sub) hO.less.fut o4) ?_
  rintro _ s4 ⟨rfl, g0⟩
  have a0 := a0.ext g0
  have a1 := a1.ext g0
  have a2 := a2.ext g0
  have k6 := k6.ext g0
  have hMid := hMid.ext g0
  have hC := hC.ext g0
  have hO := hO.ext g0
  refine pl_yes (.bool (!r22)) (tg := 55) (by kernel_rfl) (congrArg Value.bool c0) (y_not rfl) ?_
  refine pl_val (.bool (!r22)) (y_pick_f (congrArg Value.bool c0) rfl) ?_
  refine c_nil ?_
  cases hs
  exact ⟨_, fr_ovl 210 ⟨rfl, rfl, rfl, rfl, rfl, rfl, rfl, trivial⟩, hMid⟩
 rintro h8 l7 ⟨σ, rfl, h9⟩
 have a0 := a0.ext h9
 have a1 := a1.ext h9
 have a2 := a2.ext h9
 have hC := hC.ext h9
 have hO := hO.ext h9
 rcases bif_some hs with ⟨k7, hs⟩ | ⟨k7, hs⟩
 ·refine c_condT (congrArg Value.bool k7) ?_
  refine c_sr ?_
  refine pl_val (.bool false) (y_assign rfl) ?_
  refine c_nil ?_
  refine wp_ret ?_
  cases hs
  exact ⟨_, fr_ovl 210 ⟨rfl, trivial⟩, hC⟩
 refine c_condF (congrArg Value.bool k7) ?_
 refine wp_skip ?_
 refine c_sr ?_
 refine pl_val (.int .i64 r6.1) (y_move rfl) ?_
 refine pl_val (.slice a6 a7 a8) (y_move rfl) ?_
 refine pl_val (.slice a9 b0 b1) (y_move rfl) ?_
 obtain ⟨r25, o5, hs⟩ := bind_some hs
 refine pl_call Bd23 rfl (c_impl_DoPermute (M := (Past a5 b3 b2)) r6.1 r6.2.1 r6.2.2 a0 a1 hO.fut o5) ?_
 rintro _ s5 ⟨rfl, i0⟩
 have a0 := a0.ext i0
 have a1 := a1.ext i0
 have a2 := a2.ext i0
 have hC := hC.ext i0
 have hO := hO.ext i0
 refine pl_val (.tuple #[(.bool r25.1), (.bool r25.2)]) (y_move rfl) ?_
 refine pl_val (.bool r25.1) (y_extract rfl (by kernel_rfl)) ?_
 refine pl_val (.bool r25.2) (y_extract rfl (by kernel_rfl)) ?_
 refine pl_val (.bool r25.1) (y_assign rfl) ?_
 refine pl_val (.bool r25.2) (y_assign rfl) ?_
 refine c_nil ?_
 refine c_seq ?_
 refine c_sr ?_
 refine pl_val (.int .i64 r6.1) (y_move rfl) ?_
 refine pl_val (.slice a6 a7 a8) (y_move rfl) ?_
 refine pl_val (.slice a9 b0 b1) (y_move rfl) ?_
 obtain ⟨r27, o6, hs⟩ := bind_some hs
 refine pl_call Bd24 rfl (c_spec_DoPermute (M := (Past a5 b3 b2)) r6.1 r6.2.1 r6.2.2 a0 a1 hO.fut o6) ?_
 rintro _ l8 ⟨rfl, i1⟩
 have a0 := a0.ext i1
 have a1 := a1.ext i1
 have a2 := a2.ext i1
 have hC := hC.ext i1
 have hO := hO.ext i1
 refine pl_val (.tuple #[(.bool r27.1), (.bool r27.2)]) (y_move rfl) ?_
 refine pl_val (.bool r27.1) (y_extract rfl (by kernel_rfl)) ?_
 refine pl_val (.bool r27.2) (y_extract rfl (by kernel_rfl)) ?_
 refine pl_val (.bool r27.1) (y_assign rfl) ?_
 refine pl_val (.bool r27.2) (y_assign rfl) ?_
 refine c_nil ?_
 refine c_seq ?_
 refine c_mid (I := fun a l9 => ∃ (σ : Nat → Value), a = fr 210 (ovl σ [(2, (.bool false)), (3, (.int .i64 r6.1)), (4, (.slice a6 a7 a8)), (5, (.slice a9 b0 b1)), (6, (.slice b7 b8 b9)), (7, (.bool r10.2)), (10, (.bool r25.1)), (11, (.bool r25.2)), (82, (.bool ((!(r25.1 == r27.1)) || (!(r25.2 == r27.2)))))]) ∧ Chg [] l8 l9) ?_ ?_
 ·have hMid := Chg.refl [] l8
  refine c_region ?_
  refine pl_val (.bool r25.1) (y_move rfl) ?_
  refine pl_val (.bool r27.1) (y_move rfl) ?_
  refine pl_val (.bool (!(r25.1 == r27.1))) (y_bneq Try.underlying4 rfl rfl) ?_
  refine pl_val (.bool (!(r25.1 == r27.1))) (y_move rfl) ?_
  rcases Bool.eq_false_or_eq_true ((!(r25.1 == r27.1))) with c1 | c1
  ·skip
   refine pl_not (tg := 78) (by kernel_rfl) (congrArg Value.bool c1) ?_
   refine pl_not (tg := 78) (by kernel_rfl) (congrArg Value.bool c1) ?_
   refine pl_not (tg := 78) (by kernel_rfl) (congrArg Value.bool c1) ?_
   refine pl_val (.bool ((!(r25.1 == r27.1)) || (!(r25.2 == r27.2)))) (y_pick_t (congrArg Value.bool c1) (congrArg Value.bool (by rw [c1]; rfl))) ?_
   refine c_nil ?_
   exact ⟨_, fr_ovl 210 ⟨rfl, rfl, rfl, rfl, rfl, rfl, rfl, rfl, rfl, trivial⟩, hMid⟩
  refine pl_yes (.bool r25.2) (tg := 78) (by kernel_rfl) (congrArg Value.bool c1) (y_move rfl) ?_
  refine pl_yes (.bool r27.2) (tg := 78) (by kernel_rfl) (congrArg Value.bool c1) (y_move rfl) ?_
  refine pl_yes (.bool (!(r25.2 == r27.2))) (tg := 78) (by kernel_rfl) (congrArg Value.bool c1) (y_bneq Try.underlying4 rfl rfl) ?_
  refine pl_val (.bool ((!(r25.1 == r27.1)) || (!(r25.2 == r27.2)))) (y_pick_f (congrArg Value.bool c1) (congrArg Value.bool (by rw [c1]; rfl))) ?_
  refine c_nil ?_
  exact ⟨_, fr_ovl 210 ⟨rfl, rfl, rfl, rfl, rfl, rfl, rfl, rfl, rfl, trivial⟩, hMid⟩
 rintro h8 l9 ⟨σ, rfl, i2⟩
 have a0 := a0.ext i2
 have a1 := a1.ext i2
 have a2 := a2.ext i2
 have hC := hC.ext i2
 have hO := hO.ext i2
 rcases bif_some hs with ⟨k8, hs⟩ | ⟨k8, hs⟩
 ·refine c_condT (congrArg Value.bool k8) ?_
  refine c_sr ?_
  refine pl_val (.bool false) (y_assign rfl) ?_
  refine c_nil ?_
  refine wp_ret ?_
  cases hs
  exact ⟨_, fr_ovl 210 ⟨rfl, trivial⟩, hC⟩
 refine c_condF (congrArg Value.bool k8) ?_
 refine wp_skip ?_
 refine c_sr ?_
 refine pl_val (.int .i64 r6.1) (y_move rfl) ?_
 refine pl_val (.slice a6 a7 a8) (y_move rfl) ?_
 refine pl_val (.slice a9 b0 b1) (y_move rfl) ?_
 obtain ⟨r34, o7, hs⟩ := bind_some hs
 refine pl_call Bd25 rfl (c_impl_FactorsToJoin (M := (Past a5 b3 b2)) r6.1 r6.2.1 r6.2.2 a0 a1 hO.fut o7) ?_
 rintro _ s6 ⟨rfl, i3⟩
 have a0 := a0.ext i3
 have a1 := a1.ext i3
 have a2 := a2.ext i3
 have hC := hC.ext i3
 have hO := hO.ext i3
 refine pl_val (.tuple #[(.int .i64 r34.1), (.bool r34.2)]) (y_move rfl) ?_
 refine pl_val (.int .i64 r34.1) (y_extract rfl (by kernel_rfl)) ?_
 refine pl_val (.bool r34.2) (y_extract rfl (by kernel_rfl)) ?_
 refine pl_val (.int .i64 r34.1) (y_assign rfl) ?_
 refine pl_val (.bool r34.2) (y_assign rfl) ?_
 refine c_nil ?_
 refine c_seq ?_
 refine c_sr ?_
 refine pl_val (.int .i64 r6.1) (y_move rfl) ?_
 refine pl_val (.slice a6 a7 a8) (y_move rfl) ?_
 refine pl_val (.slice a9 b0 b1) (y_move rfl) ?_
 obtain ⟨r36, o8, hs⟩ := bind_some hs
 refine pl_call Bd26 rfl (c_spec_FactorsToJoin (M := (Past a5 b3 b2)) r6.1 r6.2.1 r6.2.2 a0 a1 hO.fut o8) ?_
 rintro _ m0 ⟨rfl, i4⟩
 have a0 := a0.ext i4
 have a1 := a1.ext i4
 have a2 := a2.ext i4
 have hC := hC.ext i4
 have hO := hO.ext i4
 refine pl_val (.tuple #[(.int .i64 r36.1), (.bool r36.2)]) (y_move rfl) ?_
 refine pl_val (.int .i64 r36.1) (y_extract rfl (by kernel_rfl)) ?_
 refine pl_val (.bool r36.2) (y_extract rfl (by kernel_rfl)) ?_
 refine pl_val (.int .i64 r36.1) (y_assign rfl) ?_
 refine pl_val (.bool r36.2) (y_assign rfl) ?_
 refine c_nil ?_
 refine c_seq ?_
 refine c_mid (I := fun a m1 => ∃ (σ : Nat → Value), a = fr 210 (ovl σ [(2, (.bool false)), (3, (.int .i64 r6.1)), (4, (.slice a6 a7 a8)), (5, (.slice a9 b0 b1)), (6, (.slice b7 b8 b9)), (7, (.bool r10.2)), (10, (.bool r25.1)), (11, (.bool r25.2)), (14, (.int .i64 r34.1)), (109, (.bool (((r34.1 != r36.1) || (!(r34.2 == r36.2))) || (!(r34.2 == r25.2)))))]) ∧ Chg [] m0 m1) ?_ ?_
 ·have hMid := Chg.refl [] m0
  refine c_region ?_
  refine pl_val (.int .i64 r34.1) (y_move rfl) ?_
  refine pl_val (.int .i64 r36.1) (y_move rfl) ?_
  refine pl_val (.bool (r34.1 != r36.1)) (y_neq rfl rfl) ?_
  refine pl_val (.bool (r34.1 != r36.1)) (y_move rfl) ?_
  rcases Bool.eq_false_or_eq_true ((r34.1 != r36.1)) with c2 | c2
  ·skip
   refine pl_not (tg := 100) (by kernel_rfl) (congrArg Value.bool c2) ?_
   refine pl_not (tg := 100) (by kernel_rfl) (congrArg Value.bool c2) ?_
   refine pl_not (tg := 100) (by kernel_rfl) (congrArg Value.bool c2) ?_
   refine pl_val (.bool ((r34.1 != r36.1) || (!(r34.2 == r36.2)))) (y_pick_t (congrArg Value.bool c2) (congrArg Value.bool (by rw [c2]; rfl))) ?_
   refine pl_val (.bool ((r34.1 != r36.1) || (!(r34.2 == r36.2)))) (y_move rfl) ?_
   rcases Bool.eq_false_or_eq_true (((r34.1 != r36.1) || (!(r34.2 == r36.2)))) with c3 | c3
   ·skip
    refine pl_not (tg := 105) (by kernel_rfl) (congrArg Value.bool c3) ?_
    refine pl_not (tg := 105) (by kernel_rfl) (congrArg Value.bool c3) ?_
    refine pl_not (tg := 105) (by kernel_rfl) (congrArg Value.bool c3) ?_
    refine pl_val (.bool (((r34.1 != r36.1) || (!(r34.2 == r36.2))) || (!(r34.2 == r25.2)))) (y_pick_t (congrArg Value.bool c3) (congrArg Value.bool (by rw [c3]; rfl))) ?_
    refine c_nil ?_
    exact ⟨_, fr_ovl 210 ⟨rfl, rfl, rfl, rfl, rfl, rfl, rfl, rfl, rfl, rfl, trivial⟩, hMid⟩
   refine pl_yes (.bool r34.2) (tg := 105) (by kernel_rfl) (congrArg Value.bool c3) (y_move rfl) ?_
   refine pl_yes (.bool r25.2) (tg := 105) (by kernel_rfl) (congrArg Value.bool c3) (y_move rfl) ?_
   refine pl_yes (.bool (!(r34.2 == r25.2))) (tg := 105) (by kernel_rfl) (congrArg Value.bool c3) (y_bneq Try.underlying4 rfl rfl) ?_
   refine pl_val (.bool (((r34.1 != r36.1) || (!(r34.2 == r36.2))) || (!(r34.2 == r25.2)))) (y_pick_f (congrArg Value.bool c3) (congrArg Value.bool (by rw [c3]; rfl))) ?_
   refine c_nil ?_
   exact ⟨_, fr_ovl 210 ⟨rfl, rfl, rfl, rfl, rfl, rfl, rfl, rfl, rfl, rfl, trivial⟩, hMid⟩
  refine pl_yes (.bool r34.2) (tg := 100) (by kernel_rfl) (congrArg Value.bool c2) (y_move rfl) ?_
  refine pl_yes (.bool r36.2) (tg := 100) (by kernel_rfl) (congrArg Value.bool c2) (y_move rfl) ?_
  refine pl_yes (.bool (!(r34.2 == r36.2))) (tg := 100) (by kernel_rfl) (congrArg Value.bool c2) (y_bneq Try.underlying4 rfl rfl) ?_
  refine pl_val (.bool ((r34.1 != r36.1) || (!(r34.2 == r36.2)))) (y_pick_f (congrArg Value.bool c2) (congrArg Value.bool (by rw [c2]; rfl))) ?_
  refine pl_val (.bool ((r34.1 != r36.1) || (!(r34.2 == r36.2)))) (y_move rfl) ?_
  rcases Bool.eq_false_or_eq_true (((r34.1 != r36.1) || (!(r34.2 == r36.2)))) with c4 | c4
  ·skip
   refine pl_not (tg := 105) (by kernel_rfl) (congrArg Value.bool c4) ?_
   refine pl_not (tg := 105) (by kernel_rfl) (congrArg Value.bool c4) ?_
   refine pl_not (tg := 105) (by kernel_rfl) (congrArg Value.bool c4) ?_
   refine pl_val (.bool (((r34.1 != r36.1) || (!(r34.2 == r36.2))) || (!(r34.2 == r25.2)))) (y_pick_t (congrArg Value.bool c4) (congrArg Value.bool (by rw [c4]; rfl))) ?_
   refine c_nil ?_
   exact ⟨_, fr_ovl 210 ⟨rfl, rfl, rfl, rfl, rfl, rfl, rfl, rfl, rfl, rfl, trivial⟩, hMid⟩
  refine pl_yes (.bool r34.2) (tg := 105) (by kernel_rfl) (congrArg Value.bool c4) (y_move rfl) ?_
  refine pl_yes (.bool r25.2) (tg := 105) (by kernel_rfl) (congrArg Value.bool c4) (y_move rfl) ?_
  refine pl_yes (.bool (!(r34.2 == r25.2))) (tg := 105) (by kernel_rfl) (congrArg Value.bool c4) (y_bneq Try.underlying4 rfl rfl) ?_
  refine pl_val (.bool (((r34.1 != r36.1) || (!(r34.2 == r36.2))) || (!(r34.2 == r25.2)))) (y_pick_f (congrArg Value.bool c4) (congrArg Value.bool (by rw [c4]; rfl))) ?_
  refine c_nil ?_
  exact ⟨_, fr_ovl 210 ⟨rfl, rfl, rfl, rfl, rfl, rfl, rfl, rfl, rfl, rfl, trivial⟩, hMid⟩
 rintro h8 m1 ⟨σ, rfl, i5⟩
 have a0 := a0.ext i5
 have a1 := a1.ext i5
 have a2 := a2.ext i5
 have hC := hC.ext i5
 have hO := hO.ext i5
 rcases bif_some hs with ⟨k9, hs⟩ | ⟨k9, hs⟩
 ·refine c_condT (congrArg Value.bool k9) ?_
  refine c_sr ?_
  refine pl_val (.bool false) (y_assign rfl) ?_
  refine c_nil ?_
  refine wp_ret ?_
  cases hs
  exact ⟨_, fr_ovl 210 ⟨rfl, trivial⟩, hC⟩
 refine c_condF (congrArg Value.bool k9) ?_
 refine wp_skip ?_
 refine c_sr ?_
 refine pl_val (.int .i64 r6.1) (y_move rfl) ?_
 refine pl_val (.slice a6 a7 a8) (y_move rfl) ?_
 refine pl_val (.slice a9 b0 b1) (y_move rfl) ?_
 obtain ⟨r45, o9, hs⟩ := bind_some hs
 refine pl_call Bd27 rfl (c_impl_ProductOfPartitions (M := (Past a5 b3 b2)) r6.1 r6.2.1 r6.2.2 a0 a1 hO.fut o9) ?_
 rintro _ p0 ⟨c8, c9, d0, g1, rfl, i6, a3, p1⟩
 have a0 := a0.ext i6
 have a1 := a1.ext i6
 have a2 := a2.ext i6
 have hC := hC.ext i6
 have hO := Own.join0 hO i6 p1
 have hO := hO.perm (R := g1 ++ (f2 ++ ([]))) (by simp)
 refine pl_val (.tuple #[(.agg #[(.int .i64 r45.1.1), (.slice c8 c9 d0)]), (.bool r45.2)]) (y_move rfl) ?_
 refine pl_val (.agg #[(.int .i64 r45.1.1), (.slice c8 c9 d0)]) (y_extract rfl (by kernel_rfl)) ?_
 refine pl_val (.bool r45.2) (y_extract rfl (by kernel_rfl)) ?_
 obtain ⟨p2, g2, p3, m2, h2, m3⟩ := new_block p0 [(.int .i64 0), (.slice none 0 0)] 45
 refine pl_val (w' := p2) (.pointer (some ⟨g2, 0, none⟩)) (y_alloc (by rw [p3, m2]; kernel_rfl)) ?_
 have a0 := a0.ext h2
 have a1 := a1.ext h2
 have a2 := a2.ext h2
 have a3 := a3.ext h2
 have hC := hC.ext h2
 have hO := hO.new1 h2 m2 m3.lt
 obtain ⟨m4, p4, h3, a4⟩ := box_store (P := Try.prog) m3 [] [(.int .i64 0), (.slice none 0 0)] [] [(.int .i64 r45.1.1), (.slice c8 c9 d0)] rfl rfl (by intro u hu; simp only [List.mem_cons, List.not_mem_nil, or_false] at hu; rcases hu with rfl | rfl <;> rfl)
 refine pl_skip (w' := m4) (ys_store rfl rfl (p4 _ _ rfl Sz45)) ?_
 have a0 := a0.mt h3 hO same_
 have a1 := a1.mt h3 hO same_
 have a2 := a2.ma h3 hO same_ (fun _ e => (mem_r (mem_l (e))))
 have a3 := a3.ma h3 hO same_ (fun _ e => (mem_l (e)))
 have hC := hC.st h3 hO same_
 have hO := hO.ext h3
 have a4 : BoxV m4 g2 45 [(.int .i64 r45.1.1), (.slice c8 c9 d0)] := a4
 refine pl_val (.bool r45.2) (y_assign rfl) ?_
 refine c_nil ?_
 refine c_seq ?_
 refine c_sr ?_
 refine pl_val (.int .i64 r6.1) (y_move rfl) ?_
 refine pl_val (.slice a6 a7 a8) (y_move rfl) ?_
 refine pl_val (.slice a9 b0 b1) (y_move rfl) ?_
 obtain ⟨r50, p5, hs⟩ := bind_some hs
 refine pl_call Bd28 rfl (c_spec_ProductOfPartitions (M := (Past a5 b3 b2)) r6.1 r6.2.1 r6.2.2 a0 a1 hO.fut p5) ?_
 rintro _ p6 ⟨h4, h5, h6, m5, rfl, g3, d3, p7⟩
 have a0 := a0.ext g3
 have a1 := a1.ext g3
 have a2 := a2.ext g3
 have a3 := a3.ext g3
 have a4 := a4.cn g3
 have hC := hC.ext g3
 have hO := Own.join0 hO g3 p7
 have hO := hO.perm (R := m5 ++ (([g2]) ++ (g1 ++ (f2 ++ ([]))))) (by simp)
 refine pl_val (.tuple #[(.agg #[(.int .i64 r50.1.1), (.slice h4 h5 h6)]), (.bool r50.2)]) (y_move rfl) ?_
 refine pl_val (.agg #[(.int .i64 r50.1.1), (.slice h4 h5 h6)]) (y_extract rfl (by kernel_rfl)) ?_
 refine pl_val (.bool r50.2) (y_extract rfl (by kernel_rfl)) ?_
 obtain ⟨p8, m6, p9, m7, f3, m8⟩ := new_block p6 [(.int .i64 0), (.slice none 0 0)] 45
 refine pl_val (w' := p8) (.pointer (some ⟨m6, 0, none⟩)) (y_alloc (by rw [p9, m7]; kernel_rfl)) ?_
 have a0 := a0.ext f3
 have a1 := a1.ext f3
 have a2 := a2.ext f3
 have a3 := a3.ext f3
 have a4 := a4.cn f3
 have d3 := d3.ext f3
 have hC := hC.ext f3
 have hO := hO.new1 f3 m7 m8.lt
 obtain ⟨j3, q0, f4, g4⟩ := box_store (P := Try.prog) m8 [] [(.int .i64 0), (.slice none 0 0)] [] [(.int .i64 r50.1.1), (.slice h4 h5 h6)] rfl rfl (by intro u hu; simp only [List.mem_cons, List.not_mem_nil, or_false] at hu; rcases hu with rfl | rfl <;> rfl)
 refine pl_skip (w' := j3) (ys_store rfl rfl (q0 _ _ rfl Sz45)) ?_
 have a0 := a0.mt f4 hO same_
 have a1 := a1.mt f4 hO same_
 have a2 := a2.ma f4 hO same_ (fun _ e => (mem_r (mem_r (mem_r (mem_l (e))))))
 have a3 := a3.ma f4 hO same_ (fun _ e => (mem_r (mem_r (mem_l (e)))))
 have a4 := a4.ap f4 hO same_ (mem_r (mem_l (List.mem_singleton.2 rfl)))
 have d3 := d3.ma f4 hO same_ (fun _ e => (mem_l (e)))
 have hC := hC.st f4 hO same_
 have hO := hO.ext f4
 have g4 : BoxV j3 m6 45 [(.int .i64 r50.1.1), (.slice h4 h5 h6)] := g4
 refine pl_val (.bool r50.2) (y_assign rfl) ?_
 refine c_nil ?_
 refine c_seq ?_
 obtain ⟨s54, q1, hs⟩ := bind_some hs
 refine c_mid (I := fun a m9 => ∃ (σ : Nat → Value), a = fr 210 (ovl σ [(2, (.bool false)), (3, (.int .i64 r6.1)), (4, (.slice a6 a7 a8)), (5, (.slice a9 b0 b1)), (6, (.slice b7 b8 b9)), (7, (.bool r10.2)), (10, (.bool r25.1)), (11, (.bool r25.2)), (14, (.int .i64 r34.1)), (18, (.pointer (some ⟨g2, 0, none⟩))), (137, (.bool s54))]) ∧ Chg [] j3 m9) ?_ ?_
 ·replace hs := q1
  have hMid := Chg.refl [] j3
  refine c_region ?_
  refine pl_val (.bool r45.2) (y_move rfl) ?_
  refine pl_val (.bool r50.2) (y_move rfl) ?_
  refine pl_val (.bool (!(r45.2 == r50.2))) (y_bneq Try.underlying4 rfl rfl) ?_
  refine pl_val (.bool (!(r45.2 == r50.2))) (y_move rfl) ?_
  rcases bif_some hs with ⟨d4, hs⟩ | ⟨d4, hs⟩
  ·skip
   refine pl_not (tg := 127) (by kernel_rfl) (congrArg Value.bool d4) ?_
   refine pl_not (tg := 127) (by kernel_rfl) (congrArg Value.bool d4) ?_
   refine pl_not (tg := 127) (by kernel_rfl) (congrArg Value.bool d4) ?_
   refine pl_val (.bool true) (y_pick_t (congrArg Value.bool d4) rfl) ?_
   refine pl_val (.bool true) (y_move rfl) ?_
   refine pl_not (tg := 132) (by kernel_rfl) (by rfl) ?_
   refine pl_not (tg := 132) (by kernel_rfl) (by rfl) ?_
   refine pl_not (tg := 132) (by kernel_rfl) (by rfl) ?_
   refine pl_not (tg := 132) (by kernel_rfl) (by rfl) ?_
   refine pl_val (.bool true) (y_pick_t (by rfl) rfl) ?_
   refine c_nil ?_
   have hO := hO.drop
   have hO := hO.drop
   cases hs
   exact ⟨_, fr_ovl 210 ⟨rfl, rfl, rfl, rfl, rfl, rfl, rfl, rfl, rfl, rfl, rfl, trivial⟩, hMid⟩
  refine pl_yes (.bool r45.2) (tg := 127) (by kernel_rfl) (congrArg Value.bool d4) (y_move rfl) ?_
  refine pl_yes (.bool r25.2) (tg := 127) (by kernel_rfl) (congrArg Value.bool d4) (y_move rfl) ?_
  refine pl_yes (.bool (!(r45.2 == r25.2))) (tg := 127) (by kernel_rfl) (congrArg Value.bool d4) (y_bneq Try.underlying4 rfl rfl) ?_
  refine pl_val (.bool (!(r45.2 == r25.2))) (y_pick_f (congrArg Value.bool d4) rfl) ?_
  refine pl_val (.bool (!(r45.2 == r25.2))) (y_move rfl) ?_
  rcases bif_some hs with ⟨c5, hs⟩ | ⟨c5, hs⟩
  ·skip
   refine pl_not (tg := 132) (by kernel_rfl) (congrArg Value.bool c5) ?_
   refine pl_not (tg := 132) (by kernel_rfl) (congrArg Value.bool c5) ?_
   refine pl_not (tg := 132) (by kernel_rfl) (congrArg Value.bool c5) ?_
   refine pl_not (tg := 132) (by kernel_rfl) (congrArg Value.bool c5) ?_
   refine pl_val (.bool true) (y_pick_t (congrArg Value.bool c5) rfl) ?_
   refine c_nil ?_
   have hO := hO.drop
   have hO := hO.drop
   cases hs
   exact ⟨_, fr_ovl 210 ⟨rfl, rfl, rfl, rfl, rfl, rfl, rfl, rfl, rfl, rfl, rfl, trivial⟩, hMid⟩
  refine pl_yes (.agg #[(.int .i64 r45.1.1), (.slice c8 c9 d0)]) (tg := 132) (by kernel_rfl) (congrArg Value.bool c5) (y_load rfl ((box_load Ag45 Sz45 a4 [] [(.int .i64 r45.1.1), (.slice c8 c9 d0)] [] rfl rfl (fun h => nomatch h)) _ (Chg.refl _ _))) ?_
  refine pl_yes (.agg #[(.int .i64 r50.1.1), (.slice h4 h5 h6)]) (tg := 132) (by kernel_rfl) (congrArg Value.bool c5) (y_load rfl ((box_load Ag45 Sz45 g4 [] [(.int .i64 r50.1.1), (.slice h4 h5 h6)] [] rfl rfl (fun h => nomatch h)) _ (Chg.refl _ _))) ?_
  have hO := hO.fr1
  have hO := hO.fr3
  obtain ⟨r60, q2, hs⟩ := bind_some hs
  refine pl_cally (tg := 132) (by kernel_rfl) (congrArg Value.bool c5) Bd29 rfl (c_laws_vRelation (M := (Less (Less (Past a5 b3 b2) g1) m5)) (r45.1.1, r45.1.2) (r50.1.1, r50.1.2) ((((Frz.os (Frz.os Frz.int))).val a3 Less.sub Less.not).sub Less.sub) (((Frz.os (Frz.os Frz.int))).val (d3.sub Less.sub) Less.sub Less.not) (hO.less).less.fut q2) ?_
  rintro _ s7 ⟨rfl, d1⟩
  have a0 := a0.ext d1
  have a1 := a1.ext d1
  have a2 := a2.ext d1
  have a3 := a3.ext d1
  have a4 := a4.cn d1
  have d3 := d3.ext d1
  have g4 := g4.cn d1
  have hMid := hMid.ext d1
  have hC := hC.ext d1
  have hO := hO.ext d1
  refine pl_yes (.bool (!r60)) (tg := 132) (by kernel_rfl) (congrArg Value.bool c5) (y_not rfl) ?_
  refine pl_val (.bool (!r60)) (y_pick_f (congrArg Value.bool c5) rfl) ?_
  refine c_nil ?_
  have hO := hO.fr1
  have hO := hO.drop
  have hO := hO.fr1
  have hO := hO.drop
  cases hs
  exact ⟨_, fr_ovl 210 ⟨rfl, rfl, rfl, rfl, rfl, rfl, rfl, rfl, rfl, rfl, rfl, trivial⟩, hMid⟩
 rintro h8 m9 ⟨σ, rfl, d5⟩
 have a0 := a0.ext d5
 have a1 := a1.ext d5
 have a2 := a2.ext d5
 have a3 := a3.ext d5
 have a4 := a4.cn d5
 have d3 := d3.ext d5
 have g4 := g4.cn d5
 have hC := hC.ext d5
 have hO := hO.ext d5
 rcases bif_some hs with ⟨l0, hs⟩ | ⟨l0, hs⟩
 ·refine c_condT (congrArg Value.bool l0) ?_
  refine c_sr ?_
  refine pl_val (.bool false) (y_assign rfl) ?_
  refine c_nil ?_
  have hO := hO.drop
  have hO := hO.drop
  refine wp_ret ?_
  cases hs
  exact ⟨_, fr_ovl 210 ⟨rfl, trivial⟩, hC⟩
 refine c_condF (congrArg Value.bool l0) ?_
 refine wp_skip ?_
 refine c_seq ?_
 refine c_sr ?_
 refine pl_val (.bool r25.2) (y_move rfl) ?_
 refine pl_val (.bool (!r25.2)) (y_not rfl) ?_
 refine c_nil ?_
 have hO := hO.drop
 have hO := hO.drop
 rcases bif_some hs with ⟨l1, hs⟩ | ⟨l1, hs⟩
 ·refine c_condT (congrArg Value.bool l1) ?_
  refine c_sr ?_
  refine pl_val (.bool r10.2) (y_move rfl) ?_
  refine pl_val (.bool (!r10.2)) (y_not rfl) ?_
  refine pl_val (.bool (!r10.2)) (y_assign rfl) ?_
  refine c_nil ?_
  refine wp_ret ?_
  cases hs
  exact ⟨_, fr_ovl 210 ⟨rfl, trivial⟩, hC⟩
 refine c_condF (congrArg Value.bool l1) ?_
 refine wp_skip ?_
 refine c_sr ?_
 refine pl_val (.int .i64 r6.1) (y_move rfl) ?_
 refine pl_val (.slice a9 b0 b1) (y_move rfl) ?_
 refine pl_val (.slice a6 a7 a8) (y_move rfl) ?_
 obtain ⟨r64, q3, hs⟩ := bind_some hs
 refine pl_call Bd27 rfl (c_impl_ProductOfPartitions (M := (Past a5 b3 b2)) r6.1 r6.2.2 r6.2.1 a1 a0 hO.fut q3) ?_
 rintro _ q4 ⟨f5, f6, f7, j4, rfl, g5, b4, q5⟩
 have a0 := a0.ext g5
 have a1 := a1.ext g5
 have a2 := a2.ext g5
 have a3 := a3.ext g5
 have a4 := a4.cn g5
 have hC := hC.ext g5
 have hO := Own.join0 hO g5 q5
 have hO := hO.perm (R := j4 ++ (([g2]) ++ (g1 ++ (f2 ++ ([]))))) (by simp)
 refine pl_val (.tuple #[(.agg #[(.int .i64 r64.1.1), (.slice f5 f6 f7)]), (.bool r64.2)]) (y_move rfl) ?_
 refine pl_val (.agg #[(.int .i64 r64.1.1), (.slice f5 f6 f7)]) (y_extract rfl (by kernel_rfl)) ?_
 refine pl_val (.bool r64.2) (y_extract rfl (by kernel_rfl)) ?_
 obtain ⟨q6, j5, q7, n0, f8, n1⟩ := new_block q4 [(.int .i64 0), (.slice none 0 0)] 45
 refine pl_val (w' := q6) (.pointer (some ⟨j5, 0, none⟩)) (y_alloc (by rw [q7, n0]; kernel_rfl)) ?_
 have a0 := a0.ext f8
 have a1 := a1.ext f8
 have a2 := a2.ext f8
 have a3 := a3.ext f8
 have a4 := a4.cn f8
 have b4 := b4.ext f8
 have hC := hC.ext f8
 have hO := hO.new1 f8 n0 n1.lt
 obtain ⟨j6, q8, f9, b5⟩ := box_store (P := Try.prog) n1 [] [(.int .i64 0), (.slice none 0 0)] [] [(.int .i64 r64.1.1), (.slice f5 f6 f7)] rfl rfl (by intro u hu; simp only [List.mem_cons, List.not_mem_nil, or_false] at hu; rcases hu with rfl | rfl <;> rfl)
 refine pl_skip (w' := j6) (ys_store rfl rfl (q8 _ _ rfl Sz45)) ?_
 have a0 := a0.mt f9 hO same_
 have a1 := a1.mt f9 hO same_
 have a2 := a2.ma f9 hO same_ (fun _ e => (mem_r (mem_r (mem_r (mem_l (e))))))
 have a3 := a3.ma f9 hO same_ (fun _ e => (mem_r (mem_r (mem_l (e)))))
 have a4 := a4.ap f9 hO same_ (mem_r (mem_l (List.mem_singleton.2 rfl)))
 have b4 := b4.ma f9 hO same_ (fun _ e => (mem_l (e)))
 have hC := hC.st f9 hO same_
 have hO := hO.ext f9
 have b5 : BoxV j6 j5 45 [(.int .i64 r64.1.1), (.slice f5 f6 f7)] := b5
 refine pl_val (.bool r64.2) (y_assign rfl) ?_
 refine c_nil ?_
 refine c_seq ?_
 refine c_seq ?_
 obtain ⟨s68, q9, hs⟩ := bind_some hs
 refine c_mid (I := fun a n2 => ∃ (σ : Nat → Value), a = fr 210 (ovl σ [(2, (.bool false)), (3, (.int .i64 r6.1)), (4, (.slice a6 a7 a8)), (5, (.slice a9 b0 b1)), (6, (.slice b7 b8 b9)), (7, (.bool r10.2)), (10, (.bool r25.1)), (18, (.pointer (some ⟨g2, 0, none⟩))), (22, (.pointer (some ⟨j5, 0, none⟩))), (163, (.bool s68))]) ∧ Chg [] j6 n2) ?_ ?_
 ·replace hs := q9
  have hMid := Chg.refl [] j6
  refine c_region ?_
  refine pl_val (.bool r64.2) (y_move rfl) ?_
  refine pl_val (.bool (!r64.2)) (y_not rfl) ?_
  refine pl_val (.bool (!r64.2)) (y_move rfl) ?_
  rcases bif_some hs with ⟨b6, hs⟩ | ⟨b6, hs⟩
  ·skip
   refine pl_not (tg := 151) (by kernel_rfl) (congrArg Value.bool b6) ?_
   refine pl_not (tg := 151) (by kernel_rfl) (congrArg Value.bool b6) ?_
   refine pl_not (tg := 151) (by kernel_rfl) (congrArg Value.bool b6) ?_
   refine pl_not (tg := 151) (by kernel_rfl) (congrArg Value.bool b6) ?_
   refine pl_not (tg := 151) (by kernel_rfl) (congrArg Value.bool b6) ?_
   refine pl_val (.bool true) (y_pick_t (congrArg Value.bool b6) rfl) ?_
   refine pl_val (.bool true) (y_move rfl) ?_
   refine pl_not (tg := 158) (by kernel_rfl) (by rfl) ?_
   refine pl_not (tg := 158) (by kernel_rfl) (by rfl) ?_
   refine pl_not (tg := 158) (by kernel_rfl) (by rfl) ?_
   refine pl_not (tg := 158) (by kernel_rfl) (by rfl) ?_
   refine pl_val (.bool true) (y_pick_t (by rfl) rfl) ?_
   refine c_nil ?_
   cases hs
   exact ⟨_, fr_ovl 210 ⟨rfl, rfl, rfl, rfl, rfl, rfl, rfl, rfl, rfl, rfl, trivial⟩, hMid⟩
  refine pl_yes (.bool r25.1) (tg := 151) (by kernel_rfl) (congrArg Value.bool b6) (y_move rfl) ?_
  refine pl_yes (.agg #[(.int .i64 r45.1.1), (.slice c8 c9 d0)]) (tg := 151) (by kernel_rfl) (congrArg Value.bool b6) (y_load rfl ((box_load Ag45 Sz45 a4 [] [(.int .i64 r45.1.1), (.slice c8 c9 d0)] [] rfl rfl (fun h => nomatch h)) _ (Chg.refl _ _))) ?_
  refine pl_yes (.agg #[(.int .i64 r64.1.1), (.slice f5 f6 f7)]) (tg := 151) (by kernel_rfl) (congrArg Value.bool b6) (y_load rfl ((box_load Ag45 Sz45 b5 [] [(.int .i64 r64.1.1), (.slice f5 f6 f7)] [] rfl rfl (fun h => nomatch h)) _ (Chg.refl _ _))) ?_
  have hO := hO.fr1
  have hO := hO.fr3
  obtain ⟨r73, r0, hs⟩ := bind_some hs
  refine pl_cally (tg := 151) (by kernel_rfl) (congrArg Value.bool b6) Bd29 rfl (c_laws_vRelation (M := (Less (Less (Past a5 b3 b2) g1) j4)) (r45.1.1, r45.1.2) (r64.1.1, r64.1.2) ((((Frz.os (Frz.os Frz.int))).val a3 Less.sub Less.not).sub Less.sub) (((Frz.os (Frz.os Frz.int))).val (b4.sub Less.sub) Less.sub Less.not) (hO.less).less.fut r0) ?_
  rintro _ s8 ⟨rfl, d2⟩
  have a0 := a0.ext d2
  have a1 := a1.ext d2
  have a2 := a2.ext d2
  have a3 := a3.ext d2
  have a4 := a4.cn d2
  have b4 := b4.ext d2
  have b5 := b5.cn d2
  have hMid := hMid.ext d2
  have hC := hC.ext d2
  have hO := hO.ext d2
  refine pl_yes (.bool (!(r25.1 == r73))) (tg := 151) (by kernel_rfl) (congrArg Value.bool b6) (y_bneq Try.underlying4 rfl rfl) ?_
  refine pl_val (.bool (!(r25.1 == r73))) (y_pick_f (congrArg Value.bool b6) rfl) ?_
  refine pl_val (.bool (!(r25.1 == r73))) (y_move rfl) ?_
  rcases bif_some hs with ⟨c6, hs⟩ | ⟨c6, hs⟩
  ·skip
   refine pl_not (tg := 158) (by kernel_rfl) (congrArg Value.bool c6) ?_
   refine pl_not (tg := 158) (by kernel_rfl) (congrArg Value.bool c6) ?_
   refine pl_not (tg := 158) (by kernel_rfl) (congrArg Value.bool c6) ?_
   refine pl_not (tg := 158) (by kernel_rfl) (congrArg Value.bool c6) ?_
   refine pl_val (.bool true) (y_pick_t (congrArg Value.bool c6) rfl) ?_
   refine c_nil ?_
   cases hs
   exact ⟨_, fr_ovl 210 ⟨rfl, rfl, rfl, rfl, rfl, rfl, rfl, rfl, rfl, rfl, trivial⟩, hMid⟩
  refine pl_yes (.bool r25.1) (tg := 158) (by kernel_rfl) (congrArg Value.bool c6) (y_move rfl) ?_
  refine pl_yes (.int .i64 r34.1) (tg := 158) (by kernel_rfl) (congrArg Value.bool c6) (y_move rfl) ?_
  refine pl_yes (.bool (decide (r34.1 ≤ 2))) (tg := 158) (by kernel_rfl) (congrArg Value.bool c6) (y_leq rfl rfl) ?_
  refine pl_yes (.bool (!(r25.1 == (decide (r34.1 ≤ 2))))) (tg := 158) (by kernel_rfl) (congrArg Value.bool c6) (y_bneq Try.underlying4 rfl rfl) ?_
  refine pl_val (.bool (!(r25.1 == (decide (r34.1 ≤ 2))))) (y_pick_f (congrArg Value.bool c6) rfl) ?_
  refine c_nil ?_
  cases hs
  exact ⟨_, fr_ovl 210 ⟨rfl, rfl, rfl, rfl, rfl, rfl, rfl, rfl, rfl, rfl, trivial⟩, hMid⟩
 rintro h8 n2 ⟨σ, rfl, d6⟩
 have a0 := a0.ext d6
 have a1 := a1.ext d6
 have a2 := a2.ext d6
 have a3 := a3.ext d6
 have a4 := a4.cn d6
 have b4 := b4.ext d6
 have b5 := b5.cn d6
 have hC := hC.ext d6
 have hO := hO.ext d6
 rcases bif_some hs with ⟨l2, hs⟩ | ⟨l2, hs⟩
 ·refine c_condT (congrArg Value.bool l2) ?_
  refine c_sr ?_
  refine pl_val (.bool false) (y_assign rfl) ?_
  refine c_nil ?_
  refine wp_ret ?_
  cases hs
  exact ⟨_, fr_ovl 210 ⟨rfl, trivial⟩, hC⟩
 refine c_condF (congrArg Value.bool l2) ?_
 refine wp_skip ?_
 refine c_seq ?_
 refine c_sr ?_
 refine pl_val (.bool r10.2) (y_move rfl) ?_
 refine c_nil ?_
 rcases bif_some hs with ⟨l3, hs⟩ | ⟨l3, hs⟩
 ·refine c_condT (congrArg Value.bool l3) ?_
  refine c_sr ?_
  refine pl_val (.int .i64 r6.1) (y_move rfl) ?_
  refine pl_val (.agg #[(.int .i64 r45.1.1), (.slice c8 c9 d0)]) (y_load rfl ((box_load Ag45 Sz45 a4 [] [(.int .i64 r45.1.1), (.slice c8 c9 d0)] [] rfl rfl (fun h => nomatch h)) _ (Chg.refl _ _))) ?_
  refine pl_val (.slice b7 b8 b9) (y_move rfl) ?_
  have hO := hO.fr4
  have hO := hO.fr4
  obtain ⟨r78, r1, hs⟩ := bind_some hs
  refine pl_call Bd30 rfl (c_impl_HasTuple (M := (Less (Less (Past a5 b3 b2) g1) f2)) r6.1 (r45.1.1, r45.1.2) r10.1 ((((Frz.os (Frz.os Frz.int))).val a3 Less.sub Less.not).sub Less.sub) (((Frz.os Frz.int)).val (a2.sub Less.sub) Less.sub Less.not) (hO.less).less.fut r1) ?_
  rintro _ s9 ⟨rfl, d7⟩
  have a0 := a0.ext d7
  have a1 := a1.ext d7
  have a2 := a2.ext d7
  have a3 := a3.ext d7
  have a4 := a4.cn d7
  have b4 := b4.ext d7
  have b5 := b5.cn d7
  have hC := hC.ext d7
  have hO := hO.ext d7
  refine pl_val (.tuple #[(.bool r78.1), (.bool r78.2)]) (y_move rfl) ?_
  refine pl_val (.bool r78.1) (y_extract rfl (by kernel_rfl)) ?_
  refine pl_val (.bool r78.2) (y_extract rfl (by kernel_rfl)) ?_
  refine pl_val (.bool r78.1) (y_assign rfl) ?_
  refine pl_val (.bool r78.2) (y_assign rfl) ?_
  refine c_nil ?_
  have hO := hO.drop
  have hO := hO.fr3
  have hO := hO.drop
  refine c_sr ?_
  refine pl_val (.int .i64 r6.1) (y_move rfl) ?_
  refine pl_val (.agg #[(.int .i64 r64.1.1), (.slice f5 f6 f7)]) (y_load rfl ((box_load Ag45 Sz45 b5 [] [(.int .i64 r64.1.1), (.slice f5 f6 f7)] [] rfl rfl (fun h => nomatch h)) _ (Chg.refl _ _))) ?_
  refine pl_val (.slice b7 b8 b9) (y_move rfl) ?_
  have hO := hO.fr2
  obtain ⟨r80, r2, hs⟩ := bind_some hs
  refine pl_call Bd30 rfl (c_impl_HasTuple (M := (Less (Less (Past a5 b3 b2) j4) f2)) r6.1 (r64.1.1, r64.1.2) r10.1 ((((Frz.os (Frz.os Frz.int))).val b4 Less.sub Less.not).sub Less.sub) (((Frz.os Frz.int)).val (a2.sub Less.sub) Less.sub Less.not) (hO.less).less.fut r2) ?_
  rintro _ n3 ⟨rfl, g6⟩
  have a0 := a0.ext g6
  have a1 := a1.ext g6
  have a2 := a2.ext g6
  have b4 := b4.ext g6
  have b5 := b5.cn g6
  have hC := hC.ext g6
  have hO := hO.ext g6
  refine pl_val (.tuple #[(.bool r80.1), (.bool r80.2)]) (y_move rfl) ?_
  refine pl_val (.bool r80.1) (y_extract rfl (by kernel_rfl)) ?_
  refine pl_val (.bool r80.2) (y_extract rfl (by kernel_rfl)) ?_
  refine pl_val (.bool r80.1) (y_assign rfl) ?_
  refine pl_val (.bool r80.2) (y_assign rfl) ?_
  refine c_nil ?_
  have hO := hO.drop
  have hO := hO.drop
  have hO := hO.drop
  refine c_seq ?_
  refine c_mid (I := fun a n4 => ∃ (σ : Nat → Value), a = fr 210 (ovl σ [(3, (.int .i64 r6.1)), (4, (.slice a6 a7 a8)), (5, (.slice a9 b0 b1)), (10, (.bool r25.1)), (2, (.bool ((((r78.2 && r80.2) && r78.1) && (!r80.1)) && (!r25.1))))]) ∧ Chg [] n3 n4) ?_ ?_
  ·have hMid := Chg.refl [] n3
   refine c_region ?_
   refine pl_val (.bool r78.2) (y_move rfl) ?_
   refine pl_val (.bool r78.2) (y_move rfl) ?_
   rcases Bool.eq_false_or_eq_true (r78.2) with g7 | g7
   ·skip
    refine pl_yes (.bool r80.2) (tg := 180) (by kernel_rfl) (congrArg Value.bool g7) (y_move rfl) ?_
    refine pl_val (.bool (r78.2 && r80.2)) (y_pick_t (congrArg Value.bool g7) (congrArg Value.bool (by rw [g7]; rfl))) ?_
    refine pl_val (.bool (r78.2 && r80.2)) (y_move rfl) ?_
    rcases Bool.eq_false_or_eq_true ((r78.2 && r80.2)) with g8 | g8
    ·skip
     refine pl_yes (.bool r78.1) (tg := 183) (by kernel_rfl) (congrArg Value.bool g8) (y_move rfl) ?_
     refine pl_val (.bool ((r78.2 && r80.2) && r78.1)) (y_pick_t (congrArg Value.bool g8) (congrArg Value.bool (by rw [g8]; rfl))) ?_
     refine pl_val (.bool ((r78.2 && r80.2) && r78.1)) (y_move rfl) ?_
     rcases Bool.eq_false_or_eq_true (((r78.2 && r80.2) && r78.1)) with d8 | d8
     ·skip
      refine pl_yes (.bool r80.1) (tg := 186) (by kernel_rfl) (congrArg Value.bool d8) (y_move rfl) ?_
      refine pl_yes (.bool (!r80.1)) (tg := 186) (by kernel_rfl) (congrArg Value.bool d8) (y_not rfl) ?_
      refine pl_val (.bool (((r78.2 && r80.2) && r78.1) && (!r80.1))) (y_pick_t (congrArg Value.bool d8) (congrArg Value.bool (by rw [d8]; rfl))) ?_
      refine pl_val (.bool (((r78.2 && r80.2) && r78.1) && (!r80.1))) (y_move rfl) ?_
      rcases Bool.eq_false_or_eq_true ((((r78.2 && r80.2) && r78.1) && (!r80.1))) with d9 | d9
      ·skip
       refine pl_yes (.bool r25.1) (tg := 190) (by kernel_rfl) (congrArg Value.bool d9) (y_move rfl) ?_
       refine pl_yes (.bool (!r25.1)) (tg := 190) (by kernel_rfl) (congrArg Value.bool d9) (y_not rfl) ?_
       refine pl_val (.bool ((((r78.2 && r80.2) && r78.1) && (!r80.1)) && (!r25.1))) (y_pick_t (congrArg Value.bool d9) (congrArg Value.bool (by rw [d9]; rfl))) ?_
       refine pl_val (.bool ((((r78.2 && r80.2) && r78.1) && (!r80.1)) && (!r25.1))) (y_assign rfl) ?_
       refine c_nil ?_
       exact ⟨_, fr_ovl 210 ⟨rfl, rfl, rfl, rfl, rfl, trivial⟩, hMid⟩
      refine pl_not (tg := 190) (by kernel_rfl) (congrArg Value.bool d9) ?_
      refine pl_not (tg := 190) (by kernel_rfl) (congrArg Value.bool d9) ?_
      refine pl_val (.bool ((((r78.2 && r80.2) && r78.1) && (!r80.1)) && (!r25.1))) (y_pick_f (congrArg Value.bool d9) (congrArg Value.bool (by rw [d9]; rfl))) ?_
      refine pl_val (.bool ((((r78.2 && r80.2) && r78.1) && (!r80.1)) && (!r25.1))) (y_assign rfl) ?_
      refine c_nil ?_
      exact ⟨_, fr_ovl 210 ⟨rfl, rfl, rfl, rfl, rfl, trivial⟩, hMid⟩
     refine pl_not (tg := 186) (by kernel_rfl) (congrArg Value.bool d8) ?_
     refine pl_not (tg := 186) (by kernel_rfl) (congrArg Value.bool d8) ?_
     refine pl_val (.bool (((r78.2 && r80.2) && r78.1) && (!r80.1))) (y_pick_f (congrArg Value.bool d8) (congrArg Value.bool (by rw [d8]; rfl))) ?_
     refine pl_val (.bool (((r78.2 && r80.2) && r78.1) && (!r80.1))) (y_move rfl) ?_
     rcases Bool.eq_false_or_eq_true ((((r78.2 && r80.2) && r78.1) && (!r80.1))) with e0 | e0
     ·skip
      refine pl_yes (.bool r25.1) (tg := 190) (by kernel_rfl) (congrArg Value.bool e0) (y_move rfl) ?_
      refine pl_yes (.bool (!r25.1)) (tg := 190) (by kernel_rfl) (congrArg Value.bool e0) (y_not rfl) ?_
      refine pl_val (.bool ((((r78.2 && r80.2) && r78.1) && (!r80.1)) && (!r25.1))) (y_pick_t (congrArg Value.bool e0) (congrArg Value.bool (by rw [e0]; rfl))) ?_
      refine pl_val (.bool ((((r78.2 && r80.2) && r78.1) && (!r80.1)) && (!r25.1))) (y_assign rfl) ?_
      refine c_nil ?_
      exact ⟨_, fr_ovl 210 ⟨rfl, rfl, rfl, rfl, rfl, trivial⟩, hMid⟩
     refine pl_not (tg := 190) (by kernel_rfl) (congrArg Value.bool e0) ?_
     refine pl_not (tg := 190) (by kernel_rfl) (congrArg Value.bool e0) ?_
     refine pl_val (.bool ((((r78.2 && r80.2) && r78.1) && (!r80.1)) && (!r25.1))) (y_pick_f (congrArg Value.bool e0) (congrArg Value.bool (by rw [e0]; rfl))) ?_
     refine pl_val (.bool ((((r78.2 && r80.2) && r78.1) && (!r80.1)) && (!r25.1))) (y_assign rfl) ?_
     refine c_nil ?_
     exact ⟨_, fr_ovl 210 ⟨rfl, rfl, rfl, rfl, rfl, trivial⟩, hMid⟩
    refine pl_not (tg := 183) (by kernel_rfl) (congrArg Value.bool g8) ?_
    refine pl_val (.bool ((r78.2 && r80.2) && r78.1)) (y_pick_f (congrArg Value.bool g8) (congrArg Value.bool (by rw [g8]; rfl))) ?_
    refine pl_val (.bool ((r78.2 && r80.2) && r78.1)) (y_move rfl) ?_
    rcases Bool.eq_false_or_eq_true (((r78.2 && r80.2) && r78.1)) with e1 | e1
    ·skip
     refine pl_yes (.bool r80.1) (tg := 186) (by kernel_rfl) (congrArg Value.bool e1) (y_move rfl) ?_
     refine pl_yes (.bool (!r80.1)) (tg := 186) (by kernel_rfl) (congrArg Value.bool e1) (y_not rfl) ?_
     refine pl_val (.bool (((r78.2 && r80.2) && r78.1) && (!r80.1))) (y_pick_t (congrArg Value.bool e1) (congrArg Value.bool (by rw [e1]; rfl))) ?_
     refine pl_val (.bool (((r78.2 && r80.2) && r78.1) && (!r80.1))) (y_move rfl) ?_
     rcases Bool.eq_false_or_eq_true ((((r78.2 && r80.2) && r78.1) && (!r80.1))) with e2 | e2
     ·skip
      refine pl_yes (.bool r25.1) (tg := 190) (by kernel_rfl) (congrArg Value.bool e2) (y_move rfl) ?_
      refine pl_yes (.bool (!r25.1)) (tg := 190) (by kernel_rfl) (congrArg Value.bool e2) (y_not rfl) ?_
      refine pl_val (.bool ((((r78.2 && r80.2) && r78.1) && (!r80.1)) && (!r25.1))) (y_pick_t (congrArg Value.bool e2) (congrArg Value.bool (by rw [e2]; rfl))) ?_
      refine pl_val (.bool ((((r78.2 && r80.2) && r78.1) && (!r80.1)) && (!r25.1))) (y_assign rfl) ?_
      refine c_nil ?_
      exact ⟨_, fr_ovl 210 ⟨rfl, rfl, rfl, rfl, rfl, trivial⟩, hMid⟩
     refine pl_not (tg := 190) (by kernel_rfl) (congrArg Value.bool e2) ?_
     refine pl_not (tg := 190) (by kernel_rfl) (congrArg Value.bool e2) ?_
     refine pl_val (.bool ((((r78.2 && r80.2) && r78.1) && (!r80.1)) && (!r25.1))) (y_pick_f (congrArg Value.bool e2) (congrArg Value.bool (by rw [e2]; rfl))) ?_
     refine pl_val (.bool ((((r78.2 && r80.2) && r78.1) && (!r80.1)) && (!r25.1))) (y_assign rfl) ?_
     refine c_nil ?_
     exact ⟨_, fr_ovl 210 ⟨rfl, rfl, rfl, rfl, rfl, trivial⟩, hMid⟩
    refine pl_not (tg := 186) (by kernel_rfl) (congrArg Value.bool e1) ?_
    refine pl_not (tg := 186) (by kernel_rfl) (congrArg Value.bool e1) ?_
    refine pl_val (.bool (((r78.2 && r80.2) && r78.1) && (!r80.1))) (y_pick_f (congrArg Value.bool e1) (congrArg Value.bool (by rw [e1]; rfl))) ?_
    refine pl_val (.bool (((r78.2 && r80.2) && r78.1) && (!r80.1))) (y_move rfl) ?_
    rcases Bool.eq_false_or_eq_true ((((r78.2 && r80.2) && r78.1) && (!r80.1))) with e3 | e3
    ·skip
     refine pl_yes (.bool r25.1) (tg := 190) (by kernel_rfl) (congrArg Value.bool e3) (y_move rfl) ?_
     refine pl_yes (.bool (!r25.1)) (tg := 190) (by kernel_rfl) (congrArg Value.bool e3) (y_not rfl) ?_
     refine pl_val (.bool ((((r78.2 && r80.2) && r78.1) && (!r80.1)) && (!r25.1))) (y_pick_t (congrArg Value.bool e3) (congrArg Value.bool (by rw [e3]; rfl))) ?_
     refine pl_val (.bool ((((r78.2 && r80.2) && r78.1) && (!r80.1)) && (!r25.1))) (y_assign rfl) ?_
     refine c_nil ?_
     exact ⟨_, fr_ovl 210 ⟨rfl, rfl, rfl, rfl, rfl, trivial⟩, hMid⟩
    refine pl_not (tg := 190) (by kernel_rfl) (congrArg Value.bool e3) ?_
    refine pl_not (tg := 190) (by kernel_rfl) (congrArg Value.bool e3) ?_
    refine pl_val (.bool ((((r78.2 && r80.2) && r78.1) && (!r80.1)) && (!r25.1))) (y_pick_f (congrArg Value.bool e3) (congrArg Value.bool (by rw [e3]; rfl))) ?_
    refine pl_val (.bool ((((r78.2 && r80.2) && r78.1) && (!r80.1)) && (!r25.1))) (y_assign rfl) ?_
    refine c_nil ?_
    exact ⟨_, fr_ovl 210 ⟨rfl, rfl, rfl, rfl, rfl, trivial⟩, hMid⟩
   refine pl_not (tg := 180) (by kernel_rfl) (congrArg Value.bool g7) ?_
   refine pl_val (.bool (r78.2 && r80.2)) (y_pick_f (congrArg Value.bool g7) (congrArg Value.bool (by rw [g7]; rfl))) ?_
   refine pl_val (.bool (r78.2 && r80.2)) (y_move rfl) ?_
   rcases Bool.eq_false_or_eq_true ((r78.2 && r80.2)) with g9 | g9
   ·skip
    refine pl_yes (.bool r78.1) (tg := 183) (by kernel_rfl) (congrArg Value.bool g9) (y_move rfl) ?_
    refine pl_val (.bool ((r78.2 && r80.2) && r78.1)) (y_pick_t (congrArg Value.bool g9) (congrArg Value.bool (by rw [g9]; rfl))) ?_
    refine pl_val (.bool ((r78.2 && r80.2) && r78.1)) (y_move rfl) ?_
    rcases Bool.eq_false_or_eq_true (((r78.2 && r80.2) && r78.1)) with e4 | e4
    ·skip
     refine pl_yes (.bool r80.1) (tg := 186) (by kernel_rfl) (congrArg Value.bool e4) (y_move rfl) ?_
     refine pl_yes (.bool (!r80.1)) (tg := 186) (by kernel_rfl) (congrArg Value.bool e4) (y_not rfl) ?_
     refine pl_val (.bool (((r78.2 && r80.2) && r78.1) && (!r80.1))) (y_pick_t (congrArg Value.bool e4) (congrArg Value.bool (by rw [e4]; rfl))) ?_
     refine pl_val (.bool (((r78.2 && r80.2) && r78.1) && (!r80.1))) (y_move rfl) ?_
     rcases Bool.eq_false_or_eq_true ((((r78.2 && r80.2) && r78.1) && (!r80.1))) with e5 | e5
     ·skip
      refine pl_yes (.bool r25.1) (tg := 190) (by kernel_rfl) (congrArg Value.bool e5) (y_move rfl) ?_
      refine pl_yes (.bool (!r25.1)) (tg := 190) (by kernel_rfl) (congrArg Value.bool e5) (y_not rfl) ?_
      refine pl_val (.bool ((((r78.2 && r80.2) && r78.1) && (!r80.1)) && (!r25.1))) (y_pick_t (congrArg Value.bool e5) (congrArg Value.bool (by rw [e5]; rfl))) ?_
      refine pl_val (.bool ((((r78.2 && r80.2) && r78.1) && (!r80.1)) && (!r25.1))) (y_assign rfl) ?_
      refine c_nil ?_
      exact ⟨_, fr_ovl 210 ⟨rfl, rfl, rfl, rfl, rfl, trivial⟩, hMid⟩
     refine pl_not (tg := 190) (by kernel_rfl) (congrArg Value.bool e5) ?_
     refine pl_not (tg := 190) (by kernel_rfl) (congrArg Value.bool e5) ?_
     refine pl_val (.bool ((((r78.2 && r80.2) && r78.1) && (!r80.1)) && (!r25.1))) (y_pick_f (congrArg Value.bool e5) (congrArg Value.bool (by rw [e5]; rfl))) ?_
     refine pl_val (.bool ((((r78.2 && r80.2) && r78.1) && (!r80.1)) && (!r25.1))) (y_assign rfl) ?_
     refine c_nil ?_
     exact ⟨_, fr_ovl 210 ⟨rfl, rfl, rfl, rfl, rfl, trivial⟩, hMid⟩
    refine pl_not (tg := 186) (by kernel_rfl) (congrArg Value.bool e4) ?_
    refine pl_not (tg := 186) (by kernel_rfl) (congrArg Value.bool e4) ?_
    refine pl_val (.bool (((r78.2 && r80.2) && r78.1) && (!r80.1))) (y_pick_f (congrArg Value.bool e4) (congrArg Value.bool (by rw [e4]; rfl))) ?_
    refine pl_val (.bool (((r78.2 && r80.2) && r78.1) && (!r80.1))) (y_move rfl) ?_
    rcases Bool.eq_false_or_eq_true ((((r78.2 && r80.2) && r78.1) && (!r80.1))) with e6 | e6
    ·skip
     refine pl_yes (.bool r25.1) (tg := 190) (by kernel_rfl) (congrArg Value.bool e6) (y_move rfl) ?_
     refine pl_yes (.bool (!r25.1)) (tg := 190) (by kernel_rfl) (congrArg Value.bool e6) (y_not rfl) ?_
     refine pl_val (.bool ((((r78.2 && r80.2) && r78.1) && (!r80.1)) && (!r25.1))) (y_pick_t (congrArg Value.bool e6) (congrArg Value.bool (by rw [e6]; rfl))) ?_
     refine pl_val (.bool ((((r78.2 && r80.2) && r78.1) && (!r80.1)) && (!r25.1))) (y_assign rfl) ?_
     refine c_nil ?_
     exact ⟨_, fr_ovl 210 ⟨rfl, rfl, rfl, rfl, rfl, trivial⟩, hMid⟩
    refine pl_not (tg := 190) (by kernel_rfl) (congrArg Value.bool e6) ?_
    refine pl_not (tg := 190) (by kernel_rfl) (congrArg Value.bool e6) ?_
    refine pl_val (.bool ((((r78.2 && r80.2) && r78.1) && (!r80.1)) && (!r25.1))) (y_pick_f (congrArg Value.bool e6) (congrArg Value.bool (by rw [e6]; rfl))) ?_
    refine pl_val (.bool ((((r78.2 && r80.2) && r78.1) && (!r80.1)) && (!r25.1))) (y_assign rfl) ?_
    refine c_nil ?_
    exact ⟨_, fr_ovl 210 ⟨rfl, rfl, rfl, rfl, rfl, trivial⟩, hMid⟩
   refine pl_not (tg := 183) (by kernel_rfl) (congrArg Value.bool g9) ?_
   refine pl_val (.bool ((r78.2 && r80.2) && r78.1)) (y_pick_f (congrArg Value.bool g9) (congrArg Value.bool (by rw [g9]; rfl))) ?_
   refine pl_val (.bool ((r78.2 && r80.2) && r78.1)) (y_move rfl) ?_
   rcases Bool.eq_false_or_eq_true (((r78.2 && r80.2) && r78.1)) with e7 | e7
   ·skip
    refine pl_yes (.bool r80.1) (tg := 186) (by kernel_rfl) (congrArg Value.bool e7) (y_move rfl) ?_
    refine pl_yes (.bool (!r80.1)) (tg := 186) (by kernel_rfl) (congrArg Value.bool e7) (y_not rfl) ?_
    refine pl_val (.bool (((r78.2 && r80.2) && r78.1) && (!r80.1))) (y_pick_t (congrArg Value.bool e7) (congrArg Value.bool (by rw [e7]; rfl))) ?_
    refine pl_val (.bool (((r78.2 && r80.2) && r78.1) && (!r80.1))) (y_move rfl) ?_
    rcases Bool.eq_false_or_eq_true ((((r78.2 && r80.2) && r78.1) && (!r80.1))) with e8 | e8
    ·skip
     refine pl_yes (.bool r25.1) (tg := 190) (by kernel_rfl) (congrArg Value.bool e8) (y_move rfl) ?_
     refine pl_yes (.bool (!r25.1)) (tg := 190) (by kernel_rfl) (congrArg Value.bool e8) (y_not rfl) ?_
     refine pl_val (.bool ((((r78.2 && r80.2) && r78.1) && (!r80.1)) && (!r25.1))) (y_pick_t (congrArg Value.bool e8) (congrArg Value.bool (by rw [e8]; rfl))) ?_
     refine pl_val (.bool ((((r78.2 && r80.2) && r78.1) && (!r80.1)) && (!r25.1))) (y_assign rfl) ?_
     refine c_nil ?_
     exact ⟨_, fr_ovl 210 ⟨rfl, rfl, rfl, rfl, rfl, trivial⟩, hMid⟩
    refine pl_not (tg := 190) (by kernel_rfl) (congrArg Value.bool e8) ?_
    refine pl_not (tg := 190) (by kernel_rfl) (congrArg Value.bool e8) ?_
    refine pl_val (.bool ((((r78.2 && r80.2) && r78.1) && (!r80.1)) && (!r25.1))) (y_pick_f (congrArg Value.bool e8) (congrArg Value.bool (by rw [e8]; rfl))) ?_
    refine pl_val (.bool ((((r78.2 && r80.2) && r78.1) && (!r80.1)) && (!r25.1))) (y_assign rfl) ?_
    refine c_nil ?_
    exact ⟨_, fr_ovl 210 ⟨rfl, rfl, rfl, rfl, rfl, trivial⟩, hMid⟩
   refine pl_not (tg := 186) (by kernel_rfl) (congrArg Value.bool e7) ?_
   refine pl_not (tg := 186) (by kernel_rfl) (congrArg Value.bool e7) ?_
   refine pl_val (.bool (((r78.2 && r80.2) && r78.1) && (!r80.1))) (y_pick_f (congrArg Value.bool e7) (congrArg Value.bool (by rw [e7]; rfl))) ?_
   refine pl_val (.bool (((r78.2 && r80.2) && r78.1) && (!r80.1))) (y_move rfl) ?_
   rcases Bool.eq_false_or_eq_true ((((r78.2 && r80.2) && r78.1) && (!r80.1))) with e9 | e9
   ·skip
    refine pl_yes (.bool r25.1) (tg := 190) (by kernel_rfl) (congrArg Value.bool e9) (y_move rfl) ?_
    refine pl_yes (.bool (!r25.1)) (tg := 190) (by kernel_rfl) (congrArg Value.bool e9) (y_not rfl) ?_
    refine pl_val (.bool ((((r78.2 && r80.2) && r78.1) && (!r80.1)) && (!r25.1))) (y_pick_t (congrArg Value.bool e9) (congrArg Value.bool (by rw [e9]; rfl))) ?_
    refine pl_val (.bool ((((r78.2 && r80.2) && r78.1) && (!r80.1)) && (!r25.1))) (y_assign rfl) ?_
    refine c_nil ?_
    exact ⟨_, fr_ovl 210 ⟨rfl, rfl, rfl, rfl, rfl, trivial⟩, hMid⟩
   refine pl_not (tg := 190) (by kernel_rfl) (congrArg Value.bool e9) ?_
   refine pl_not (tg := 190) (by kernel_rfl) (congrArg Value.bool e9) ?_
   refine pl_val (.bool ((((r78.2 && r80.2) && r78.1) && (!r80.1)) && (!r25.1))) (y_pick_f (congrArg Value.bool e9) (congrArg Value.bool (by rw [e9]; rfl))) ?_
   refine pl_val (.bool ((((r78.2 && r80.2) && r78.1) && (!r80.1)) && (!r25.1))) (y_assign rfl) ?_
   refine c_nil ?_
   exact ⟨_, fr_ovl 210 ⟨rfl, rfl, rfl, rfl, rfl, trivial⟩, hMid⟩
  rintro h8 n4 ⟨σ, rfl, j7⟩
  have a0 := a0.ext j7
  have a1 := a1.ext j7
  have hC := hC.ext j7
  have hO := hO.ext j7
  refine wp_ret ?_
  cases hs
  exact ⟨_, fr_ovl 210 ⟨rfl, trivial⟩, hC⟩
 refine c_condF (congrArg Value.bool l3) ?_
 refine wp_skip ?_
 refine c_sr ?_
 refine pl_val (.int .i64 r6.1) (y_move rfl) ?_
 refine pl_val (.slice a9 b0 b1) (y_move rfl) ?_
 refine pl_val (.slice a6 a7 a8) (y_move rfl) ?_
 obtain ⟨r100, r4, hs⟩ := bind_some hs
 refine pl_call Bd20 rfl (c_impl_FirstUnpermuted (M := (Past a5 b3 b2)) r6.1 r6.2.2 r6.2.1 a1 a0 hO.fut r4) ?_
 rintro _ t0 ⟨j8, j9, k0, r5, rfl, f0, r7, r8⟩
 have a0 := a0.ext f0
 have a1 := a1.ext f0
 have a2 := a2.ext f0
 have a3 := a3.ext f0
 have a4 := a4.cn f0
 have b4 := b4.ext f0
 have b5 := b5.cn f0
 have hC := hC.ext f0
 have hO := Own.join0 hO f0 r8
 have hO := hO.perm (R := r5 ++ (([j5]) ++ (j4 ++ (([g2]) ++ (g1 ++ (f2 ++ ([]))))))) (by simp)
 refine pl_val (.tuple #[(.slice j8 j9 k0), (.bool r100.2)]) (y_move rfl) ?_
 refine pl_val (.slice j8 j9 k0) (y_extract rfl (by kernel_rfl)) ?_
 refine pl_val (.bool r100.2) (y_extract rfl (by kernel_rfl)) ?_
 refine pl_val (.slice j8 j9 k0) (y_assign rfl) ?_
 refine pl_val (.bool r100.2) (y_assign rfl) ?_
 refine c_nil ?_
 have hO := hO.fr1
 have hO := hO.drop
 have hO := hO.fr1
 have hO := hO.drop
 have hO := hO.fr1
 have hO := hO.drop
 have hO := hO.fr1
 have hO := hO.drop
 have hO := hO.fr1
 have hO := hO.drop
 refine c_sr ?_
 refine pl_val (.bool r25.1) (y_move rfl) ?_
 refine pl_val (.bool r25.1) (y_move rfl) ?_
 rcases bif_some hs with ⟨c7, hs⟩ | ⟨c7, hs⟩
 ·skip
  refine pl_not (tg := 202) (by kernel_rfl) (congrArg Value.bool c7) ?_
  refine pl_not (tg := 202) (by kernel_rfl) (congrArg Value.bool c7) ?_
  refine pl_nou (tg := 204) (by kernel_rfl) rfl ?_
  refine pl_nou (tg := 204) (by kernel_rfl) rfl ?_
  refine pl_nou (tg := 204) (by kernel_rfl) rfl ?_
  refine pl_not (tg := 202) (by kernel_rfl) (congrArg Value.bool c7) ?_
  refine pl_val (.bool true) (y_pick_t (congrArg Value.bool c7) rfl) ?_
  refine pl_val (.bool true) (y_assign rfl) ?_
  refine c_nil ?_
  have hO := hO.drop
  refine wp_ret ?_
  cases hs
  exact ⟨_, fr_ovl 210 ⟨rfl, trivial⟩, hC⟩
 refine pl_yes (.bool r100.2) (tg := 202) (by kernel_rfl) (congrArg Value.bool c7) (y_move rfl) ?_
 refine pl_yes (.bool r100.2) (tg := 202) (by kernel_rfl) (congrArg Value.bool c7) (y_move rfl) ?_
 rcases bif_some hs with ⟨f1, hs⟩ | ⟨f1, hs⟩
 ·skip
  refine pl_yes (.slice j8 j9 k0) (tg := 204) (by kernel_rfl) (congrArg Value.bool f1) (y_move rfl) ?_
  refine pl_yes (.int .i64 (r100.1.length : Int)) (tg := 204) (by kernel_rfl) (congrArg Value.bool f1) (y_len' Sl25 (os_len r7) rfl) ?_
  refine pl_yes (.bool ((r100.1.length : Int) == 2)) (tg := 204) (by kernel_rfl) (congrArg Value.bool f1) (y_eql rfl rfl) ?_
  refine pl_yes (.bool ((r100.1.length : Int) == 2)) (tg := 202) (by kernel_rfl) (congrArg Value.bool c7) (y_pick_t (congrArg Value.bool f1) rfl) ?_
  refine pl_val (.bool ((r100.1.length : Int) == 2)) (y_pick_f (congrArg Value.bool c7) rfl) ?_
  refine pl_val (.bool ((r100.1.length : Int) == 2)) (y_assign rfl) ?_
  refine c_nil ?_
  have hO := hO.drop
  refine wp_ret ?_
  cases hs
  exact ⟨_, fr_ovl 210 ⟨rfl, trivial⟩, hC⟩
 refine pl_not (tg := 204) (by kernel_rfl) (congrArg Value.bool f1) ?_
 refine pl_not (tg := 204) (by kernel_rfl) (congrArg Value.bool f1) ?_
 refine pl_not (tg := 204) (by kernel_rfl) (congrArg Value.bool f1) ?_
 refine pl_yes (.bool false) (tg := 202) (by kernel_rfl) (congrArg Value.bool c7) (y_pick_f (congrArg Value.bool f1) rfl) ?_
 refine pl_val (.bool false) (y_pick_f (congrArg Value.bool c7) rfl) ?_
 refine pl_val (.bool false) (y_assign rfl) ?_
 refine c_nil ?_
 have hO := hO.drop
 refine wp_ret ?_
 cases hs
 exact ⟨_, fr_ovl 210 ⟨rfl, trivial⟩, hC⟩

end Go.Proofs
