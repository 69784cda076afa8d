/- What functions of the program compute, as plain functions, and that a call gives just that. Conditions: those named in each theorem. -/
import Derived.Test.YtdbfekcoaappnaaF0
set_option linter.unusedVariables false
namespace Go.Proofs
open Go.G Go.RowKit
set_option maxRecDepth 100000

theorem Ag45 : AggT Try.prog 45 true := fun _ => by kernel_rfl

theorem Sz45 : SzT Try.prog 45 2 := ⟨_, rfl, rfl⟩

theorem Fa45x1 : ∀ (a : Addr) (w : World), (Instr.fieldAt 45 (.pointer (some a)) 1).run Try.prog w = .ok (.pointer (some (a.add 1))) w := fun _ _ => by kernel_rfl

theorem Ag43 : AggT Try.prog 43 false := fun _ => by kernel_rfl

theorem Sz43 : SzT Try.prog 43 1 := ⟨_, rfl, rfl⟩

theorem Rw43 : RowT Try.prog 43 25 1 [(.slice none 0 0)] := ⟨Try.underlying43, ⟨_, _, rfl, rfl, rfl, rfl, by decide⟩, rfl, by decide⟩

def k_spec_l13OfPartition (M : Nat → Prop) (w0 : World) (r : (Int × (List (List Int)))) (a : Act) (w : World) : Prop :=
  ∃ (σ : Nat → Value) (rg2 : Nat) (ra0 : Option Addr) (rn0 rc0 : Nat) (rf0 : List Nat), a = fr 38 (ovl σ [(2, (.pointer (some ⟨rg2, 0, none⟩)))]) ∧ BoxV w rg2 45 [(.int .i64 r.1), (.slice ra0 rn0 rc0)] ∧ Chg [] w0 w ∧ (RT.os 25 (RT.os 3 (RT.int .i64))).val M w (.slice ra0 rn0 rc0) r.2 rf0 ∧ Own (Nw w0 []) (fun _ => True) w (rf0 ++ ([]))
def s_spec_l13OfPartition (p : List Int) : Option ((Int × (List (List Int)))) :=
  (forC (S := (List (List Int))) (R := (Int × (List (List Int)))) (fun k150 s148 =>
  (forC (S := (List (List Int))) (R := (Int × (List (List Int)))) (fun k200 s198 =>
  (idx p k150).bind fun x214 =>
  (idx p k200).bind fun x216 =>
  (bif (x214 == x216) then (app s198 ([[k150, k200]])).bind fun y224 =>
  some (.nx y224) else some (.nx s198))) 0 (p.length : Int) s148).bind fun o202 => after o202 (fun r_ => some (.rt r_)) (fun s198 =>
  some (.nx s198))) 0 (p.length : Int) ([])).bind fun o152 => after o152 (fun r_ => some r_) (fun s148 =>
  some (2, s148))
set_option maxHeartbeats 4000000 in
theorem c_spec_l13OfPartition {M : Nat → Prop} {w : World} {pa0 : Option Addr} {pn0 pc0 : Nat} (p : List Int) (h0 : (RT.rs (RT.int .i64)).val M w (.slice pa0 pn0 pc0) p ([])) (hM : ∀ g, w.heap.size ≤ g → M g) {r : (Int × (List (List Int)))} (hs : s_spec_l13OfPartition p = some r) :
    Gives Try.prog 80 [(.slice pa0 pn0 pc0)] w (fun v w' => ∃ (ra0 : Option Addr) (rn0 rc0 : Nat) (rf0 : List Nat), v = (.agg #[(.int .i64 r.1), (.slice ra0 rn0 rc0)]) ∧ Chg [] w w' ∧ (RT.os 25 (RT.os 3 (RT.int .i64))).val M w' (.slice ra0 rn0 rc0) r.2 rf0 ∧ Own (Nw w []) (fun _ => True) w' (rf0 ++ ([]))) := by
 refine calls_fr Try.func80 rfl Try.ntmps80 (Nat.le_of_ble_eq_true rfl) ?_
 have hO := Own.start (N := Nw w []) hM Nw.fut
 have hC := Chg.refl [] w
 unfold s_spec_l13OfPartition at hs
 refine wp_mono (Q := KPost (k_spec_l13OfPartition M w r)) ?_ (fun e a f2 h => ?_)
 rotate_left
 ·cases e
  case ret =>
   obtain ⟨σ, rg2, ra0, rn0, rc0, rf0, rfl, hbrg2, hrest⟩ := h
   exact ret1x Try.results80 (res_cell rfl (box_load Ag45 Sz45 hbrg2 [] _ [] rfl rfl (fun h => nomatch h))) ⟨ra0, rn0, rc0, rf0, rfl, hrest⟩
  all_goals exact (h : False).elim
 refine c_sr ?_
 obtain ⟨f3, a4, g8, f4, e2, a0⟩ := new_block w [(.int .i64 0), (.slice none 0 0)] 45
 refine pl_val (w' := f3) (.pointer (some ⟨a4, 0, none⟩)) (y_alloc (by rw [g8, f4]; kernel_rfl)) ?_
 have h0 := h0.ext e2
 have hC := hC.ext e2
 have hO := hO.new1 e2 f4 a0.lt
 refine c_nil ?_
 refine c_sr ?_
 obtain ⟨e3, b0, g9, f5, d1, f6⟩ := new_block f3 [] 25
 refine pl_val (w' := e3) (.slice (some ⟨b0, 0, none⟩) 0 0) (y_bslice rfl (by rw [g9, f5]; kernel_rfl)) ?_
 have h0 := h0.ext d1
 have a0 := a0.cn d1
 have hC := hC.ext d1
 have hO := hO.new1 d1 f5 f6.lt
 have b5 := os_of_box (r := (RT.os 3 (RT.int .i64))) (M := M) (css := []) (fps := []) (xs := ([] : List (List Int))) f6 trivial (Nat.zero_le _) (List.nodup_cons.2 ⟨(fun h => nomatch h), List.nodup_nil⟩)
 have b5 : (RT.os 25 (RT.os 3 (RT.int .i64))).val M e3 (.slice (some ⟨b0, 0, none⟩) 0 0) [] [b0] := b5
 refine pl_val (.agg #[(.int .i64 2), (.slice (some ⟨b0, 0, none⟩) 0 0)]) (y_build rfl (by kernel_rfl)) ?_
 obtain ⟨h1, a2, h2, f7, c4, f8⟩ := new_block e3 [(.int .i64 0), (.slice none 0 0)] 45
 refine pl_val (w' := h1) (.pointer (some ⟨a2, 0, none⟩)) (y_alloc (by rw [h2, f7]; kernel_rfl)) ?_
 have h0 := h0.ext c4
 have a0 := a0.cn c4
 have b5 := b5.ext c4
 have hC := hC.ext c4
 have hO := hO.new1 c4 f7 f8.lt
 obtain ⟨f9, h3, c5, a1⟩ := box_store (P := Try.prog) f8 [] [(.int .i64 0), (.slice none 0 0)] [] [(.int .i64 2), (.slice (some ⟨b0, 0, none⟩) 0 0)] rfl rfl (by intro u hu; simp only [List.mem_cons, List.not_mem_nil, or_false] at hu; rcases hu with rfl | rfl <;> rfl)
 refine pl_skip (w' := f9) (ys_store rfl rfl (h3 _ _ rfl Sz45)) ?_
 have h0 := h0.mt c5 hO same_
 have a0 := a0.ap c5 hO same_ (mem_r (mem_l (List.mem_singleton.2 rfl)))
 have b5 := b5.ma c5 hO same_ (fun _ e => (mem_l (e)))
 have hC := hC.st c5 hO same_
 have hO := hO.ext c5
 have a1 : BoxV f9 a2 45 [(.int .i64 2), (.slice (some ⟨b0, 0, none⟩) 0 0)] := a1
 refine c_nil ?_
 refine c_seq ?_
 refine c_sr ?_
 refine pl_val (.int .i64 0) (y_assign rfl) ?_
 refine c_nil ?_
 obtain ⟨o152, h4, hs⟩ := bind_some hs
 refine wp_block ?_
 refine wp_forC (id := 0) (p.length : Int) (I := fun k150 s148 a a5 => ∃ (σ : Nat → Value) (b9 : Option Addr) (c0 : Nat) (c1 : Nat) (c2 : List Nat), a = fr 38 (ovl σ [(0, (.slice pa0 pn0 pc0)), (2, (.pointer (some ⟨a4, 0, none⟩))), (3, (.pointer (some ⟨a2, 0, none⟩))), (4, (.int .i64 k150))]) ∧ Chg [] w a5 ∧ Own (Nw w []) M a5 (c2 ++ (([a2]) ++ (([a4]) ++ []))) ∧ (RT.rs (RT.int .i64)).val M a5 (.slice pa0 pn0 pc0) p ([]) ∧ BoxV a5 a4 45 [(.int .i64 0), (.slice none 0 0)] ∧ BoxV a5 a2 45 [(.int .i64 2), (.slice b9 c0 c1)] ∧ (RT.os 25 (RT.os 3 (RT.int .i64))).val M a5 (.slice b9 c0 c1) s148 c2) (J := fun s148 a a5 => ∃ (σ : Nat → Value) (b1 : Option Addr) (b2 : Nat) (b3 : Nat) (d2 : List Nat), a = fr 38 (ovl σ [(2, (.pointer (some ⟨a4, 0, none⟩))), (3, (.pointer (some ⟨a2, 0, none⟩)))]) ∧ Chg [] w a5 ∧ Own (Nw w []) M a5 (d2 ++ (([a2]) ++ (([a4]) ++ []))) ∧ (RT.rs (RT.int .i64)).val M a5 (.slice pa0 pn0 pc0) p ([]) ∧ BoxV a5 a4 45 [(.int .i64 0), (.slice none 0 0)] ∧ BoxV a5 a2 45 [(.int .i64 2), (.slice b1 b2 b3)] ∧ (RT.os 25 (RT.os 3 (RT.int .i64))).val M a5 (.slice b1 b2 b3) s148 d2) (K := (k_spec_l13OfPartition M w)) ?_ ?_ 0 ([]) o152 _ _ ?_ h4 ?_
 ·rintro k150 s148 a a5 ⟨σ, b9, c0, c1, c2, rfl, hC, hO, h0, a0, a1, e4⟩ hlt
  refine c_seq ?_
  refine c_sr ?_
  refine pl_val (.int .i64 k150) (y_move rfl) ?_
  refine pl_val (.slice pa0 pn0 pc0) (y_move rfl) ?_
  refine pl_val (.int .i64 (p.length : Int)) (y_len' Sl25 (rs_len h0) rfl) ?_
  refine pl_val (.bool (decide (k150 < (p.length : Int)))) (y_lss rfl rfl) ?_
  refine c_nil ?_
  refine c_condF (congrArg Value.bool (decide_eq_false hlt)) ?_
  refine wp_exit ?_
  have hO := hO.fr2
  have hO := hO.fr2
  have hO := hO.fr2
  exact ⟨rfl, _, b9, c0, c1, c2, fr_ovl 38 ⟨rfl, rfl, trivial⟩, hC, hO, h0, a0, a1, e4⟩
 ·rintro k150 s148 o152 a a5 ⟨σ, b9, c0, c1, c2, rfl, hC, hO, h0, a0, a1, e4⟩ hlt hw hs
  refine c_seq ?_
  refine c_sr ?_
  refine pl_val (.int .i64 k150) (y_move rfl) ?_
  refine pl_val (.slice pa0 pn0 pc0) (y_move rfl) ?_
  refine pl_val (.int .i64 (p.length : Int)) (y_len' Sl25 (rs_len h0) rfl) ?_
  refine pl_val (.bool (decide (k150 < (p.length : Int)))) (y_lss rfl rfl) ?_
  refine c_nil ?_
  refine c_condT (congrArg Value.bool (decide_eq_true hlt)) ?_
  refine wp_skip ?_
  refine c_seq ?_
  refine wp_block ?_
  refine c_sr ?_
  refine pl_val (.int .i64 0) (y_assign rfl) ?_
  refine c_nil ?_
  obtain ⟨o202, h5, hs⟩ := bind_some hs
  refine wp_block ?_
  refine wp_forC (id := 2) (p.length : Int) (I := fun k200 s198 a a3 => ∃ (σ : Nat → Value) (a7 : Option Addr) (a8 : Nat) (a9 : Nat) (b6 : List Nat), a = fr 38 (ovl σ [(0, (.slice pa0 pn0 pc0)), (2, (.pointer (some ⟨a4, 0, none⟩))), (3, (.pointer (some ⟨a2, 0, none⟩))), (4, (.int .i64 k150)), (5, (.int .i64 k200))]) ∧ Chg [] w a3 ∧ Own (Nw w []) M a3 (b6 ++ (([a2]) ++ (([a4]) ++ []))) ∧ (RT.rs (RT.int .i64)).val M a3 (.slice pa0 pn0 pc0) p ([]) ∧ BoxV a3 a4 45 [(.int .i64 0), (.slice none 0 0)] ∧ BoxV a3 a2 45 [(.int .i64 2), (.slice a7 a8 a9)] ∧ (RT.os 25 (RT.os 3 (RT.int .i64))).val M a3 (.slice a7 a8 a9) s198 b6) (J := fun s198 a a3 => ∃ (σ : Nat → Value) (d3 : Option Addr) (d4 : Nat) (d5 : Nat) (d6 : List Nat), a = fr 38 (ovl σ [(0, (.slice pa0 pn0 pc0)), (2, (.pointer (some ⟨a4, 0, none⟩))), (3, (.pointer (some ⟨a2, 0, none⟩))), (4, (.int .i64 k150))]) ∧ Chg [] w a3 ∧ Own (Nw w []) M a3 (d6 ++ (([a2]) ++ (([a4]) ++ []))) ∧ (RT.rs (RT.int .i64)).val M a3 (.slice pa0 pn0 pc0) p ([]) ∧ BoxV a3 a4 45 [(.int .i64 0), (.slice none 0 0)] ∧ BoxV a3 a2 45 [(.int .i64 2), (.slice d3 d4 d5)] ∧ (RT.os 25 (RT.os 3 (RT.int .i64))).val M a3 (.slice d3 d4 d5) s198 d6) (K := (k_spec_l13OfPartition M w)) ?_ ?_ 0 s148 o202 _ _ ?_ h5 ?_
  ·rintro k200 s198 a a3 ⟨σ, a7, a8, a9, b6, rfl, hC, hO, h0, a0, a1, a6⟩ hlt
   refine c_seq ?_
   refine c_sr ?_
   refine pl_val (.int .i64 k200) (y_move rfl) ?_
   refine pl_val (.slice pa0 pn0 pc0) (y_move rfl) ?_
   refine pl_val (.int .i64 (p.length : Int)) (y_len' Sl25 (rs_len h0) rfl) ?_
   refine pl_val (.bool (decide (k200 < (p.length : Int)))) (y_lss rfl rfl) ?_
   refine c_nil ?_
   refine c_condF (congrArg Value.bool (decide_eq_false hlt)) ?_
   refine wp_exit ?_
   have hO := hO.fr2
   have hO := hO.fr2
   have hO := hO.fr2
   exact ⟨rfl, _, a7, a8, a9, b6, fr_ovl 38 ⟨rfl, rfl, rfl, rfl, trivial⟩, hC, hO, h0, a0, a1, a6⟩
  ·rintro k200 s198 o202 a a3 ⟨σ, a7, a8, a9, b6, rfl, hC, hO, h0, a0, a1, a6⟩ hlt hw hs
   refine c_seq ?_
   refine c_sr ?_
   refine pl_val (.int .i64 k200) (y_move rfl) ?_
   refine pl_val (.slice pa0 pn0 pc0) (y_move rfl) ?_
   refine pl_val (.int .i64 (p.length : Int)) (y_len' Sl25 (rs_len h0) rfl) ?_
   refine pl_val (.bool (decide (k200 < (p.length : Int)))) (y_lss rfl rfl) ?_
   refine c_nil ?_
   refine c_condT (congrArg Value.bool (decide_eq_true hlt)) ?_
   refine wp_skip ?_
   refine c_seq ?_
   refine wp_block ?_
   refine c_seq ?_
   refine x_start [] Mx rfl ?_
   have b7 := Chg.drew a3
   generalize World.drew a3 = g0 at b7 ⊢
   have h0 := h0.ext b7
   have a0 := a0.cn b7
   have a1 := a1.cn b7
   have a6 := a6.ext b7
   have hC := hC.ext b7
   have hO := hO.ext b7
   have hS := Chg.refl [] g0
   refine x_p 0 (.slice pa0 pn0 pc0) rfl (by kernel_rfl)  (fun _ => y_move rfl) (fun _ => hS) ?_
   refine x_p 1 (.int .i64 k150) rfl (by kernel_rfl)  (fun _ => y_move rfl) (fun _ => hS) ?_
   obtain ⟨x214, h6, hs⟩ := bind_some hs
   obtain ⟨h7, h8, h9, i0⟩ := rs_idx Sl25 Sz3 h0 h6
   refine x_p 2 (.pointer (some ⟨h7, h8, none⟩)) rfl (by kernel_rfl)  (fun _ => h9 _ _ _ _ _ _ _ _ _ rfl rfl) (fun _ => hS) ?_
   refine x_l 3 (.int .i64 x214) rfl (by kernel_rfl)  (fun w' hw' => y_load rfl ((at_load_int Ag3 Sz3 i0) w' hw')) hS ?_
   refine x_p 4 (.slice pa0 pn0 pc0) rfl (by kernel_rfl)  (fun _ => y_move rfl) (fun _ => hS) ?_
   refine x_p 5 (.int .i64 k200) rfl (by kernel_rfl)  (fun _ => y_move rfl) (fun _ => hS) ?_
   obtain ⟨x216, i1, hs⟩ := bind_some hs
   obtain ⟨i2, i3, i4, i5⟩ := rs_idx Sl25 Sz3 h0 i1
   refine x_p 6 (.pointer (some ⟨i2, i3, none⟩)) rfl (by kernel_rfl)  (fun _ => i4 _ _ _ _ _ _ _ _ _ rfl rfl) (fun _ => hS) ?_
   refine x_l 7 (.int .i64 x216) rfl (by kernel_rfl)  (fun w' hw' => y_load rfl ((at_load_int Ag3 Sz3 i5) w' hw')) hS ?_
   refine x_p 8 (.bool (x214 == x216)) rfl (by kernel_rfl)  (fun _ => y_eql rfl rfl) (fun _ => hS) ?_
   refine x_end (by kernel_rfl) ?_
   clear hS
   rcases bif_some hs with ⟨e5, hs⟩ | ⟨e5, hs⟩
   ·refine c_condT (congrArg Value.bool e5) ?_
    refine c_region ?_
    refine pl_val (.pointer (some ⟨a2, 1, none⟩)) (y_faddr rfl Fa45x1) ?_
    refine pl_val (.slice a7 a8 a9) (y_load rfl ((box_load Ag43 Sz43 a1 [(.int .i64 2)] [(.slice a7 a8 a9)] [] rfl rfl (fun _ => rfl)) _ (Chg.refl _ _))) ?_
    refine pl_val (.int .i64 k150) (y_move rfl) ?_
    refine pl_val (.int .i64 k200) (y_move rfl) ?_
    obtain ⟨e6, b4, i6, g1, c3, g2⟩ := new_block g0 [(.int .i64 k150), (.int .i64 k200)] 3
    refine pl_val (w' := e6) (.slice (some ⟨b4, 0, none⟩) 2 2) (y_bslice rfl (by rw [i6, g1]; kernel_rfl)) ?_
    have h0 := h0.ext c3
    have a0 := a0.cn c3
    have a1 := a1.cn c3
    have a6 := a6.ext c3
    have hC := hC.ext c3
    have hO := hO.new1 c3 g1 g2.lt
    have c6 := os_of_box (r := (RT.int .i64)) (M := M) (css := [[(.int .i64 k150)], [(.int .i64 k200)]]) (fps := [([] : List Nat), ([] : List Nat)]) (xs := ([k150, k200] : List Int)) g2 ⟨⟨rfl, rfl⟩, ⟨⟨rfl, rfl⟩, trivial⟩⟩ (Nat.le_of_ble_eq_true rfl) (List.nodup_cons.2 ⟨(fun h => nomatch h), List.nodup_nil⟩)
    have c6 : (RT.os 3 (RT.int .i64)).val M e6 (.slice (some ⟨b4, 0, none⟩) 2 2) [k150, k200] [b4] := c6
    obtain ⟨g3, d7, i7, g4, b8, g5⟩ := new_block e6 [(.slice (some ⟨b4, 0, none⟩) 2 2)] 25
    refine pl_val (w' := g3) (.slice (some ⟨d7, 0, none⟩) 1 1) (y_bslice rfl (by rw [i7, g4]; kernel_rfl)) ?_
    have h0 := h0.ext b8
    have a0 := a0.cn b8
    have a1 := a1.cn b8
    have a6 := a6.ext b8
    have c6 := c6.ext b8
    have hC := hC.ext b8
    have hO := hO.new1 b8 g4 g5.lt
    have hO := hO.perm (R := (d7 :: ((([b4])) ++ ([]))) ++ (b6 ++ (([a2]) ++ (([a4]) ++ ([]))))) (by simp)
    have i9 := hO.nd
    have e7 := os_of_box (r := (RT.os 3 (RT.int .i64))) (M := M) (css := [[(.slice (some ⟨b4, 0, none⟩) 2 2)]]) (fps := [([b4] : List Nat)]) (xs := ([[k150, k200]] : List (List Int))) g5 ⟨(os_unval c6), trivial⟩ (Nat.le_of_ble_eq_true rfl) i9
    have e7 : (RT.os 25 (RT.os 3 (RT.int .i64))).val M g3 (.slice (some ⟨d7, 0, none⟩) 1 1) [[k150, k200]] (d7 :: ((([b4])) ++ ([]))) := e7
    obtain ⟨y224, j0, hs⟩ := bind_some hs
    have hO := hO.fr1
    obtain ⟨d8, d9, e0, j1, j2, j3, c7, j4, c8⟩ := app_os Rw43 j0 a6 e7 hO.inM (fun g hg hq => hO.apart g hq (mem_l hg))
    have e1 := os_block a6
    refine pl_val (w' := j1) (.slice d8 d9 e0) (y_append rfl rfl (j3 _)) ?_
    have hO := hO.fr1
    have hO := hO.fr1
    have h0 := h0.mt c7 hO e1
    have a0 := a0.ap c7 hO e1 (mem_r (mem_r (mem_l (List.mem_singleton.2 rfl))))
    have a1 := a1.ap c7 hO e1 (mem_r (mem_l (List.mem_singleton.2 rfl)))
    have hC := hC.st c7 hO e1
    have hO := hO.eat c7 j4 (os_nodup c8) c8.fpl
    refine pl_val (.pointer (some ⟨a2, 1, none⟩)) (y_faddr rfl Fa45x1) ?_
    obtain ⟨g6, j5, c9, e8⟩ := box_store (P := Try.prog) a1 [(.int .i64 2)] [(.slice a7 a8 a9)] [] [(.slice d8 d9 e0)] rfl rfl (by intro u hu; simp only [List.mem_cons, List.not_mem_nil, or_false] at hu; rcases hu with rfl <;> rfl)
    refine pl_skip (w' := g6) (ys_store rfl rfl (j5 _ _ rfl Sz43)) ?_
    have hO := hO.fr1
    have h0 := h0.mt c9 hO same_
    have a0 := a0.ap c9 hO same_ (mem_r (mem_l (List.mem_singleton.2 rfl)))
    have c8 := c8.ma c9 hO same_ (fun _ e => (mem_l (e)))
    have hC := hC.st c9 hO same_
    have hO := hO.ext c9
    have e8 : BoxV g6 a2 45 [(.int .i64 2), (.slice d8 d9 e0)] := e8
    refine c_nil ?_
    refine c_region ?_
    refine pl_val (.int .i64 k200) (y_move rfl) ?_
    refine pl_val (.int .i64 (w64 (k200 + 1))) (y_add rfl rfl) ?_
    refine pl_val (.int .i64 (w64 (k200 + 1))) (y_assign rfl) ?_
    refine c_nil ?_
    cases hs
    have hO := hO.fr2
    have hO := hO.fr1
    have hO := hO.fr2
    exact ⟨_, d8, d9, e0, j2, fr_ovl 38 ⟨rfl, rfl, rfl, rfl, congrArg (Value.int .i64) hw, trivial⟩, hC, hO, h0, a0, e8, c8⟩
   refine c_condF (congrArg Value.bool e5) ?_
   refine wp_skip ?_
   refine c_region ?_
   refine pl_val (.int .i64 k200) (y_move rfl) ?_
   refine pl_val (.int .i64 (w64 (k200 + 1))) (y_add rfl rfl) ?_
   refine pl_val (.int .i64 (w64 (k200 + 1))) (y_assign rfl) ?_
   refine c_nil ?_
   cases hs
   have hO := hO.fr2
   have hO := hO.fr2
   have hO := hO.fr2
   exact ⟨_, a7, a8, a9, b6, fr_ovl 38 ⟨rfl, rfl, rfl, rfl, congrArg (Value.int .i64) hw, trivial⟩, hC, hO, h0, a0, a1, a6⟩
  ·skip
   have hO := hO.fr2
   have hO := hO.fr2
   have hO := hO.fr2
   exact ⟨_, b9, c0, c1, c2, fr_ovl 38 ⟨rfl, rfl, rfl, rfl, rfl, trivial⟩, hC, hO, h0, a0, a1, e4⟩
  cases o202 with
  | nx _ => exact True.intro
  | rt r_ =>
   have hs := after_rt hs
   intro e9 f2 hK
   cases hs
   exact hK
  | br s198 =>
   have hs := after_br hs
   rintro e9 a3 ⟨σ, d3, d4, d5, d6, rfl, hC, hO, h0, a0, a1, j6⟩
   refine c_region ?_
   refine pl_val (.int .i64 k150) (y_move rfl) ?_
   refine pl_val (.int .i64 (w64 (k150 + 1))) (y_add rfl rfl) ?_
   refine pl_val (.int .i64 (w64 (k150 + 1))) (y_assign rfl) ?_
   refine c_nil ?_
   cases hs
   have hO := hO.fr2
   have hO := hO.fr2
   have hO := hO.fr2
   exact ⟨_, d3, d4, d5, d6, fr_ovl 38 ⟨rfl, rfl, rfl, congrArg (Value.int .i64) hw, trivial⟩, hC, hO, h0, a0, a1, j6⟩
 ·skip
  have hO := hO.fr2
  have hO := hO.fr1
  have hO := hO.fr2
  exact ⟨_, (some ⟨b0, 0, none⟩), 0, 0, ([b0]), fr_ovl 38 ⟨rfl, rfl, rfl, rfl, trivial⟩, hC, hO, h0, a0, a1, b5⟩
 cases o152 with
 | nx _ => exact True.intro
 | rt r_ =>
  have hs := after_rt hs
  intro e9 f2 hK
  cases hs
  exact hK
 | br s148 =>
  have hs := after_br hs
  rintro e9 a5 ⟨σ, b1, b2, b3, d2, rfl, hC, hO, h0, a0, a1, f0⟩
  refine c_sr ?_
  refine pl_val (.agg #[(.int .i64 2), (.slice b1 b2 b3)]) (y_load rfl ((box_load Ag45 Sz45 a1 [] [(.int .i64 2), (.slice b1 b2 b3)] [] rfl rfl (fun h => nomatch h)) _ (Chg.refl _ _))) ?_
  obtain ⟨g7, j7, d0, f1⟩ := box_store (P := Try.prog) a0 [] [(.int .i64 0), (.slice none 0 0)] [] [(.int .i64 2), (.slice b1 b2 b3)] rfl rfl (by intro u hu; simp only [List.mem_cons, List.not_mem_nil, or_false] at hu; rcases hu with rfl | rfl <;> rfl)
  refine pl_skip (w' := g7) (ys_store rfl rfl (j7 _ _ rfl Sz45)) ?_
  have hO := hO.fr2
  have h0 := h0.mt d0 hO same_
  have a1 := a1.ap d0 hO same_ (mem_r (mem_l (List.mem_singleton.2 rfl)))
  have f0 := f0.ma d0 hO same_ (fun _ e => (mem_l (e)))
  have hC := hC.st d0 hO same_
  have hO := hO.ext d0
  have f1 : BoxV g7 a4 45 [(.int .i64 2), (.slice b1 b2 b3)] := f1
  refine c_nil ?_
  refine wp_ret ?_
  cases hs
  have hO := hO.drop
  have hO := hO.fr1
  have hO := hO.drop
  exact ⟨_, a4, b1, b2, b3, d2, fr_ovl 38 ⟨rfl, trivial⟩, f1, hC, f0, hO.top⟩

def k_spec_l3Less (M : Nat → Prop) (w0 : World) (r : Bool) (a : Act) (w : World) : Prop :=
  ∃ (σ : Nat → Value) , a = fr 30 (ovl σ [(4, (.bool r))]) ∧ Chg [] w0 w
def s_spec_l3Less (a_ : List Int) (b : List Int) : Option (Bool) :=
  (forC (S := Unit) (R := Bool) (fun k21 s19 =>
  (idx a_ k21).bind fun x31 =>
  (idx b k21).bind fun x33 =>
  (bif (x31 != x33) then (idx a_ k21).bind fun x37 =>
  (idx b k21).bind fun x39 =>
  some (.rt (decide (x37 < x39))) else some (.nx ()))) 0 (a_.length : Int) ()).bind fun o23 => after o23 (fun r_ => some r_) (fun s19 =>
  some false)
set_option maxHeartbeats 4000000 in
theorem c_spec_l3Less {M : Nat → Prop} {w : World} {pa0 : Option Addr} {pn0 pc0 : Nat} {pa1 : Option Addr} {pn1 pc1 : Nat} (a_ : List Int) (b : List Int) (h0 : (RT.rs (RT.int .i64)).val M w (.slice pa0 pn0 pc0) a_ ([])) (h1 : (RT.rs (RT.int .i64)).val M w (.slice pa1 pn1 pc1) b ([])) (hM : ∀ g, w.heap.size ≤ g → M g) {r : Bool} (hs : s_spec_l3Less a_ b = some r) :
    Gives Try.prog 98 [(.slice pa0 pn0 pc0), (.slice pa1 pn1 pc1)] w (fun v w' => v = (.bool r) ∧ Chg [] w w') := by
 refine calls_fr Try.func98 rfl Try.ntmps98 (Nat.le_of_ble_eq_true rfl) ?_
 have hO := Own.start (N := Nw w []) hM Nw.fut
 have hC := Chg.refl [] w
 unfold s_spec_l3Less at hs
 refine wp_mono (Q := KPost (k_spec_l3Less M w r)) ?_ (fun e a a5 h => ?_)
 rotate_left
 ·cases e
  case ret =>
   obtain ⟨σ, rfl, hrest⟩ := h
   exact ret1x Try.results98 (res_tmp rfl) ⟨rfl, hrest⟩
  all_goals exact (h : False).elim
 refine c_sr ?_
 refine pl_val (.bool false) (y_assign rfl) ?_
 refine c_nil ?_
 refine c_seq ?_
 refine c_sr ?_
 refine pl_val (.int .i64 0) (y_assign rfl) ?_
 refine c_nil ?_
 obtain ⟨o23, a6, hs⟩ := bind_some hs
 refine wp_block ?_
 refine wp_forC (id := 0) (a_.length : Int) (I := fun k21 s19 a a0 => ∃ (σ : Nat → Value), a = fr 30 (ovl σ [(0, (.slice pa0 pn0 pc0)), (1, (.slice pa1 pn1 pc1)), (5, (.int .i64 k21))]) ∧ Chg [] w a0 ∧ Own (Nw w []) M a0 ([]) ∧ (RT.rs (RT.int .i64)).val M a0 (.slice pa0 pn0 pc0) a_ ([]) ∧ (RT.rs (RT.int .i64)).val M a0 (.slice pa1 pn1 pc1) b ([])) (J := fun s19 a a0 => ∃ (σ : Nat → Value), a = fr 30 (ovl σ []) ∧ Chg [] w a0 ∧ Own (Nw w []) M a0 ([]) ∧ (RT.rs (RT.int .i64)).val M a0 (.slice pa0 pn0 pc0) a_ ([]) ∧ (RT.rs (RT.int .i64)).val M a0 (.slice pa1 pn1 pc1) b ([])) (K := (k_spec_l3Less M w)) ?_ ?_ 0 () o23 _ _ ?_ a6 ?_
 ·rintro k21 s19 a a0 ⟨σ, rfl, hC, hO, h0, h1⟩ hlt
  refine c_seq ?_
  refine c_sr ?_
  refine pl_val (.int .i64 k21) (y_move rfl) ?_
  refine pl_val (.slice pa0 pn0 pc0) (y_move rfl) ?_
  refine pl_val (.int .i64 (a_.length : Int)) (y_len' Sl25 (rs_len h0) rfl) ?_
  refine pl_val (.bool (decide (k21 < (a_.length : Int)))) (y_lss rfl rfl) ?_
  refine c_nil ?_
  refine c_condF (congrArg Value.bool (decide_eq_false hlt)) ?_
  refine wp_exit ?_
  exact ⟨rfl, _, fr_ovl 30 trivial, hC, hO, h0, h1⟩
 ·rintro k21 s19 o23 a a0 ⟨σ, rfl, hC, hO, h0, h1⟩ hlt hw hs
  refine c_seq ?_
  refine c_sr ?_
  refine pl_val (.int .i64 k21) (y_move rfl) ?_
  refine pl_val (.slice pa0 pn0 pc0) (y_move rfl) ?_
  refine pl_val (.int .i64 (a_.length : Int)) (y_len' Sl25 (rs_len h0) rfl) ?_
  refine pl_val (.bool (decide (k21 < (a_.length : Int)))) (y_lss rfl rfl) ?_
  refine c_nil ?_
  refine c_condT (congrArg Value.bool (decide_eq_true hlt)) ?_
  refine wp_skip ?_
  refine c_seq ?_
  refine wp_block ?_
  refine c_seq ?_
  refine x_start [] Mx rfl ?_
  have a1 := Chg.drew a0
  generalize World.drew a0 = a3 at a1 ⊢
  have h0 := h0.ext a1
  have h1 := h1.ext a1
  have hC := hC.ext a1
  have hO := hO.ext a1
  have hS := Chg.refl [] a3
  refine x_p 0 (.slice pa0 pn0 pc0) rfl (by kernel_rfl)  (fun _ => y_move rfl) (fun _ => hS) ?_
  refine x_p 1 (.int .i64 k21) rfl (by kernel_rfl)  (fun _ => y_move rfl) (fun _ => hS) ?_
  obtain ⟨x31, a7, hs⟩ := bind_some hs
  obtain ⟨a8, a9, b0, b1⟩ := rs_idx Sl25 Sz3 h0 a7
  refine x_p 2 (.pointer (some ⟨a8, a9, none⟩)) rfl (by kernel_rfl)  (fun _ => b0 _ _ _ _ _ _ _ _ _ rfl rfl) (fun _ => hS) ?_
  refine x_l 3 (.int .i64 x31) rfl (by kernel_rfl)  (fun w' hw' => y_load rfl ((at_load_int Ag3 Sz3 b1) w' hw')) hS ?_
  refine x_p 4 (.slice pa1 pn1 pc1) rfl (by kernel_rfl)  (fun _ => y_move rfl) (fun _ => hS) ?_
  refine x_p 5 (.int .i64 k21) rfl (by kernel_rfl)  (fun _ => y_move rfl) (fun _ => hS) ?_
  obtain ⟨x33, b2, hs⟩ := bind_some hs
  obtain ⟨b3, b4, b5, b6⟩ := rs_idx Sl25 Sz3 h1 b2
  refine x_p 6 (.pointer (some ⟨b3, b4, none⟩)) rfl (by kernel_rfl)  (fun _ => b5 _ _ _ _ _ _ _ _ _ rfl rfl) (fun _ => hS) ?_
  refine x_l 7 (.int .i64 x33) rfl (by kernel_rfl)  (fun w' hw' => y_load rfl ((at_load_int Ag3 Sz3 b6) w' hw')) hS ?_
  refine x_p 8 (.bool (x31 != x33)) rfl (by kernel_rfl)  (fun _ => y_neq rfl rfl) (fun _ => hS) ?_
  refine x_end (by kernel_rfl) ?_
  clear hS
  rcases bif_some hs with ⟨a4, hs⟩ | ⟨a4, hs⟩
  ·refine c_condT (congrArg Value.bool a4) ?_
   refine c_seq ?_
   refine x_start [] Mx rfl ?_
   have a2 := Chg.drew a3
   generalize World.drew a3 = b7 at a2 ⊢
   have h0 := h0.ext a2
   have h1 := h1.ext a2
   have hC := hC.ext a2
   have hO := hO.ext a2
   have hS := Chg.refl [] b7
   refine x_p 0 (.slice pa0 pn0 pc0) rfl (by kernel_rfl)  (fun _ => y_move rfl) (fun _ => hS) ?_
   refine x_p 1 (.int .i64 k21) rfl (by kernel_rfl)  (fun _ => y_move rfl) (fun _ => hS) ?_
   obtain ⟨x37, b8, hs⟩ := bind_some hs
   obtain ⟨b9, c0, c1, c2⟩ := rs_idx Sl25 Sz3 h0 b8
   refine x_p 2 (.pointer (some ⟨b9, c0, none⟩)) rfl (by kernel_rfl)  (fun _ => c1 _ _ _ _ _ _ _ _ _ rfl rfl) (fun _ => hS) ?_
   refine x_l 3 (.int .i64 x37) rfl (by kernel_rfl)  (fun w' hw' => y_load rfl ((at_load_int Ag3 Sz3 c2) w' hw')) hS ?_
   refine x_p 4 (.slice pa1 pn1 pc1) rfl (by kernel_rfl)  (fun _ => y_move rfl) (fun _ => hS) ?_
   refine x_p 5 (.int .i64 k21) rfl (by kernel_rfl)  (fun _ => y_move rfl) (fun _ => hS) ?_
   obtain ⟨x39, c3, hs⟩ := bind_some hs
   obtain ⟨c4, c5, c6, c7⟩ := rs_idx Sl25 Sz3 h1 c3
   refine x_p 6 (.pointer (some ⟨c4, c5, none⟩)) rfl (by kernel_rfl)  (fun _ => c6 _ _ _ _ _ _ _ _ _ rfl rfl) (fun _ => hS) ?_
   refine x_l 7 (.int .i64 x39) rfl (by kernel_rfl)  (fun w' hw' => y_load rfl ((at_load_int Ag3 Sz3 c7) w' hw')) hS ?_
   refine x_p 8 (.bool (decide (x37 < x39))) rfl (by kernel_rfl)  (fun _ => y_lss rfl rfl) (fun _ => hS) ?_
   refine x_p 9 (.bool (decide (x37 < x39))) rfl (by kernel_rfl)  (fun _ => y_assign rfl) (fun _ => hS) ?_
   refine x_end (by kernel_rfl) ?_
   clear hS
   refine wp_ret ?_
   cases hs
   exact ⟨_, fr_ovl 30 ⟨rfl, trivial⟩, hC⟩
  refine c_condF (congrArg Value.bool a4) ?_
  refine wp_skip ?_
  refine c_region ?_
  refine pl_val (.int .i64 k21) (y_move rfl) ?_
  refine pl_val (.int .i64 (w64 (k21 + 1))) (y_add rfl rfl) ?_
  refine pl_val (.int .i64 (w64 (k21 + 1))) (y_assign rfl) ?_
  refine c_nil ?_
  cases hs
  exact ⟨_, fr_ovl 30 ⟨rfl, rfl, congrArg (Value.int .i64) hw, trivial⟩, hC, hO, h0, h1⟩
 ·skip
  exact ⟨_, fr_ovl 30 ⟨rfl, rfl, rfl, trivial⟩, hC, hO, h0, h1⟩
 cases o23 with
 | nx _ => exact True.intro
 | rt r_ =>
  have hs := after_rt hs
  intro c8 a5 hK
  cases hs
  exact hK
 | br s19 =>
  have hs := after_br hs
  rintro c8 a0 ⟨σ, rfl, hC, hO, h0, h1⟩
  refine c_sr ?_
  refine pl_val (.bool false) (y_assign rfl) ?_
  refine c_nil ?_
  refine wp_ret ?_
  cases hs
  exact ⟨_, fr_ovl 30 ⟨rfl, trivial⟩, hC⟩

def k_spec_l1Same (M : Nat → Prop) (w0 : World) (r : Bool) (a : Act) (w : World) : Prop :=
  ∃ (σ : Nat → Value) , a = fr 26 (ovl σ [(4, (.bool r))]) ∧ Chg [] w0 w
def s_spec_l1Same (a_ : List Int) (b : List Int) : Option (Bool) :=
  (bif ((a_.length : Int) != (b.length : Int)) then some false else (forC (S := Unit) (R := Bool) (fun k12 s10 =>
  (idx a_ k12).bind fun x17 =>
  (idx b k12).bind fun x19 =>
  (bif (x17 != x19) then some (.rt false) else some (.nx ()))) 0 (a_.length : Int) ()).bind fun o14 => after o14 (fun r_ => some r_) (fun s10 =>
  some true))
set_option maxHeartbeats 4000000 in
theorem c_spec_l1Same {M : Nat → Prop} {w : World} {pa0 : Option Addr} {pn0 pc0 : Nat} {pa1 : Option Addr} {pn1 pc1 : Nat} (a_ : List Int) (b : List Int) (h0 : (RT.rs (RT.int .i64)).val M w (.slice pa0 pn0 pc0) a_ ([])) (h1 : (RT.rs (RT.int .i64)).val M w (.slice pa1 pn1 pc1) b ([])) (hM : ∀ g, w.heap.size ≤ g → M g) {r : Bool} (hs : s_spec_l1Same a_ b = some r) :
    Gives Try.prog 46 [(.slice pa0 pn0 pc0), (.slice pa1 pn1 pc1)] w (fun v w' => v = (.bool r) ∧ Chg [] w w') := by
 refine calls_fr Try.func46 rfl Try.ntmps46 (Nat.le_of_ble_eq_true rfl) ?_
 have hO := Own.start (N := Nw w []) hM Nw.fut
 have hC := Chg.refl [] w
 unfold s_spec_l1Same at hs
 refine wp_mono (Q := KPost (k_spec_l1Same M w r)) ?_ (fun e a a4 h => ?_)
 rotate_left
 ·cases e
  case ret =>
   obtain ⟨σ, rfl, hrest⟩ := h
   exact ret1x Try.results46 (res_tmp rfl) ⟨rfl, hrest⟩
  all_goals exact (h : False).elim
 refine c_sr ?_
 refine pl_val (.bool false) (y_assign rfl) ?_
 refine c_nil ?_
 refine c_seq ?_
 refine c_sr ?_
 refine pl_val (.slice pa0 pn0 pc0) (y_move rfl) ?_
 refine pl_val (.int .i64 (a_.length : Int)) (y_len' Sl25 (rs_len h0) rfl) ?_
 refine pl_val (.slice pa1 pn1 pc1) (y_move rfl) ?_
 refine pl_val (.int .i64 (b.length : Int)) (y_len' Sl25 (rs_len h1) rfl) ?_
 refine pl_val (.bool ((a_.length : Int) != (b.length : Int))) (y_neq rfl rfl) ?_
 refine c_nil ?_
 rcases bif_some hs with ⟨a2, hs⟩ | ⟨a2, hs⟩
 ·refine c_condT (congrArg Value.bool a2) ?_
  refine c_sr ?_
  refine pl_val (.bool false) (y_assign rfl) ?_
  refine c_nil ?_
  refine wp_ret ?_
  cases hs
  exact ⟨_, fr_ovl 26 ⟨rfl, trivial⟩, hC⟩
 refine c_condF (congrArg Value.bool a2) ?_
 refine wp_skip ?_
 refine c_seq ?_
 refine c_sr ?_
 refine pl_val (.int .i64 0) (y_assign rfl) ?_
 refine c_nil ?_
 obtain ⟨o14, a5, hs⟩ := bind_some hs
 refine wp_block ?_
 refine wp_forC (id := 0) (a_.length : Int) (I := fun k12 s10 a a0 => ∃ (σ : Nat → Value), a = fr 26 (ovl σ [(0, (.slice pa0 pn0 pc0)), (1, (.slice pa1 pn1 pc1)), (5, (.int .i64 k12))]) ∧ Chg [] w a0 ∧ Own (Nw w []) M a0 ([]) ∧ (RT.rs (RT.int .i64)).val M a0 (.slice pa0 pn0 pc0) a_ ([]) ∧ (RT.rs (RT.int .i64)).val M a0 (.slice pa1 pn1 pc1) b ([])) (J := fun s10 a a0 => ∃ (σ : Nat → Value), a = fr 26 (ovl σ []) ∧ Chg [] w a0 ∧ Own (Nw w []) M a0 ([]) ∧ (RT.rs (RT.int .i64)).val M a0 (.slice pa0 pn0 pc0) a_ ([]) ∧ (RT.rs (RT.int .i64)).val M a0 (.slice pa1 pn1 pc1) b ([])) (K := (k_spec_l1Same M w)) ?_ ?_ 0 () o14 _ _ ?_ a5 ?_
 ·rintro k12 s10 a a0 ⟨σ, rfl, hC, hO, h0, h1⟩ hlt
  refine c_seq ?_
  refine c_sr ?_
  refine pl_val (.int .i64 k12) (y_move rfl) ?_
  refine pl_val (.slice pa0 pn0 pc0) (y_move rfl) ?_
  refine pl_val (.int .i64 (a_.length : Int)) (y_len' Sl25 (rs_len h0) rfl) ?_
  refine pl_val (.bool (decide (k12 < (a_.length : Int)))) (y_lss rfl rfl) ?_
  refine c_nil ?_
  refine c_condF (congrArg Value.bool (decide_eq_false hlt)) ?_
  refine wp_exit ?_
  exact ⟨rfl, _, fr_ovl 26 trivial, hC, hO, h0, h1⟩
 ·rintro k12 s10 o14 a a0 ⟨σ, rfl, hC, hO, h0, h1⟩ hlt hw hs
  refine c_seq ?_
  refine c_sr ?_
  refine pl_val (.int .i64 k12) (y_move rfl) ?_
  refine pl_val (.slice pa0 pn0 pc0) (y_move rfl) ?_
  refine pl_val (.int .i64 (a_.length : Int)) (y_len' Sl25 (rs_len h0) rfl) ?_
  refine pl_val (.bool (decide (k12 < (a_.length : Int)))) (y_lss rfl rfl) ?_
  refine c_nil ?_
  refine c_condT (congrArg Value.bool (decide_eq_true hlt)) ?_
  refine wp_skip ?_
  refine c_seq ?_
  refine wp_block ?_
  refine c_seq ?_
  refine x_start [] Mx rfl ?_
  have a1 := Chg.drew a0
  generalize World.drew a0 = a6 at a1 ⊢
  have h0 := h0.ext a1
  have h1 := h1.ext a1
  have hC := hC.ext a1
  have hO := hO.ext a1
  have hS := Chg.refl [] a6
  refine x_p 0 (.slice pa0 pn0 pc0) rfl (by kernel_rfl)  (fun _ => y_move rfl) (fun _ => hS) ?_
  refine x_p 1 (.int .i64 k12) rfl (by kernel_rfl)  (fun _ => y_move rfl) (fun _ => hS) ?_
  obtain ⟨x17, a7, hs⟩ := bind_some hs
  obtain ⟨a8, a9, b0, b1⟩ := rs_idx Sl25 Sz3 h0 a7
  refine x_p 2 (.pointer (some ⟨a8, a9, none⟩)) rfl (by kernel_rfl)  (fun _ => b0 _ _ _ _ _ _ _ _ _ rfl rfl) (fun _ => hS) ?_
  refine x_l 3 (.int .i64 x17) rfl (by kernel_rfl)  (fun w' hw' => y_load rfl ((at_load_int Ag3 Sz3 b1) w' hw')) hS ?_
  refine x_p 4 (.slice pa1 pn1 pc1) rfl (by kernel_rfl)  (fun _ => y_move rfl) (fun _ => hS) ?_
  refine x_p 5 (.int .i64 k12) rfl (by kernel_rfl)  (fun _ => y_move rfl) (fun _ => hS) ?_
  obtain ⟨x19, b2, hs⟩ := bind_some hs
  obtain ⟨b3, b4, b5, b6⟩ := rs_idx Sl25 Sz3 h1 b2
  refine x_p 6 (.pointer (some ⟨b3, b4, none⟩)) rfl (by kernel_rfl)  (fun _ => b5 _ _ _ _ _ _ _ _ _ rfl rfl) (fun _ => hS) ?_
  refine x_l 7 (.int .i64 x19) rfl (by kernel_rfl)  (fun w' hw' => y_load rfl ((at_load_int Ag3 Sz3 b6) w' hw')) hS ?_
  refine x_p 8 (.bool (x17 != x19)) rfl (by kernel_rfl)  (fun _ => y_neq rfl rfl) (fun _ => hS) ?_
  refine x_end (by kernel_rfl) ?_
  clear hS
  rcases bif_some hs with ⟨a3, hs⟩ | ⟨a3, hs⟩
  ·refine c_condT (congrArg Value.bool a3) ?_
   refine c_sr ?_
   refine pl_val (.bool false) (y_assign rfl) ?_
   refine c_nil ?_
   refine wp_ret ?_
   cases hs
   exact ⟨_, fr_ovl 26 ⟨rfl, trivial⟩, hC⟩
  refine c_condF (congrArg Value.bool a3) ?_
  refine wp_skip ?_
  refine c_region ?_
  refine pl_val (.int .i64 k12) (y_move rfl) ?_
  refine pl_val (.int .i64 (w64 (k12 + 1))) (y_add rfl rfl) ?_
  refine pl_val (.int .i64 (w64 (k12 + 1))) (y_assign rfl) ?_
  refine c_nil ?_
  cases hs
  exact ⟨_, fr_ovl 26 ⟨rfl, rfl, congrArg (Value.int .i64) hw, trivial⟩, hC, hO, h0, h1⟩
 ·skip
  exact ⟨_, fr_ovl 26 ⟨rfl, rfl, rfl, trivial⟩, hC, hO, h0, h1⟩
 cases o14 with
 | nx _ => exact True.intro
 | rt r_ =>
  have hs := after_rt hs
  intro b7 a4 hK
  cases hs
  exact hK
 | br s10 =>
  have hs := after_br hs
  rintro b7 a0 ⟨σ, rfl, hC, hO, h0, h1⟩
  refine c_sr ?_
  refine pl_val (.bool true) (y_assign rfl) ?_
  refine c_nil ?_
  refine wp_ret ?_
  cases hs
  exact ⟨_, fr_ovl 26 ⟨rfl, trivial⟩, hC⟩

theorem Sl43 : SlT Try.prog 43 25 := Try.underlying43

theorem Sz25 : SzT Try.prog 25 1 := ⟨_, rfl, rfl⟩

theorem Ag25 : AggT Try.prog 25 false := fun _ => by kernel_rfl

theorem Bd98 : Bodied Try.prog 98 := bodied Try.func98 (by kernel_rfl) rfl

theorem Bd46 : Bodied Try.prog 46 := bodied Try.func46 (by kernel_rfl) rfl

def k_spec_l8Find (M : Nat → Prop) (w0 : World) (r : Int × Bool) (a : Act) (w : World) : Prop :=
  ∃ (σ : Nat → Value) , a = fr 40 (ovl σ [(4, (.int .i64 r.1)), (5, (.bool r.2))]) ∧ Chg [] w0 w
def s_spec_l8Find (list : List (List Int)) (t : List Int) : Option (Int × Bool) :=
  (iter (S := Int × Int) (R := Int × Bool) (fun s11 =>
  (bif (decide (s11.1 < s11.2)) then (idx list (w64 (Int.tdiv (w64 (s11.1 + s11.2)) 2))).bind fun x18 =>
  (s_spec_l3Less x18 t).bind fun r23 =>
  (bif r23 then some (.nx (w64 ((w64 (Int.tdiv (w64 (s11.1 + s11.2)) 2)) + 1), s11.2)) else some (.nx (s11.1, w64 (Int.tdiv (w64 (s11.1 + s11.2)) 2)))) else some (.br (s11.1, s11.2)))) FU (0, (list.length : Int))).bind fun o15 => after o15 (fun r_ => some r_) (fun s11 =>
  (bif (decide (s11.1 < (list.length : Int))) then (idx list s11.1).bind fun x26 =>
  (s_spec_l1Same x26 t).bind fun r31 =>
  some (s11.1, r31) else some (s11.1, false)))
set_option maxHeartbeats 4000000 in
theorem c_spec_l8Find {M : Nat → Prop} {w : World} {pa0 : Option Addr} {pn0 pc0 : Nat} {pa1 : Option Addr} {pn1 pc1 : Nat} (list : List (List Int)) (t : List Int) (h0 : (RT.rs (RT.rs (RT.int .i64))).val M w (.slice pa0 pn0 pc0) list ([])) (h1 : (RT.rs (RT.int .i64)).val M w (.slice pa1 pn1 pc1) t ([])) (hM : ∀ g, w.heap.size ≤ g → M g) {r : Int × Bool} (hs : s_spec_l8Find list t = some r) :
    Gives Try.prog 81 [(.slice pa0 pn0 pc0), (.slice pa1 pn1 pc1)] w (fun v w' => v = (.tuple #[(.int .i64 r.1), (.bool r.2)]) ∧ Chg [] w w') := by
 refine calls_fr Try.func81 rfl Try.ntmps81 (Nat.le_of_ble_eq_true rfl) ?_
 have hO := Own.start (N := Nw w []) hM Nw.fut
 have hC := Chg.refl [] w
 unfold s_spec_l8Find at hs
 refine wp_mono (Q := KPost (k_spec_l8Find M w r)) ?_ (fun e a a8 h => ?_)
 rotate_left
 ·cases e
  case ret =>
   obtain ⟨σ, rfl, hrest⟩ := h
   exact ret2x Try.results81 (res_tmp rfl) (res_tmp rfl) ⟨rfl, hrest⟩
  all_goals exact (h : False).elim
 refine c_sr ?_
 refine pl_val (.int .i64 0) (y_assign rfl) ?_
 refine pl_val (.bool false) (y_assign rfl) ?_
 refine c_nil ?_
 refine c_sr ?_
 refine pl_val (.slice pa0 pn0 pc0) (y_move rfl) ?_
 refine pl_val (.int .i64 (list.length : Int)) (y_len' Sl43 (rs_len h0) rfl) ?_
 refine pl_val (.int .i64 0) (y_assign rfl) ?_
 refine pl_val (.int .i64 (list.length : Int)) (y_assign rfl) ?_
 refine c_nil ?_
 refine c_seq ?_
 obtain ⟨o15, a9, hs⟩ := bind_some hs
 refine wp_block ?_
 refine wp_iter (id := 0) (I := fun s11 a a1 => ∃ (σ : Nat → Value), a = fr 40 (ovl σ [(0, (.slice pa0 pn0 pc0)), (1, (.slice pa1 pn1 pc1)), (6, (.int .i64 s11.1)), (7, (.int .i64 s11.2))]) ∧ Chg [] w a1 ∧ Own (Nw w []) M a1 ([]) ∧ (RT.rs (RT.rs (RT.int .i64))).val M a1 (.slice pa0 pn0 pc0) list ([]) ∧ (RT.rs (RT.int .i64)).val M a1 (.slice pa1 pn1 pc1) t ([])) (J := fun s11 a a1 => ∃ (σ : Nat → Value), a = fr 40 (ovl σ [(0, (.slice pa0 pn0 pc0)), (1, (.slice pa1 pn1 pc1)), (6, (.int .i64 s11.1))]) ∧ Chg [] w a1 ∧ Own (Nw w []) M a1 ([]) ∧ (RT.rs (RT.rs (RT.int .i64))).val M a1 (.slice pa0 pn0 pc0) list ([]) ∧ (RT.rs (RT.int .i64)).val M a1 (.slice pa1 pn1 pc1) t ([])) (K := (k_spec_l8Find M w)) ?_ FU (0, (list.length : Int)) o15 _ _ ?_ a9 ?_
 ·rintro s11 o15 a a1 ⟨σ, rfl, hC, hO, h0, h1⟩ hs
  refine c_seq ?_
  refine c_sr ?_
  refine pl_val (.int .i64 s11.1) (y_move rfl) ?_
  refine pl_val (.int .i64 s11.2) (y_move rfl) ?_
  refine pl_val (.bool (decide (s11.1 < s11.2))) (y_lss rfl rfl) ?_
  refine c_nil ?_
  rcases bif_some hs with ⟨a6, hs⟩ | ⟨a6, hs⟩
  ·refine c_condT (congrArg Value.bool a6) ?_
   refine wp_skip ?_
   refine wp_block ?_
   refine c_sr ?_
   refine pl_val (.int .i64 s11.1) (y_move rfl) ?_
   refine pl_val (.int .i64 s11.2) (y_move rfl) ?_
   refine pl_val (.int .i64 (w64 (s11.1 + s11.2))) (y_add rfl rfl) ?_
   refine pl_val (.int .i64 (w64 (Int.tdiv (w64 (s11.1 + s11.2)) 2))) (y_quo rfl rfl (by decide)) ?_
   refine pl_val (.int .i64 (w64 (Int.tdiv (w64 (s11.1 + s11.2)) 2))) (y_assign rfl) ?_
   refine c_nil ?_
   refine c_sr ?_
   refine pl_val (.slice pa0 pn0 pc0) (y_move rfl) ?_
   refine pl_val (.int .i64 (w64 (Int.tdiv (w64 (s11.1 + s11.2)) 2))) (y_move rfl) ?_
   obtain ⟨x18, b0, hs⟩ := bind_some hs
   obtain ⟨b1, b2, b3, b4⟩ := rs_idx Sl43 Sz25 h0 b0
   refine pl_val (.pointer (some ⟨b1, b2, none⟩)) (b3 _ _ _ _ _ _ _ _ _ rfl rfl) ?_
   obtain ⟨d1, b5, a4⟩ := at_load Ag25 Sz25 (fun _ => rfl) b4
   obtain ⟨b6, b7, b8, rfl⟩ := rs_sl a4
   refine pl_val (.slice b6 b7 b8) (y_load rfl (b5 _ (Chg.refl _ _))) ?_
   refine pl_val (.slice pa1 pn1 pc1) (y_move rfl) ?_
   obtain ⟨r23, b9, hs⟩ := bind_some hs
   refine pl_call Bd98 rfl (c_spec_l3Less (M := M) x18 t a4 h1 hO.fut b9) ?_
   rintro _ d2 ⟨rfl, a2⟩
   have h0 := h0.ext a2
   have h1 := h1.ext a2
   have a4 := a4.ext a2
   have hC := hC.ext a2
   have hO := hO.ext a2
   refine c_nil ?_
   rcases bif_some hs with ⟨a7, hs⟩ | ⟨a7, hs⟩
   ·refine c_condT (congrArg Value.bool a7) ?_
    refine c_region ?_
    refine pl_val (.int .i64 (w64 (Int.tdiv (w64 (s11.1 + s11.2)) 2))) (y_move rfl) ?_
    refine pl_val (.int .i64 (w64 ((w64 (Int.tdiv (w64 (s11.1 + s11.2)) 2)) + 1))) (y_add rfl rfl) ?_
    refine pl_val (.int .i64 (w64 ((w64 (Int.tdiv (w64 (s11.1 + s11.2)) 2)) + 1))) (y_assign rfl) ?_
    refine c_nil ?_
    cases hs
    exact ⟨_, fr_ovl 40 ⟨rfl, rfl, rfl, rfl, trivial⟩, hC, hO, h0, h1⟩
   refine c_condF (congrArg Value.bool a7) ?_
   refine c_region ?_
   refine pl_val (.int .i64 (w64 (Int.tdiv (w64 (s11.1 + s11.2)) 2))) (y_move rfl) ?_
   refine pl_val (.int .i64 (w64 (Int.tdiv (w64 (s11.1 + s11.2)) 2))) (y_assign rfl) ?_
   refine c_nil ?_
   cases hs
   exact ⟨_, fr_ovl 40 ⟨rfl, rfl, rfl, rfl, trivial⟩, hC, hO, h0, h1⟩
  refine c_condF (congrArg Value.bool a6) ?_
  refine wp_exit ?_
  cases hs
  exact ⟨rfl, _, fr_ovl 40 ⟨rfl, rfl, rfl, trivial⟩, hC, hO, h0, h1⟩
 ·skip
  exact ⟨_, fr_ovl 40 ⟨rfl, rfl, rfl, rfl, trivial⟩, hC, hO, h0, h1⟩
 cases o15 with
 | nx _ => exact True.intro
 | rt r_ =>
  have hs := after_rt hs
  intro c0 a8 hK
  cases hs
  exact hK
 | br s11 =>
  have hs := after_br hs
  rintro c0 a1 ⟨σ, rfl, hC, hO, h0, h1⟩
  refine c_sr ?_
  refine pl_val (.int .i64 s11.1) (y_move rfl) ?_
  refine pl_val (.int .i64 s11.1) (y_move rfl) ?_
  refine pl_val (.slice pa0 pn0 pc0) (y_move rfl) ?_
  refine pl_val (.int .i64 (list.length : Int)) (y_len' Sl43 (rs_len h0) rfl) ?_
  refine pl_val (.bool (decide (s11.1 < (list.length : Int)))) (y_lss rfl rfl) ?_
  refine pl_val (.bool (decide (s11.1 < (list.length : Int)))) (y_move rfl) ?_
  rcases bif_some hs with ⟨a0, hs⟩ | ⟨a0, hs⟩
  ·skip
   refine pl_yes (.slice pa0 pn0 pc0) (tg := 32) (by kernel_rfl) (congrArg Value.bool a0) (y_move rfl) ?_
   refine pl_yes (.int .i64 s11.1) (tg := 32) (by kernel_rfl) (congrArg Value.bool a0) (y_move rfl) ?_
   obtain ⟨x26, c1, hs⟩ := bind_some hs
   obtain ⟨c2, c3, c4, c5⟩ := rs_idx Sl43 Sz25 h0 c1
   refine pl_yes (.pointer (some ⟨c2, c3, none⟩)) (tg := 32) (by kernel_rfl) (congrArg Value.bool a0) (c4 _ _ _ _ _ _ _ _ _ rfl rfl) ?_
   obtain ⟨d3, c6, a5⟩ := at_load Ag25 Sz25 (fun _ => rfl) c5
   obtain ⟨c7, c8, c9, rfl⟩ := rs_sl a5
   refine pl_yes (.slice c7 c8 c9) (tg := 32) (by kernel_rfl) (congrArg Value.bool a0) (y_load rfl (c6 _ (Chg.refl _ _))) ?_
   refine pl_yes (.slice pa1 pn1 pc1) (tg := 32) (by kernel_rfl) (congrArg Value.bool a0) (y_move rfl) ?_
   obtain ⟨r31, d0, hs⟩ := bind_some hs
   refine pl_cally (tg := 32) (by kernel_rfl) (congrArg Value.bool a0) Bd46 rfl (c_spec_l1Same (M := M) x26 t a5 h1 hO.fut d0) ?_
   rintro _ d4 ⟨rfl, a3⟩
   have h0 := h0.ext a3
   have h1 := h1.ext a3
   have a5 := a5.ext a3
   have hC := hC.ext a3
   have hO := hO.ext a3
   refine pl_val (.bool r31) (y_pick_t (congrArg Value.bool a0) rfl) ?_
   refine pl_val (.int .i64 s11.1) (y_assign rfl) ?_
   refine pl_val (.bool r31) (y_assign rfl) ?_
   refine c_nil ?_
   refine wp_ret ?_
   cases hs
   exact ⟨_, fr_ovl 40 ⟨rfl, rfl, trivial⟩, hC⟩
  refine pl_not (tg := 32) (by kernel_rfl) (congrArg Value.bool a0) ?_
  refine pl_not (tg := 32) (by kernel_rfl) (congrArg Value.bool a0) ?_
  refine pl_not (tg := 32) (by kernel_rfl) (congrArg Value.bool a0) ?_
  refine pl_not (tg := 32) (by kernel_rfl) (congrArg Value.bool a0) ?_
  refine pl_not (tg := 32) (by kernel_rfl) (congrArg Value.bool a0) ?_
  refine pl_not (tg := 32) (by kernel_rfl) (congrArg Value.bool a0) ?_
  refine pl_val (.bool false) (y_pick_f (congrArg Value.bool a0) rfl) ?_
  refine pl_val (.int .i64 s11.1) (y_assign rfl) ?_
  refine pl_val (.bool false) (y_assign rfl) ?_
  refine c_nil ?_
  refine wp_ret ?_
  cases hs
  exact ⟨_, fr_ovl 40 ⟨rfl, rfl, trivial⟩, hC⟩

theorem Fa45x0 : ∀ (a : Addr) (w : World), (Instr.fieldAt 45 (.pointer (some a)) 0).run Try.prog w = .ok (.pointer (some (a.add 0))) w := fun _ _ => by kernel_rfl

theorem Bd81 : Bodied Try.prog 81 := bodied Try.func81 (by kernel_rfl) rfl

def k_spec_l13Has (M : Nat → Prop) (w0 : World) (r : Bool) (a : Act) (w : World) : Prop :=
  ∃ (σ : Nat → Value) , a = fr 20 (ovl σ [(4, (.bool r))]) ∧ Chg [] w0 w
def s_spec_l13Has (r_ : Int × (List (List Int))) (t : List Int) : Option (Bool) :=
  (bif ((t.length : Int) != r_.1) then some false else (s_spec_l8Find r_.2 t).bind fun r6 =>
  some r6.2)
set_option maxHeartbeats 4000000 in
theorem c_spec_l13Has {M : Nat → Prop} {w : World} {pa0 : Option Addr} {pn0 pc0 : Nat} {pa1 : Option Addr} {pn1 pc1 : Nat} (r_ : Int × (List (List Int))) (t : List Int) (h0 : (RT.rs (RT.rs (RT.int .i64))).val M w (.slice pa0 pn0 pc0) r_.2 ([])) (h1 : (RT.rs (RT.int .i64)).val M w (.slice pa1 pn1 pc1) t ([])) (hM : ∀ g, w.heap.size ≤ g → M g) {r : Bool} (hs : s_spec_l13Has r_ t = some r) :
    Gives Try.prog 52 [(.agg #[(.int .i64 r_.1), (.slice pa0 pn0 pc0)]), (.slice pa1 pn1 pc1)] w (fun v w' => v = (.bool r) ∧ Chg [] w w') := by
 refine calls_fr Try.func52 rfl Try.ntmps52 (Nat.le_of_ble_eq_true rfl) ?_
 have hO := Own.start (N := Nw w []) hM Nw.fut
 have hC := Chg.refl [] w
 unfold s_spec_l13Has at hs
 refine wp_mono (Q := KPost (k_spec_l13Has M w r)) ?_ (fun e a a9 h => ?_)
 rotate_left
 ·cases e
  case ret =>
   obtain ⟨σ, rfl, hrest⟩ := h
   exact ret1x Try.results52 (res_tmp rfl) ⟨rfl, hrest⟩
  all_goals exact (h : False).elim
 refine c_sr ?_
 obtain ⟨a6, a3, a7, a5, a2, a0⟩ := new_block w [(.int .i64 r_.1), (.slice pa0 pn0 pc0)] 45
 refine pl_val (w' := a6) (.pointer (some ⟨a3, 0, none⟩)) (y_box rfl (by rw [a7, a5]; kernel_rfl)) ?_
 have h0 := h0.ext a2
 have h1 := h1.ext a2
 have hC := hC.ext a2
 have hO := hO.new1 a2 a5 a0.lt
 refine pl_val (.bool false) (y_assign rfl) ?_
 refine c_nil ?_
 refine c_seq ?_
 refine c_sr ?_
 refine pl_val (.slice pa1 pn1 pc1) (y_move rfl) ?_
 refine pl_val (.int .i64 (t.length : Int)) (y_len' Sl25 (rs_len h1) rfl) ?_
 refine pl_val (.pointer (some ⟨a3, 0, none⟩)) (y_faddr rfl Fa45x0) ?_
 refine pl_val (.int .i64 r_.1) (y_load rfl ((box_load Ag3 Sz3 a0 [] [(.int .i64 r_.1)] [(.slice pa0 pn0 pc0)] rfl rfl (fun _ => rfl)) _ (Chg.refl _ _))) ?_
 refine pl_val (.bool ((t.length : Int) != r_.1)) (y_neq rfl rfl) ?_
 refine c_nil ?_
 rcases bif_some hs with ⟨a4, hs⟩ | ⟨a4, hs⟩
 ·refine c_condT (congrArg Value.bool a4) ?_
  refine c_sr ?_
  refine pl_val (.bool false) (y_assign rfl) ?_
  refine c_nil ?_
  refine wp_ret ?_
  cases hs
  exact ⟨_, fr_ovl 20 ⟨rfl, trivial⟩, hC⟩
 refine c_condF (congrArg Value.bool a4) ?_
 refine wp_skip ?_
 refine c_sr ?_
 refine pl_val (.pointer (some ⟨a3, 1, none⟩)) (y_faddr rfl Fa45x1) ?_
 refine pl_val (.slice pa0 pn0 pc0) (y_load rfl ((box_load Ag43 Sz43 a0 [(.int .i64 r_.1)] [(.slice pa0 pn0 pc0)] [] rfl rfl (fun _ => rfl)) _ (Chg.refl _ _))) ?_
 refine pl_val (.slice pa1 pn1 pc1) (y_move rfl) ?_
 obtain ⟨r6, a8, hs⟩ := bind_some hs
 refine pl_call Bd81 rfl (c_spec_l8Find (M := M) r_.2 t h0 h1 hO.fut a8) ?_
 rintro _ b0 ⟨rfl, a1⟩
 have h0 := h0.ext a1
 have h1 := h1.ext a1
 have a0 := a0.cn a1
 have hC := hC.ext a1
 have hO := hO.ext a1
 refine pl_val (.tuple #[(.int .i64 r6.1), (.bool r6.2)]) (y_move rfl) ?_
 refine pl_val (.int .i64 r6.1) (y_extract rfl (by kernel_rfl)) ?_
 refine pl_val (.bool r6.2) (y_extract rfl (by kernel_rfl)) ?_
 refine pl_val (.int .i64 r6.1) (y_assign rfl) ?_
 refine pl_val (.bool r6.2) (y_assign rfl) ?_
 refine c_nil ?_
 refine c_sr ?_
 refine pl_val (.bool r6.2) (y_move rfl) ?_
 refine pl_val (.bool r6.2) (y_assign rfl) ?_
 refine c_nil ?_
 refine wp_ret ?_
 cases hs
 exact ⟨_, fr_ovl 20 ⟨rfl, trivial⟩, hC⟩

theorem Bd52 : Bodied Try.prog 52 := bodied Try.func52 (by kernel_rfl) rfl

def k_spec_l13Compose (M : Nat → Prop) (w0 : World) (r : (Int × (List (List Int)))) (a : Act) (w : World) : Prop :=
  ∃ (σ : Nat → Value) (rg6 : Nat) (ra0 : Option Addr) (rn0 rc0 : Nat) (rf0 : List Nat), a = fr 55 (ovl σ [(6, (.pointer (some ⟨rg6, 0, none⟩)))]) ∧ BoxV w rg6 45 [(.int .i64 r.1), (.slice ra0 rn0 rc0)] ∧ Chg [] w0 w ∧ (RT.os 25 (RT.os 3 (RT.int .i64))).val M w (.slice ra0 rn0 rc0) r.2 rf0 ∧ Own (Nw w0 []) (fun _ => True) w (rf0 ++ ([]))
def s_spec_l13Compose (n : Int) (r_ : Int × (List (List Int))) (s_ : Int × (List (List Int))) : Option ((Int × (List (List Int)))) :=
  (forC (S := (List (List Int))) (R := (Int × (List (List Int)))) (fun k296 s294 =>
  (forC (S := (List (List Int))) (R := (Int × (List (List Int)))) (fun k394 s392 =>
  (iter (S := Bool × Int) (R := (Int × (List (List Int)))) (fun s416 =>
  (bif ((decide (s416.2 < n)) && (!s416.1)) then (s_spec_l13Has (r_.1, r_.2) ([k296, s416.2])).bind fun r430 =>
  (bif r430 then (s_spec_l13Has (s_.1, s_.2) ([s416.2, k394])).bind fun r435 =>
  some (.nx (r435, w64 (s416.2 + 1))) else some (.nx (false, w64 (s416.2 + 1)))) else some (.br (s416.1, s416.2)))) FU (false, 0)).bind fun o420 => after o420 (fun r_ => some (.rt r_)) (fun s416 =>
  (bif s416.1 then (app s392 ([[k296, k394]])).bind fun y442 =>
  some (.nx y442) else some (.nx s392)))) 0 n s294).bind fun o396 => after o396 (fun r_ => some (.rt r_)) (fun s392 =>
  some (.nx s392))) 0 n ([])).bind fun o298 => after o298 (fun r_ => some r_) (fun s294 =>
  some (2, s294))
set_option maxHeartbeats 4000000 in
theorem c_spec_l13Compose {M : Nat → Prop} {w : World} {pa0 : Option Addr} {pn0 pc0 : Nat} {pa1 : Option Addr} {pn1 pc1 : Nat} (n : Int) (r_ : Int × (List (List Int))) (s_ : Int × (List (List Int))) (h0 : (RT.rs (RT.rs (RT.int .i64))).val M w (.slice pa0 pn0 pc0) r_.2 ([])) (h1 : (RT.rs (RT.rs (RT.int .i64))).val M w (.slice pa1 pn1 pc1) s_.2 ([])) (hM : ∀ g, w.heap.size ≤ g → M g) {r : (Int × (List (List Int)))} (hs : s_spec_l13Compose n r_ s_ = some r) :
    Gives Try.prog 79 [(.int .i64 n), (.agg #[(.int .i64 r_.1), (.slice pa0 pn0 pc0)]), (.agg #[(.int .i64 s_.1), (.slice pa1 pn1 pc1)])] w (fun v w' => ∃ (ra0 : Option Addr) (rn0 rc0 : Nat) (rf0 : List Nat), v = (.agg #[(.int .i64 r.1), (.slice ra0 rn0 rc0)]) ∧ Chg [] w w' ∧ (RT.os 25 (RT.os 3 (RT.int .i64))).val M w' (.slice ra0 rn0 rc0) r.2 rf0 ∧ Own (Nw w []) (fun _ => True) w' (rf0 ++ ([]))) := by
 refine calls_fr Try.func79 rfl Try.ntmps79 (Nat.le_of_ble_eq_true rfl) ?_
 have hO := Own.start (N := Nw w []) hM Nw.fut
 have hC := Chg.refl [] w
 unfold s_spec_l13Compose at hs
 refine wp_mono (Q := KPost (k_spec_l13Compose M w r)) ?_ (fun e a g1 h => ?_)
 rotate_left
 ·cases e
  case ret =>
   obtain ⟨σ, rg6, ra0, rn0, rc0, rf0, rfl, hbrg6, hrest⟩ := h
   exact ret1x Try.results79 (res_cell rfl (box_load Ag45 Sz45 hbrg6 [] _ [] rfl rfl (fun h => nomatch h))) ⟨ra0, rn0, rc0, rf0, rfl, hrest⟩
  all_goals exact (h : False).elim
 refine c_sr ?_
 obtain ⟨h4, b0, j9, h5, e9, a0⟩ := new_block w [(.int .i64 r_.1), (.slice pa0 pn0 pc0)] 45
 refine pl_val (w' := h4) (.pointer (some ⟨b0, 0, none⟩)) (y_box rfl (by rw [j9, h5]; kernel_rfl)) ?_
 have h0 := h0.ext e9
 have h1 := h1.ext e9
 have hC := hC.ext e9
 have hO := hO.new1 e9 h5 a0.lt
 obtain ⟨h6, b1, k0, h7, e5, a1⟩ := new_block h4 [(.int .i64 s_.1), (.slice pa1 pn1 pc1)] 45
 refine pl_val (w' := h6) (.pointer (some ⟨b1, 0, none⟩)) (y_box rfl (by rw [k0, h7]; kernel_rfl)) ?_
 have h0 := h0.ext e5
 have h1 := h1.ext e5
 have a0 := a0.cn e5
 have hC := hC.ext e5
 have hO := hO.new1 e5 h7 a1.lt
 obtain ⟨h8, a7, k1, h9, d9, a2⟩ := new_block h6 [(.int .i64 0), (.slice none 0 0)] 45
 refine pl_val (w' := h8) (.pointer (some ⟨a7, 0, none⟩)) (y_alloc (by rw [k1, h9]; kernel_rfl)) ?_
 have h0 := h0.ext d9
 have h1 := h1.ext d9
 have a0 := a0.cn d9
 have a1 := a1.cn d9
 have hC := hC.ext d9
 have hO := hO.new1 d9 h9 a2.lt
 refine c_nil ?_
 refine c_sr ?_
 obtain ⟨g2, c6, k2, i0, d6, i1⟩ := new_block h8 [] 25
 refine pl_val (w' := g2) (.slice (some ⟨c6, 0, none⟩) 0 0) (y_bslice rfl (by rw [k2, i0]; kernel_rfl)) ?_
 have h0 := h0.ext d6
 have h1 := h1.ext d6
 have a0 := a0.cn d6
 have a1 := a1.cn d6
 have a2 := a2.cn d6
 have hC := hC.ext d6
 have hO := hO.new1 d6 i0 i1.lt
 have d7 := os_of_box (r := (RT.os 3 (RT.int .i64))) (M := M) (css := []) (fps := []) (xs := ([] : List (List Int))) i1 trivial (Nat.zero_le _) (List.nodup_cons.2 ⟨(fun h => nomatch h), List.nodup_nil⟩)
 have d7 : (RT.os 25 (RT.os 3 (RT.int .i64))).val M g2 (.slice (some ⟨c6, 0, none⟩) 0 0) [] [c6] := d7
 refine pl_val (.agg #[(.int .i64 2), (.slice (some ⟨c6, 0, none⟩) 0 0)]) (y_build rfl (by kernel_rfl)) ?_
 obtain ⟨k3, a4, k4, i2, c7, i3⟩ := new_block g2 [(.int .i64 0), (.slice none 0 0)] 45
 refine pl_val (w' := k3) (.pointer (some ⟨a4, 0, none⟩)) (y_alloc (by rw [k4, i2]; kernel_rfl)) ?_
 have h0 := h0.ext c7
 have h1 := h1.ext c7
 have a0 := a0.cn c7
 have a1 := a1.cn c7
 have a2 := a2.cn c7
 have d7 := d7.ext c7
 have hC := hC.ext c7
 have hO := hO.new1 c7 i2 i3.lt
 obtain ⟨i4, k5, c8, a3⟩ := box_store (P := Try.prog) i3 [] [(.int .i64 0), (.slice none 0 0)] [] [(.int .i64 2), (.slice (some ⟨c6, 0, none⟩) 0 0)] rfl rfl (by intro u hu; simp only [List.mem_cons, List.not_mem_nil, or_false] at hu; rcases hu with rfl | rfl <;> rfl)
 refine pl_skip (w' := i4) (ys_store rfl rfl (k5 _ _ rfl Sz45)) ?_
 have h0 := h0.mt c8 hO same_
 have h1 := h1.mt c8 hO same_
 have a0 := a0.ap c8 hO same_ (mem_r (mem_r (mem_r (mem_l (List.mem_singleton.2 rfl)))))
 have a1 := a1.ap c8 hO same_ (mem_r (mem_r (mem_l (List.mem_singleton.2 rfl))))
 have a2 := a2.ap c8 hO same_ (mem_r (mem_l (List.mem_singleton.2 rfl)))
 have d7 := d7.ma c8 hO same_ (fun _ e => (mem_l (e)))
 have hC := hC.st c8 hO same_
 have hO := hO.ext c8
 have a3 : BoxV i4 a4 45 [(.int .i64 2), (.slice (some ⟨c6, 0, none⟩) 0 0)] := a3
 refine c_nil ?_
 refine c_seq ?_
 refine c_sr ?_
 refine pl_val (.int .i64 0) (y_assign rfl) ?_
 refine c_nil ?_
 obtain ⟨o298, k6, hs⟩ := bind_some hs
 refine wp_block ?_
 refine wp_forC (id := 0) n (I := fun k296 s294 a a8 => ∃ (σ : Nat → Value) (e0 : Option Addr) (e1 : Nat) (e2 : Nat) (e3 : List Nat), a = fr 55 (ovl σ [(0, (.int .i64 n)), (4, (.pointer (some ⟨b0, 0, none⟩))), (5, (.pointer (some ⟨b1, 0, none⟩))), (6, (.pointer (some ⟨a7, 0, none⟩))), (7, (.pointer (some ⟨a4, 0, none⟩))), (8, (.int .i64 k296))]) ∧ Chg [] w a8 ∧ Own (Nw w []) M a8 (e3 ++ (([a4]) ++ (([a7]) ++ (([b1]) ++ (([b0]) ++ []))))) ∧ (RT.rs (RT.rs (RT.int .i64))).val M a8 (.slice pa0 pn0 pc0) r_.2 ([]) ∧ (RT.rs (RT.rs (RT.int .i64))).val M a8 (.slice pa1 pn1 pc1) s_.2 ([]) ∧ BoxV a8 b0 45 [(.int .i64 r_.1), (.slice pa0 pn0 pc0)] ∧ BoxV a8 b1 45 [(.int .i64 s_.1), (.slice pa1 pn1 pc1)] ∧ BoxV a8 a7 45 [(.int .i64 0), (.slice none 0 0)] ∧ BoxV a8 a4 45 [(.int .i64 2), (.slice e0 e1 e2)] ∧ (RT.os 25 (RT.os 3 (RT.int .i64))).val M a8 (.slice e0 e1 e2) s294 e3) (J := fun s294 a a8 => ∃ (σ : Nat → Value) (c9 : Option Addr) (d0 : Nat) (d1 : Nat) (f0 : List Nat), a = fr 55 (ovl σ [(6, (.pointer (some ⟨a7, 0, none⟩))), (7, (.pointer (some ⟨a4, 0, none⟩)))]) ∧ Chg [] w a8 ∧ Own (Nw w []) M a8 (f0 ++ (([a4]) ++ (([a7]) ++ (([b1]) ++ (([b0]) ++ []))))) ∧ (RT.rs (RT.rs (RT.int .i64))).val M a8 (.slice pa0 pn0 pc0) r_.2 ([]) ∧ (RT.rs (RT.rs (RT.int .i64))).val M a8 (.slice pa1 pn1 pc1) s_.2 ([]) ∧ BoxV a8 b0 45 [(.int .i64 r_.1), (.slice pa0 pn0 pc0)] ∧ BoxV a8 b1 45 [(.int .i64 s_.1), (.slice pa1 pn1 pc1)] ∧ BoxV a8 a7 45 [(.int .i64 0), (.slice none 0 0)] ∧ BoxV a8 a4 45 [(.int .i64 2), (.slice c9 d0 d1)] ∧ (RT.os 25 (RT.os 3 (RT.int .i64))).val M a8 (.slice c9 d0 d1) s294 f0) (K := (k_spec_l13Compose M w)) ?_ ?_ 0 ([]) o298 _ _ ?_ k6 ?_
 ·rintro k296 s294 a a8 ⟨σ, e0, e1, e2, e3, rfl, hC, hO, h0, h1, a0, a1, a2, a3, g3⟩ hlt
  refine c_seq ?_
  refine c_sr ?_
  refine pl_val (.int .i64 k296) (y_move rfl) ?_
  refine pl_val (.int .i64 n) (y_move rfl) ?_
  refine pl_val (.bool (decide (k296 < n))) (y_lss rfl rfl) ?_
  refine c_nil ?_
  refine c_condF (congrArg Value.bool (decide_eq_false hlt)) ?_
  refine wp_exit ?_
  have hO := hO.fr4
  have hO := hO.fr4
  have hO := hO.fr4
  have hO := hO.fr4
  have hO := hO.fr4
  exact ⟨rfl, _, e0, e1, e2, e3, fr_ovl 55 ⟨rfl, rfl, trivial⟩, hC, hO, h0, h1, a0, a1, a2, a3, g3⟩
 ·rintro k296 s294 o298 a a8 ⟨σ, e0, e1, e2, e3, rfl, hC, hO, h0, h1, a0, a1, a2, a3, g3⟩ hlt hw hs
  refine c_seq ?_
  refine c_sr ?_
  refine pl_val (.int .i64 k296) (y_move rfl) ?_
  refine pl_val (.int .i64 n) (y_move rfl) ?_
  refine pl_val (.bool (decide (k296 < n))) (y_lss rfl rfl) ?_
  refine c_nil ?_
  refine c_condT (congrArg Value.bool (decide_eq_true hlt)) ?_
  refine wp_skip ?_
  refine c_seq ?_
  refine wp_block ?_
  refine c_sr ?_
  refine pl_val (.int .i64 0) (y_assign rfl) ?_
  refine c_nil ?_
  obtain ⟨o396, k7, hs⟩ := bind_some hs
  refine wp_block ?_
  refine wp_forC (id := 2) n (I := fun k394 s392 a a9 => ∃ (σ : Nat → Value) (b2 : Option Addr) (b3 : Nat) (b4 : Nat) (b6 : List Nat), a = fr 55 (ovl σ [(0, (.int .i64 n)), (4, (.pointer (some ⟨b0, 0, none⟩))), (5, (.pointer (some ⟨b1, 0, none⟩))), (6, (.pointer (some ⟨a7, 0, none⟩))), (7, (.pointer (some ⟨a4, 0, none⟩))), (8, (.int .i64 k296)), (9, (.int .i64 k394))]) ∧ Chg [] w a9 ∧ Own (Nw w []) M a9 (b6 ++ (([a4]) ++ (([a7]) ++ (([b1]) ++ (([b0]) ++ []))))) ∧ (RT.rs (RT.rs (RT.int .i64))).val M a9 (.slice pa0 pn0 pc0) r_.2 ([]) ∧ (RT.rs (RT.rs (RT.int .i64))).val M a9 (.slice pa1 pn1 pc1) s_.2 ([]) ∧ BoxV a9 b0 45 [(.int .i64 r_.1), (.slice pa0 pn0 pc0)] ∧ BoxV a9 b1 45 [(.int .i64 s_.1), (.slice pa1 pn1 pc1)] ∧ BoxV a9 a7 45 [(.int .i64 0), (.slice none 0 0)] ∧ BoxV a9 a4 45 [(.int .i64 2), (.slice b2 b3 b4)] ∧ (RT.os 25 (RT.os 3 (RT.int .i64))).val M a9 (.slice b2 b3 b4) s392 b6) (J := fun s392 a a9 => ∃ (σ : Nat → Value) (f1 : Option Addr) (f2 : Nat) (f3 : Nat) (f4 : List Nat), a = fr 55 (ovl σ [(0, (.int .i64 n)), (4, (.pointer (some ⟨b0, 0, none⟩))), (5, (.pointer (some ⟨b1, 0, none⟩))), (6, (.pointer (some ⟨a7, 0, none⟩))), (7, (.pointer (some ⟨a4, 0, none⟩))), (8, (.int .i64 k296))]) ∧ Chg [] w a9 ∧ Own (Nw w []) M a9 (f4 ++ (([a4]) ++ (([a7]) ++ (([b1]) ++ (([b0]) ++ []))))) ∧ (RT.rs (RT.rs (RT.int .i64))).val M a9 (.slice pa0 pn0 pc0) r_.2 ([]) ∧ (RT.rs (RT.rs (RT.int .i64))).val M a9 (.slice pa1 pn1 pc1) s_.2 ([]) ∧ BoxV a9 b0 45 [(.int .i64 r_.1), (.slice pa0 pn0 pc0)] ∧ BoxV a9 b1 45 [(.int .i64 s_.1), (.slice pa1 pn1 pc1)] ∧ BoxV a9 a7 45 [(.int .i64 0), (.slice none 0 0)] ∧ BoxV a9 a4 45 [(.int .i64 2), (.slice f1 f2 f3)] ∧ (RT.os 25 (RT.os 3 (RT.int .i64))).val M a9 (.slice f1 f2 f3) s392 f4) (K := (k_spec_l13Compose M w)) ?_ ?_ 0 s294 o396 _ _ ?_ k7 ?_
  ·rintro k394 s392 a a9 ⟨σ, b2, b3, b4, b6, rfl, hC, hO, h0, h1, a0, a1, a2, a3, a5⟩ hlt
   refine c_seq ?_
   refine c_sr ?_
   refine pl_val (.int .i64 k394) (y_move rfl) ?_
   refine pl_val (.int .i64 n) (y_move rfl) ?_
   refine pl_val (.bool (decide (k394 < n))) (y_lss rfl rfl) ?_
   refine c_nil ?_
   refine c_condF (congrArg Value.bool (decide_eq_false hlt)) ?_
   refine wp_exit ?_
   have hO := hO.fr4
   have hO := hO.fr4
   have hO := hO.fr4
   have hO := hO.fr4
   have hO := hO.fr4
   exact ⟨rfl, _, b2, b3, b4, b6, fr_ovl 55 ⟨rfl, rfl, rfl, rfl, rfl, rfl, trivial⟩, hC, hO, h0, h1, a0, a1, a2, a3, a5⟩
  ·rintro k394 s392 o396 a a9 ⟨σ, b2, b3, b4, b6, rfl, hC, hO, h0, h1, a0, a1, a2, a3, a5⟩ hlt hw hs
   refine c_seq ?_
   refine c_sr ?_
   refine pl_val (.int .i64 k394) (y_move rfl) ?_
   refine pl_val (.int .i64 n) (y_move rfl) ?_
   refine pl_val (.bool (decide (k394 < n))) (y_lss rfl rfl) ?_
   refine c_nil ?_
   refine c_condT (congrArg Value.bool (decide_eq_true hlt)) ?_
   refine wp_skip ?_
   refine c_seq ?_
   refine wp_block ?_
   refine c_sr ?_
   refine pl_val (.bool false) (y_assign rfl) ?_
   refine c_nil ?_
   refine c_seq ?_
   refine c_sr ?_
   refine pl_val (.int .i64 0) (y_assign rfl) ?_
   refine c_nil ?_
   obtain ⟨o420, k8, hs⟩ := bind_some hs
   refine wp_block ?_
   refine wp_iter (id := 4) (I := fun s416 a a6 => ∃ (σ : Nat → Value), a = fr 55 (ovl σ [(0, (.int .i64 n)), (4, (.pointer (some ⟨b0, 0, none⟩))), (5, (.pointer (some ⟨b1, 0, none⟩))), (6, (.pointer (some ⟨a7, 0, none⟩))), (7, (.pointer (some ⟨a4, 0, none⟩))), (8, (.int .i64 k296)), (9, (.int .i64 k394)), (10, (.bool s416.1)), (11, (.int .i64 s416.2))]) ∧ Chg [] w a6 ∧ Own (Nw w []) M a6 (b6 ++ (([a4]) ++ (([a7]) ++ (([b1]) ++ (([b0]) ++ []))))) ∧ (RT.rs (RT.rs (RT.int .i64))).val M a6 (.slice pa0 pn0 pc0) r_.2 ([]) ∧ (RT.rs (RT.rs (RT.int .i64))).val M a6 (.slice pa1 pn1 pc1) s_.2 ([]) ∧ BoxV a6 b0 45 [(.int .i64 r_.1), (.slice pa0 pn0 pc0)] ∧ BoxV a6 b1 45 [(.int .i64 s_.1), (.slice pa1 pn1 pc1)] ∧ BoxV a6 a7 45 [(.int .i64 0), (.slice none 0 0)] ∧ BoxV a6 a4 45 [(.int .i64 2), (.slice b2 b3 b4)] ∧ (RT.os 25 (RT.os 3 (RT.int .i64))).val M a6 (.slice b2 b3 b4) s392 b6) (J := fun s416 a a6 => ∃ (σ : Nat → Value), a = fr 55 (ovl σ [(0, (.int .i64 n)), (4, (.pointer (some ⟨b0, 0, none⟩))), (5, (.pointer (some ⟨b1, 0, none⟩))), (6, (.pointer (some ⟨a7, 0, none⟩))), (7, (.pointer (some ⟨a4, 0, none⟩))), (8, (.int .i64 k296)), (9, (.int .i64 k394)), (10, (.bool s416.1))]) ∧ Chg [] w a6 ∧ Own (Nw w []) M a6 (b6 ++ (([a4]) ++ (([a7]) ++ (([b1]) ++ (([b0]) ++ []))))) ∧ (RT.rs (RT.rs (RT.int .i64))).val M a6 (.slice pa0 pn0 pc0) r_.2 ([]) ∧ (RT.rs (RT.rs (RT.int .i64))).val M a6 (.slice pa1 pn1 pc1) s_.2 ([]) ∧ BoxV a6 b0 45 [(.int .i64 r_.1), (.slice pa0 pn0 pc0)] ∧ BoxV a6 b1 45 [(.int .i64 s_.1), (.slice pa1 pn1 pc1)] ∧ BoxV a6 a7 45 [(.int .i64 0), (.slice none 0 0)] ∧ BoxV a6 a4 45 [(.int .i64 2), (.slice b2 b3 b4)] ∧ (RT.os 25 (RT.os 3 (RT.int .i64))).val M a6 (.slice b2 b3 b4) s392 b6) (K := (k_spec_l13Compose M w)) ?_ FU (false, 0) o420 _ _ ?_ k8 ?_
   ·rintro s416 o420 a a6 ⟨σ, rfl, hC, hO, h0, h1, a0, a1, a2, a3, a5⟩ hs
    refine c_seq ?_
    refine c_seq ?_
    refine c_mid (I := fun a g4 => ∃ (σ : Nat → Value), a = fr 55 (ovl σ [(0, (.int .i64 n)), (4, (.pointer (some ⟨b0, 0, none⟩))), (5, (.pointer (some ⟨b1, 0, none⟩))), (6, (.pointer (some ⟨a7, 0, none⟩))), (7, (.pointer (some ⟨a4, 0, none⟩))), (8, (.int .i64 k296)), (9, (.int .i64 k394)), (10, (.bool s416.1)), (11, (.int .i64 s416.2)), (30, (.bool ((decide (s416.2 < n)) && (!s416.1))))]) ∧ Chg [] a6 g4) ?_ ?_
    ·have hMid := Chg.refl [] a6
     refine c_region ?_
     refine pl_val (.int .i64 s416.2) (y_move rfl) ?_
     refine pl_val (.int .i64 n) (y_move rfl) ?_
     refine pl_val (.bool (decide (s416.2 < n))) (y_lss rfl rfl) ?_
     refine pl_val (.bool (decide (s416.2 < n))) (y_move rfl) ?_
     rcases Bool.eq_false_or_eq_true ((decide (s416.2 < n))) with c1 | c1
     ·skip
      refine pl_yes (.bool s416.1) (tg := 27) (by kernel_rfl) (congrArg Value.bool c1) (y_move rfl) ?_
      refine pl_yes (.bool (!s416.1)) (tg := 27) (by kernel_rfl) (congrArg Value.bool c1) (y_not rfl) ?_
      refine pl_val (.bool ((decide (s416.2 < n)) && (!s416.1))) (y_pick_t (congrArg Value.bool c1) (congrArg Value.bool (by rw [c1]; rfl))) ?_
      refine c_nil ?_
      exact ⟨_, fr_ovl 55 ⟨rfl, rfl, rfl, rfl, rfl, rfl, rfl, rfl, rfl, rfl, trivial⟩, hMid⟩
     refine pl_not (tg := 27) (by kernel_rfl) (congrArg Value.bool c1) ?_
     refine pl_not (tg := 27) (by kernel_rfl) (congrArg Value.bool c1) ?_
     refine pl_val (.bool ((decide (s416.2 < n)) && (!s416.1))) (y_pick_f (congrArg Value.bool c1) (congrArg Value.bool (by rw [c1]; rfl))) ?_
     refine c_nil ?_
     exact ⟨_, fr_ovl 55 ⟨rfl, rfl, rfl, rfl, rfl, rfl, rfl, rfl, rfl, rfl, trivial⟩, hMid⟩
    rintro e4 g4 ⟨σ, rfl, c2⟩
    have h0 := h0.ext c2
    have h1 := h1.ext c2
    have a0 := a0.cn c2
    have a1 := a1.cn c2
    have a2 := a2.cn c2
    have a3 := a3.cn c2
    have a5 := a5.ext c2
    have hC := hC.ext c2
    have hO := hO.ext c2
    rcases bif_some hs with ⟨g5, hs⟩ | ⟨g5, hs⟩
    ·refine c_condT (congrArg Value.bool g5) ?_
     refine wp_skip ?_
     refine c_seq ?_
     refine wp_block ?_
     refine c_region ?_
     refine pl_val (.agg #[(.int .i64 r_.1), (.slice pa0 pn0 pc0)]) (y_load rfl ((box_load Ag45 Sz45 a0 [] [(.int .i64 r_.1), (.slice pa0 pn0 pc0)] [] rfl rfl (fun h => nomatch h)) _ (Chg.refl _ _))) ?_
     refine pl_val (.int .i64 k296) (y_move rfl) ?_
     refine pl_val (.int .i64 s416.2) (y_move rfl) ?_
     obtain ⟨i5, f5, k9, i6, c3, i7⟩ := new_block g4 [(.int .i64 k296), (.int .i64 s416.2)] 3
     refine pl_val (w' := i5) (.slice (some ⟨f5, 0, none⟩) 2 2) (y_bslice rfl (by rw [k9, i6]; kernel_rfl)) ?_
     have h0 := h0.ext c3
     have h1 := h1.ext c3
     have a0 := a0.cn c3
     have a1 := a1.cn c3
     have a2 := a2.cn c3
     have a3 := a3.cn c3
     have a5 := a5.ext c3
     have hC := hC.ext c3
     have hO := hO.new1 c3 i6 i7.lt
     have c4 := os_of_box (r := (RT.int .i64)) (M := M) (css := [[(.int .i64 k296)], [(.int .i64 s416.2)]]) (fps := [([] : List Nat), ([] : List Nat)]) (xs := ([k296, s416.2] : List Int)) i7 ⟨⟨rfl, rfl⟩, ⟨⟨rfl, rfl⟩, trivial⟩⟩ (Nat.le_of_ble_eq_true rfl) (List.nodup_cons.2 ⟨(fun h => nomatch h), List.nodup_nil⟩)
     have c4 : (RT.os 3 (RT.int .i64)).val M i5 (.slice (some ⟨f5, 0, none⟩) 2 2) [k296, s416.2] [f5] := c4
     obtain ⟨r430, l0, hs⟩ := bind_some hs
     refine pl_call Bd52 rfl (c_spec_l13Has (M := (Less M ([f5]))) (r_.1, r_.2) ([k296, s416.2]) (h0.sub Less.sub) (((Frz.os Frz.int)).val c4 Less.sub Less.not) hO.less.fut l0) ?_
     rintro _ l1 ⟨rfl, b8⟩
     have h0 := h0.ext b8
     have h1 := h1.ext b8
     have a0 := a0.cn b8
     have a1 := a1.cn b8
     have a2 := a2.cn b8
     have a3 := a3.cn b8
     have a5 := a5.ext b8
     have c4 := c4.ext b8
     have hC := hC.ext b8
     have hO := hO.ext b8
     refine pl_val (.bool r430) (y_move rfl) ?_
     rcases bif_some hs with ⟨b5, hs⟩ | ⟨b5, hs⟩
     ·skip
      refine pl_yes (.agg #[(.int .i64 s_.1), (.slice pa1 pn1 pc1)]) (tg := 38) (by kernel_rfl) (congrArg Value.bool b5) (y_load rfl ((box_load Ag45 Sz45 a1 [] [(.int .i64 s_.1), (.slice pa1 pn1 pc1)] [] rfl rfl (fun h => nomatch h)) _ (Chg.refl _ _))) ?_
      refine pl_yes (.int .i64 s416.2) (tg := 38) (by kernel_rfl) (congrArg Value.bool b5) (y_move rfl) ?_
      refine pl_yes (.int .i64 k394) (tg := 38) (by kernel_rfl) (congrArg Value.bool b5) (y_move rfl) ?_
      obtain ⟨i9, f6, l2, j0, b9, j1⟩ := new_block l1 [(.int .i64 s416.2), (.int .i64 k394)] 3
      refine pl_yes (w' := i9) (.slice (some ⟨f6, 0, none⟩) 2 2) (tg := 38) (by kernel_rfl) (congrArg Value.bool b5) (y_bslice rfl (by rw [l2, j0]; kernel_rfl)) ?_
      have h0 := h0.ext b9
      have h1 := h1.ext b9
      have a0 := a0.cn b9
      have a1 := a1.cn b9
      have a2 := a2.cn b9
      have a3 := a3.cn b9
      have a5 := a5.ext b9
      have c4 := c4.ext b9
      have hC := hC.ext b9
      have hO := hO.new1 b9 j0 j1.lt
      have e6 := os_of_box (r := (RT.int .i64)) (M := M) (css := [[(.int .i64 s416.2)], [(.int .i64 k394)]]) (fps := [([] : List Nat), ([] : List Nat)]) (xs := ([s416.2, k394] : List Int)) j1 ⟨⟨rfl, rfl⟩, ⟨⟨rfl, rfl⟩, trivial⟩⟩ (Nat.le_of_ble_eq_true rfl) (List.nodup_cons.2 ⟨(fun h => nomatch h), List.nodup_nil⟩)
      have e6 : (RT.os 3 (RT.int .i64)).val M i9 (.slice (some ⟨f6, 0, none⟩) 2 2) [s416.2, k394] [f6] := e6
      obtain ⟨r435, l3, hs⟩ := bind_some hs
      refine pl_cally (tg := 38) (by kernel_rfl) (congrArg Value.bool b5) Bd52 rfl (c_spec_l13Has (M := (Less M ([f6]))) (s_.1, s_.2) ([s416.2, k394]) (h1.sub Less.sub) (((Frz.os Frz.int)).val e6 Less.sub Less.not) hO.less.fut l3) ?_
      rintro _ m5 ⟨rfl, b7⟩
      have h0 := h0.ext b7
      have h1 := h1.ext b7
      have a0 := a0.cn b7
      have a1 := a1.cn b7
      have a2 := a2.cn b7
      have a3 := a3.cn b7
      have a5 := a5.ext b7
      have c4 := c4.ext b7
      have e6 := e6.ext b7
      have hC := hC.ext b7
      have hO := hO.ext b7
      refine pl_val (.bool r435) (y_pick_t (congrArg Value.bool b5) rfl) ?_
      refine pl_val (.bool r435) (y_assign rfl) ?_
      refine c_nil ?_
      refine c_region ?_
      refine pl_val (.int .i64 s416.2) (y_move rfl) ?_
      refine pl_val (.int .i64 (w64 (s416.2 + 1))) (y_add rfl rfl) ?_
      refine pl_val (.int .i64 (w64 (s416.2 + 1))) (y_assign rfl) ?_
      refine c_nil ?_
      cases hs
      have hO := hO.drop
      have hO := hO.drop
      have hO := hO.fr4
      have hO := hO.fr4
      have hO := hO.fr4
      have hO := hO.fr4
      have hO := hO.fr4
      exact ⟨_, fr_ovl 55 ⟨rfl, rfl, rfl, rfl, rfl, rfl, rfl, rfl, rfl, trivial⟩, hC, hO, h0, h1, a0, a1, a2, a3, a5⟩
     refine pl_not (tg := 38) (by kernel_rfl) (congrArg Value.bool b5) ?_
     refine pl_not (tg := 38) (by kernel_rfl) (congrArg Value.bool b5) ?_
     refine pl_not (tg := 38) (by kernel_rfl) (congrArg Value.bool b5) ?_
     refine pl_not (tg := 38) (by kernel_rfl) (congrArg Value.bool b5) ?_
     refine pl_not (tg := 38) (by kernel_rfl) (congrArg Value.bool b5) ?_
     refine pl_val (.bool false) (y_pick_f (congrArg Value.bool b5) rfl) ?_
     refine pl_val (.bool false) (y_assign rfl) ?_
     refine c_nil ?_
     refine c_region ?_
     refine pl_val (.int .i64 s416.2) (y_move rfl) ?_
     refine pl_val (.int .i64 (w64 (s416.2 + 1))) (y_add rfl rfl) ?_
     refine pl_val (.int .i64 (w64 (s416.2 + 1))) (y_assign rfl) ?_
     refine c_nil ?_
     cases hs
     have hO := hO.drop
     have hO := hO.fr4
     have hO := hO.fr4
     have hO := hO.fr4
     have hO := hO.fr4
     have hO := hO.fr4
     exact ⟨_, fr_ovl 55 ⟨rfl, rfl, rfl, rfl, rfl, rfl, rfl, rfl, rfl, trivial⟩, hC, hO, h0, h1, a0, a1, a2, a3, a5⟩
    refine c_condF (congrArg Value.bool g5) ?_
    refine wp_exit ?_
    cases hs
    have hO := hO.fr4
    have hO := hO.fr4
    have hO := hO.fr4
    have hO := hO.fr4
    have hO := hO.fr4
    exact ⟨rfl, _, fr_ovl 55 ⟨rfl, rfl, rfl, rfl, rfl, rfl, rfl, rfl, trivial⟩, hC, hO, h0, h1, a0, a1, a2, a3, a5⟩
   ·skip
    have hO := hO.fr4
    have hO := hO.fr4
    have hO := hO.fr4
    have hO := hO.fr4
    have hO := hO.fr4
    exact ⟨_, fr_ovl 55 ⟨rfl, rfl, rfl, rfl, rfl, rfl, rfl, rfl, rfl, trivial⟩, hC, hO, h0, h1, a0, a1, a2, a3, a5⟩
   cases o420 with
   | nx _ => exact True.intro
   | rt r_ =>
    have hs := after_rt hs
    intro e4 g1 hK
    cases hs
    exact hK
   | br s416 =>
    have hs := after_br hs
    rintro e4 a6 ⟨σ, rfl, hC, hO, h0, h1, a0, a1, a2, a3, a5⟩
    refine c_sr ?_
    refine pl_val (.bool s416.1) (y_move rfl) ?_
    refine c_nil ?_
    rcases bif_some hs with ⟨g6, hs⟩ | ⟨g6, hs⟩
    ·refine c_condT (congrArg Value.bool g6) ?_
     refine c_region ?_
     refine pl_val (.pointer (some ⟨a4, 1, none⟩)) (y_faddr rfl Fa45x1) ?_
     refine pl_val (.slice b2 b3 b4) (y_load rfl ((box_load Ag43 Sz43 a3 [(.int .i64 2)] [(.slice b2 b3 b4)] [] rfl rfl (fun _ => rfl)) _ (Chg.refl _ _))) ?_
     refine pl_val (.int .i64 k296) (y_move rfl) ?_
     refine pl_val (.int .i64 k394) (y_move rfl) ?_
     obtain ⟨g7, d2, l4, j2, c5, j3⟩ := new_block a6 [(.int .i64 k296), (.int .i64 k394)] 3
     refine pl_val (w' := g7) (.slice (some ⟨d2, 0, none⟩) 2 2) (y_bslice rfl (by rw [l4, j2]; kernel_rfl)) ?_
     have h0 := h0.ext c5
     have h1 := h1.ext c5
     have a0 := a0.cn c5
     have a1 := a1.cn c5
     have a2 := a2.cn c5
     have a3 := a3.cn c5
     have a5 := a5.ext c5
     have hC := hC.ext c5
     have hO := hO.new1 c5 j2 j3.lt
     have e7 := os_of_box (r := (RT.int .i64)) (M := M) (css := [[(.int .i64 k296)], [(.int .i64 k394)]]) (fps := [([] : List Nat), ([] : List Nat)]) (xs := ([k296, k394] : List Int)) j3 ⟨⟨rfl, rfl⟩, ⟨⟨rfl, rfl⟩, trivial⟩⟩ (Nat.le_of_ble_eq_true rfl) (List.nodup_cons.2 ⟨(fun h => nomatch h), List.nodup_nil⟩)
     have e7 : (RT.os 3 (RT.int .i64)).val M g7 (.slice (some ⟨d2, 0, none⟩) 2 2) [k296, k394] [d2] := e7
     obtain ⟨j4, f7, l5, j5, c0, j6⟩ := new_block g7 [(.slice (some ⟨d2, 0, none⟩) 2 2)] 25
     refine pl_val (w' := j4) (.slice (some ⟨f7, 0, none⟩) 1 1) (y_bslice rfl (by rw [l5, j5]; kernel_rfl)) ?_
     have h0 := h0.ext c0
     have h1 := h1.ext c0
     have a0 := a0.cn c0
     have a1 := a1.cn c0
     have a2 := a2.cn c0
     have a3 := a3.cn c0
     have a5 := a5.ext c0
     have e7 := e7.ext c0
     have hC := hC.ext c0
     have hO := hO.new1 c0 j5 j6.lt
     have hO := hO.perm (R := (f7 :: ((([d2])) ++ ([]))) ++ (b6 ++ (([a4]) ++ (([a7]) ++ (([b1]) ++ (([b0]) ++ ([]))))))) (by simp)
     have l6 := hO.nd
     have g8 := os_of_box (r := (RT.os 3 (RT.int .i64))) (M := M) (css := [[(.slice (some ⟨d2, 0, none⟩) 2 2)]]) (fps := [([d2] : List Nat)]) (xs := ([[k296, k394]] : List (List Int))) j6 ⟨(os_unval e7), trivial⟩ (Nat.le_of_ble_eq_true rfl) l6
     have g8 : (RT.os 25 (RT.os 3 (RT.int .i64))).val M j4 (.slice (some ⟨f7, 0, none⟩) 1 1) [[k296, k394]] (f7 :: ((([d2])) ++ ([]))) := g8
     obtain ⟨y442, l7, hs⟩ := bind_some hs
     have hO := hO.fr1
     obtain ⟨f8, f9, g0, l8, l9, m0, d3, m1, e8⟩ := app_os Rw43 l7 a5 g8 hO.inM (fun g hg hq => hO.apart g hq (mem_l hg))
     have d8 := os_block a5
     refine pl_val (w' := l8) (.slice f8 f9 g0) (y_append rfl rfl (m0 _)) ?_
     have hO := hO.fr1
     have hO := hO.fr1
     have h0 := h0.mt d3 hO d8
     have h1 := h1.mt d3 hO d8
     have a0 := a0.ap d3 hO d8 (mem_r (mem_r (mem_r (mem_r (mem_l (List.mem_singleton.2 rfl))))))
     have a1 := a1.ap d3 hO d8 (mem_r (mem_r (mem_r (mem_l (List.mem_singleton.2 rfl)))))
     have a2 := a2.ap d3 hO d8 (mem_r (mem_r (mem_l (List.mem_singleton.2 rfl))))
     have a3 := a3.ap d3 hO d8 (mem_r (mem_l (List.mem_singleton.2 rfl)))
     have hC := hC.st d3 hO d8
     have hO := hO.eat d3 m1 (os_nodup e8) e8.fpl
     refine pl_val (.pointer (some ⟨a4, 1, none⟩)) (y_faddr rfl Fa45x1) ?_
     obtain ⟨j7, m2, d4, g9⟩ := box_store (P := Try.prog) a3 [(.int .i64 2)] [(.slice b2 b3 b4)] [] [(.slice f8 f9 g0)] rfl rfl (by intro u hu; simp only [List.mem_cons, List.not_mem_nil, or_false] at hu; rcases hu with rfl <;> rfl)
     refine pl_skip (w' := j7) (ys_store rfl rfl (m2 _ _ rfl Sz43)) ?_
     have hO := hO.fr1
     have h0 := h0.mt d4 hO same_
     have h1 := h1.mt d4 hO same_
     have a0 := a0.ap d4 hO same_ (mem_r (mem_r (mem_r (mem_l (List.mem_singleton.2 rfl)))))
     have a1 := a1.ap d4 hO same_ (mem_r (mem_r (mem_l (List.mem_singleton.2 rfl))))
     have a2 := a2.ap d4 hO same_ (mem_r (mem_l (List.mem_singleton.2 rfl)))
     have e8 := e8.ma d4 hO same_ (fun _ e => (mem_l (e)))
     have hC := hC.st d4 hO same_
     have hO := hO.ext d4
     have g9 : BoxV j7 a4 45 [(.int .i64 2), (.slice f8 f9 g0)] := g9
     refine c_nil ?_
     refine c_region ?_
     refine pl_val (.int .i64 k394) (y_move rfl) ?_
     refine pl_val (.int .i64 (w64 (k394 + 1))) (y_add rfl rfl) ?_
     refine pl_val (.int .i64 (w64 (k394 + 1))) (y_assign rfl) ?_
     refine c_nil ?_
     cases hs
     have hO := hO.fr4
     have hO := hO.fr4
     have hO := hO.fr4
     have hO := hO.fr3
     have hO := hO.fr4
     exact ⟨_, f8, f9, g0, l9, fr_ovl 55 ⟨rfl, rfl, rfl, rfl, rfl, rfl, congrArg (Value.int .i64) hw, trivial⟩, hC, hO, h0, h1, a0, a1, a2, g9, e8⟩
    refine c_condF (congrArg Value.bool g6) ?_
    refine wp_skip ?_
    refine c_region ?_
    refine pl_val (.int .i64 k394) (y_move rfl) ?_
    refine pl_val (.int .i64 (w64 (k394 + 1))) (y_add rfl rfl) ?_
    refine pl_val (.int .i64 (w64 (k394 + 1))) (y_assign rfl) ?_
    refine c_nil ?_
    cases hs
    have hO := hO.fr4
    have hO := hO.fr4
    have hO := hO.fr4
    have hO := hO.fr4
    have hO := hO.fr4
    exact ⟨_, b2, b3, b4, b6, fr_ovl 55 ⟨rfl, rfl, rfl, rfl, rfl, rfl, congrArg (Value.int .i64) hw, trivial⟩, hC, hO, h0, h1, a0, a1, a2, a3, a5⟩
  ·skip
   have hO := hO.fr4
   have hO := hO.fr4
   have hO := hO.fr4
   have hO := hO.fr4
   have hO := hO.fr4
   exact ⟨_, e0, e1, e2, e3, fr_ovl 55 ⟨rfl, rfl, rfl, rfl, rfl, rfl, rfl, trivial⟩, hC, hO, h0, h1, a0, a1, a2, a3, g3⟩
  cases o396 with
  | nx _ => exact True.intro
  | rt r_ =>
   have hs := after_rt hs
   intro e4 g1 hK
   cases hs
   exact hK
  | br s392 =>
   have hs := after_br hs
   rintro e4 a9 ⟨σ, f1, f2, f3, f4, rfl, hC, hO, h0, h1, a0, a1, a2, a3, m3⟩
   refine c_region ?_
   refine pl_val (.int .i64 k296) (y_move rfl) ?_
   refine pl_val (.int .i64 (w64 (k296 + 1))) (y_add rfl rfl) ?_
   refine pl_val (.int .i64 (w64 (k296 + 1))) (y_assign rfl) ?_
   refine c_nil ?_
   cases hs
   have hO := hO.fr4
   have hO := hO.fr4
   have hO := hO.fr4
   have hO := hO.fr4
   have hO := hO.fr4
   exact ⟨_, f1, f2, f3, f4, fr_ovl 55 ⟨rfl, rfl, rfl, rfl, rfl, congrArg (Value.int .i64) hw, trivial⟩, hC, hO, h0, h1, a0, a1, a2, a3, m3⟩
 ·skip
  have hO := hO.fr4
  have hO := hO.fr4
  have hO := hO.fr4
  have hO := hO.fr3
  have hO := hO.fr4
  exact ⟨_, (some ⟨c6, 0, none⟩), 0, 0, ([c6]), fr_ovl 55 ⟨rfl, rfl, rfl, rfl, rfl, rfl, trivial⟩, hC, hO, h0, h1, a0, a1, a2, a3, d7⟩
 cases o298 with
 | nx _ => exact True.intro
 | rt r_ =>
  have hs := after_rt hs
  intro e4 g1 hK
  cases hs
  exact hK
 | br s294 =>
  have hs := after_br hs
  rintro e4 a8 ⟨σ, c9, d0, d1, f0, rfl, hC, hO, h0, h1, a0, a1, a2, a3, h2⟩
  refine c_sr ?_
  refine pl_val (.agg #[(.int .i64 2), (.slice c9 d0 d1)]) (y_load rfl ((box_load Ag45 Sz45 a3 [] [(.int .i64 2), (.slice c9 d0 d1)] [] rfl rfl (fun h => nomatch h)) _ (Chg.refl _ _))) ?_
  obtain ⟨j8, m4, d5, h3⟩ := box_store (P := Try.prog) a2 [] [(.int .i64 0), (.slice none 0 0)] [] [(.int .i64 2), (.slice c9 d0 d1)] rfl rfl (by intro u hu; simp only [List.mem_cons, List.not_mem_nil, or_false] at hu; rcases hu with rfl | rfl <;> rfl)
  refine pl_skip (w' := j8) (ys_store rfl rfl (m4 _ _ rfl Sz45)) ?_
  have hO := hO.fr2
  have h0 := h0.mt d5 hO same_
  have h1 := h1.mt d5 hO same_
  have a0 := a0.ap d5 hO same_ (mem_r (mem_r (mem_r (mem_l (List.mem_singleton.2 rfl)))))
  have a1 := a1.ap d5 hO same_ (mem_r (mem_r (mem_l (List.mem_singleton.2 rfl))))
  have a3 := a3.ap d5 hO same_ (mem_r (mem_l (List.mem_singleton.2 rfl)))
  have h2 := h2.ma d5 hO same_ (fun _ e => (mem_l (e)))
  have hC := hC.st d5 hO same_
  have hO := hO.ext d5
  have h3 : BoxV j8 a7 45 [(.int .i64 2), (.slice c9 d0 d1)] := h3
  refine c_nil ?_
  refine wp_ret ?_
  cases hs
  have hO := hO.drop
  have hO := hO.fr1
  have hO := hO.drop
  have hO := hO.fr1
  have hO := hO.drop
  have hO := hO.fr1
  have hO := hO.drop
  exact ⟨_, a7, c9, d0, d1, f0, fr_ovl 55 ⟨rfl, trivial⟩, h3, hC, h2, hO.top⟩

theorem Bd80 : Bodied Try.prog 80 := bodied Try.func80 (by kernel_rfl) rfl

theorem Bd79 : Bodied Try.prog 79 := bodied Try.func79 (by kernel_rfl) rfl

def k_spec_l16Product (M : Nat → Prop) (w0 : World) (r : (Int × (List (List Int)))) (a : Act) (w : World) : Prop :=
  ∃ (σ : Nat → Value) (rg4 : Nat) (ra0 : Option Addr) (rn0 rc0 : Nat) (rf0 : List Nat), a = fr 12 (ovl σ [(4, (.pointer (some ⟨rg4, 0, none⟩)))]) ∧ BoxV w rg4 45 [(.int .i64 r.1), (.slice ra0 rn0 rc0)] ∧ Chg [] w0 w ∧ (RT.os 25 (RT.os 3 (RT.int .i64))).val M w (.slice ra0 rn0 rc0) r.2 rf0 ∧ Own (Nw w0 []) (fun _ => True) w (rf0 ++ ([]))
def s_spec_l16Product (p : List Int) (q : List Int) : Option ((Int × (List (List Int)))) :=
  (s_spec_l13OfPartition p).bind fun r5 =>
  (s_spec_l13OfPartition q).bind fun r8 =>
  (s_spec_l13Compose (p.length : Int) (r5.1, r5.2) (r8.1, r8.2)).bind fun r11 =>
  some (r11.1, r11.2)
set_option maxHeartbeats 4000000 in
theorem c_spec_l16Product {M : Nat → Prop} {w : World} {pa0 : Option Addr} {pn0 pc0 : Nat} {pa1 : Option Addr} {pn1 pc1 : Nat} (p : List Int) (q : List Int) (h0 : (RT.rs (RT.int .i64)).val M w (.slice pa0 pn0 pc0) p ([])) (h1 : (RT.rs (RT.int .i64)).val M w (.slice pa1 pn1 pc1) q ([])) (hM : ∀ g, w.heap.size ≤ g → M g) {r : (Int × (List (List Int)))} (hs : s_spec_l16Product p q = some r) :
    Gives Try.prog 51 [(.slice pa0 pn0 pc0), (.slice pa1 pn1 pc1)] w (fun v w' => ∃ (ra0 : Option Addr) (rn0 rc0 : Nat) (rf0 : List Nat), v = (.agg #[(.int .i64 r.1), (.slice ra0 rn0 rc0)]) ∧ Chg [] w w' ∧ (RT.os 25 (RT.os 3 (RT.int .i64))).val M w' (.slice ra0 rn0 rc0) r.2 rf0 ∧ Own (Nw w []) (fun _ => True) w' (rf0 ++ ([]))) := by
 refine calls_fr Try.func51 rfl Try.ntmps51 (Nat.le_of_ble_eq_true rfl) ?_
 have hO := Own.start (N := Nw w []) hM Nw.fut
 have hC := Chg.refl [] w
 unfold s_spec_l16Product at hs
 refine wp_mono (Q := KPost (k_spec_l16Product M w r)) ?_ (fun e a c8 h => ?_)
 rotate_left
 ·cases e
  case ret =>
   obtain ⟨σ, rg4, ra0, rn0, rc0, rf0, rfl, hbrg4, hrest⟩ := h
   exact ret1x Try.results51 (res_cell rfl (box_load Ag45 Sz45 hbrg4 [] _ [] rfl rfl (fun h => nomatch h))) ⟨ra0, rn0, rc0, rf0, rfl, hrest⟩
  all_goals exact (h : False).elim
 refine c_sr ?_
 obtain ⟨b9, a4, c0, b6, a9, a0⟩ := new_block w [(.int .i64 0), (.slice none 0 0)] 45
 refine pl_val (w' := b9) (.pointer (some ⟨a4, 0, none⟩)) (y_alloc (by rw [c0, b6]; kernel_rfl)) ?_
 have h0 := h0.ext a9
 have h1 := h1.ext a9
 have hC := hC.ext a9
 have hO := hO.new1 a9 b6 a0.lt
 refine c_nil ?_
 refine c_sr ?_
 refine pl_val (.slice pa0 pn0 pc0) (y_move rfl) ?_
 refine pl_val (.int .i64 (p.length : Int)) (y_len' Sl25 (rs_len h0) rfl) ?_
 refine pl_val (.slice pa0 pn0 pc0) (y_move rfl) ?_
 obtain ⟨r5, c1, hs⟩ := bind_some hs
 refine pl_call Bd80 rfl (c_spec_l13OfPartition (M := M) p h0 hO.fut c1) ?_
 rintro _ c9 ⟨d0, d1, d2, b0, rfl, a6, a1, c2⟩
 have h0 := h0.ext a6
 have h1 := h1.ext a6
 have a0 := a0.cn a6
 have hC := hC.ext a6
 have hO := Own.join0 hO a6 c2
 have hO := hO.perm (R := b0 ++ (([a4]) ++ ([]))) (by simp)
 refine pl_val (.slice pa1 pn1 pc1) (y_move rfl) ?_
 obtain ⟨r8, c3, hs⟩ := bind_some hs
 refine pl_call Bd80 rfl (c_spec_l13OfPartition (M := M) q h1 hO.fut c3) ?_
 rintro _ d3 ⟨d4, d5, d6, b1, rfl, a5, a7, c4⟩
 have h0 := h0.ext a5
 have h1 := h1.ext a5
 have a0 := a0.cn a5
 have a1 := a1.ext a5
 have hC := hC.ext a5
 have hO := Own.join0 hO a5 c4
 have hO := hO.perm (R := b1 ++ (b0 ++ (([a4]) ++ ([])))) (by simp)
 have hO := hO.fr1
 obtain ⟨r11, c5, hs⟩ := bind_some hs
 refine pl_call Bd79 rfl (c_spec_l13Compose (M := (Less (Less M b0) b1)) (p.length : Int) (r5.1, r5.2) (r8.1, r8.2) ((((Frz.os (Frz.os Frz.int))).val a1 Less.sub Less.not).sub Less.sub) (((Frz.os (Frz.os Frz.int))).val (a7.sub Less.sub) Less.sub Less.not) (hO.less).less.fut c5) ?_
 rintro _ d7 ⟨b2, b3, b4, b7, rfl, a2, a8, c6⟩
 have h0 := h0.ext a2
 have h1 := h1.ext a2
 have a0 := a0.cn a2
 have a1 := a1.ext a2
 have a7 := a7.ext a2
 have hC := hC.ext a2
 have hO := Own.join0 hO a2 c6
 have hO := hO.perm (R := b7 ++ (b0 ++ (b1 ++ (([a4]) ++ ([]))))) (by simp)
 have a8 := a8.free (M' := M) (Free.os (Free.os Free.int))
 obtain ⟨b8, c7, a3, b5⟩ := box_store (P := Try.prog) a0 [] [(.int .i64 0), (.slice none 0 0)] [] [(.int .i64 r11.1), (.slice b2 b3 b4)] rfl rfl (by intro u hu; simp only [List.mem_cons, List.not_mem_nil, or_false] at hu; rcases hu with rfl | rfl <;> rfl)
 refine pl_skip (w' := b8) (ys_store rfl rfl (c7 _ _ rfl Sz45)) ?_
 have hO := hO.fr3
 have h0 := h0.mt a3 hO same_
 have h1 := h1.mt a3 hO same_
 have a1 := a1.ma a3 hO same_ (fun _ e => (mem_r (mem_l (e))))
 have a7 := a7.ma a3 hO same_ (fun _ e => (mem_r (mem_r (mem_l (e)))))
 have a8 := a8.ma a3 hO same_ (fun _ e => (mem_l (e)))
 have hC := hC.st a3 hO same_
 have hO := hO.ext a3
 have b5 : BoxV b8 a4 45 [(.int .i64 r11.1), (.slice b2 b3 b4)] := b5
 refine c_nil ?_
 refine wp_ret ?_
 cases hs
 have hO := hO.drop
 have hO := hO.fr1
 have hO := hO.drop
 have hO := hO.fr1
 have hO := hO.drop
 exact ⟨_, a4, b2, b3, b4, b7, fr_ovl 12 ⟨rfl, trivial⟩, b5, hC, a8, hO.top⟩

theorem Bd50 : Bodied Try.prog 50 := bodied Try.func50 (by kernel_rfl) rfl

theorem Bd51 : Bodied Try.prog 51 := bodied Try.func51 (by kernel_rfl) rfl

def k_spec_FirstUnpermuted (M : Nat → Prop) (w0 : World) (r : (List Int) × Bool) (a : Act) (w : World) : Prop :=
  ∃ (σ : Nat → Value) (ra0 : Option Addr) (rn0 rc0 : Nat), a = fr 44 (ovl σ [(6, (.slice ra0 rn0 rc0)), (7, (.bool r.2))]) ∧ Chg [] w0 w ∧ (RT.rs (RT.int .i64)).val (Past M w0 w) w (.slice ra0 rn0 rc0) r.1 []
def s_spec_FirstUnpermuted (n : Int) (p : List Int) (q : List Int) : Option ((List Int) × Bool) :=
  (s_spec_l16Two n p q).bind fun r4 =>
  (bif (!r4) then some ([], false) else (s_spec_l16Product p q).bind fun r10 =>
  (s_spec_l16Product q p).bind fun r13 =>
  (forC (S := Unit) (R := (List Int) × Bool) (fun k40 s38 =>
  (idx r10.2 k40).bind fun x52 =>
  (s_spec_l13Has (r13.1, r13.2) x52).bind fun r57 =>
  (bif (!r57) then (idx r10.2 k40).bind fun x59 =>
  some (.rt (x59, true)) else some (.nx ()))) 0 (r10.2.length : Int) ()).bind fun o42 => after o42 (fun r_ => some r_) (fun s38 =>
  some ([], false)))
set_option maxHeartbeats 4000000 in
theorem c_spec_FirstUnpermuted {M : Nat → Prop} {w : World} {pa0 : Option Addr} {pn0 pc0 : Nat} {pa1 : Option Addr} {pn1 pc1 : Nat} (n : Int) (p : List Int) (q : List Int) (h0 : (RT.rs (RT.int .i64)).val M w (.slice pa0 pn0 pc0) p ([])) (h1 : (RT.rs (RT.int .i64)).val M w (.slice pa1 pn1 pc1) q ([])) (hM : ∀ g, w.heap.size ≤ g → M g) {r : (List Int) × Bool} (hs : s_spec_FirstUnpermuted n p q = some r) :
    Gives Try.prog 21 [(.int .i64 n), (.slice pa0 pn0 pc0), (.slice pa1 pn1 pc1)] w (fun v w' => ∃ (ra0 : Option Addr) (rn0 rc0 : Nat), v = (.tuple #[(.slice ra0 rn0 rc0), (.bool r.2)]) ∧ Chg [] w w' ∧ (RT.rs (RT.int .i64)).val (Past M w w') w' (.slice ra0 rn0 rc0) r.1 []) := by
 refine calls_fr Try.func21 rfl Try.ntmps21 (Nat.le_of_ble_eq_true rfl) ?_
 have hO := Own.start (N := Nw w []) hM Nw.fut
 have hC := Chg.refl [] w
 unfold s_spec_FirstUnpermuted at hs
 refine wp_mono (Q := KPost (k_spec_FirstUnpermuted M w r)) ?_ (fun e a f4 h => ?_)
 rotate_left
 ·cases e
  case ret =>
   obtain ⟨σ, ra0, rn0, rc0, rfl, hrest⟩ := h
   exact ret2x Try.results21 (res_tmp rfl) (res_tmp rfl) ⟨ra0, rn0, rc0, rfl, hrest⟩
  all_goals exact (h : False).elim
 refine c_sr ?_
 refine pl_val (.slice none 0 0) (y_assign rfl) ?_
 refine pl_val (.bool false) (y_assign rfl) ?_
 refine c_nil ?_
 refine c_seq ?_
 refine c_sr ?_
 refine pl_val (.int .i64 n) (y_move rfl) ?_
 refine pl_val (.slice pa0 pn0 pc0) (y_move rfl) ?_
 refine pl_val (.slice pa1 pn1 pc1) (y_move rfl) ?_
 obtain ⟨r4, f5, hs⟩ := bind_some hs
 refine pl_call Bd50 rfl (c_spec_l16Two (M := M) n p q h0 h1 hO.fut f5) ?_
 rintro _ f6 ⟨rfl, c5⟩
 have h0 := h0.ext c5
 have h1 := h1.ext c5
 have hC := hC.ext c5
 have hO := hO.ext c5
 refine pl_val (.bool (!r4)) (y_not rfl) ?_
 refine c_nil ?_
 rcases bif_some hs with ⟨d1, hs⟩ | ⟨d1, hs⟩
 ·refine c_condT (congrArg Value.bool d1) ?_
  refine c_sr ?_
  obtain ⟨d9, c2, f7, e0, c6, e1⟩ := new_block f6 [] 3
  refine pl_val (w' := d9) (.slice (some ⟨c2, 0, none⟩) 0 0) (y_bslice rfl (by rw [f7, e0]; kernel_rfl)) ?_
  have h0 := h0.ext c6
  have h1 := h1.ext c6
  have hC := hC.ext c6
  have hO := hO.new1 c6 e0 e1.lt
  have d2 := os_of_box (r := (RT.int .i64)) (M := M) (css := []) (fps := []) (xs := ([] : List Int)) e1 trivial (Nat.zero_le _) (List.nodup_cons.2 ⟨(fun h => nomatch h), List.nodup_nil⟩)
  have d2 : (RT.os 3 (RT.int .i64)).val M d9 (.slice (some ⟨c2, 0, none⟩) 0 0) [] [c2] := d2
  refine pl_val (.slice (some ⟨c2, 0, none⟩) 0 0) (y_assign rfl) ?_
  refine pl_val (.bool false) (y_assign rfl) ?_
  refine c_nil ?_
  refine wp_ret ?_
  cases hs
  obtain ⟨e2, k1, e3, f8, hO, f9⟩ := frz_own (Frz.os Frz.int) d2 hO
  have h0 := h0.sub (M' := e2) e3
  have h1 := h1.sub (M' := e2) e3
  have hK := f8
  exact ⟨_, (some ⟨c2, 0, none⟩), 0, 0, fr_ovl 44 ⟨rfl, rfl, trivial⟩, hC, (Keeps.out hK f9)⟩
 refine c_condF (congrArg Value.bool d1) ?_
 refine wp_skip ?_
 refine c_sr ?_
 refine pl_val (.slice pa0 pn0 pc0) (y_move rfl) ?_
 refine pl_val (.slice pa1 pn1 pc1) (y_move rfl) ?_
 obtain ⟨r10, g0, hs⟩ := bind_some hs
 refine pl_call Bd51 rfl (c_spec_l16Product (M := M) p q h0 h1 hO.fut g0) ?_
 rintro _ k2 ⟨a5, a6, a7, b0, rfl, c7, a0, g1⟩
 have h0 := h0.ext c7
 have h1 := h1.ext c7
 have hC := hC.ext c7
 have hO := Own.join0 hO c7 g1
 have hO := hO.perm (R := b0 ++ ([])) (by simp)
 refine pl_val (.slice pa1 pn1 pc1) (y_move rfl) ?_
 refine pl_val (.slice pa0 pn0 pc0) (y_move rfl) ?_
 obtain ⟨r13, g2, hs⟩ := bind_some hs
 refine pl_call Bd51 rfl (c_spec_l16Product (M := M) q p h1 h0 hO.fut g2) ?_
 rintro _ g3 ⟨b1, b2, b3, b4, rfl, c3, a1, g4⟩
 have h0 := h0.ext c3
 have h1 := h1.ext c3
 have a0 := a0.ext c3
 have hC := hC.ext c3
 have hO := Own.join0 hO c3 g4
 have hO := hO.perm (R := b4 ++ (b0 ++ ([]))) (by simp)
 obtain ⟨e4, a8, g5, e5, c0, c8⟩ := new_block g3 [(.int .i64 0), (.slice none 0 0)] 45
 refine pl_val (w' := e4) (.pointer (some ⟨a8, 0, none⟩)) (y_alloc (by rw [g5, e5]; kernel_rfl)) ?_
 have h0 := h0.ext c0
 have h1 := h1.ext c0
 have a0 := a0.ext c0
 have a1 := a1.ext c0
 have hC := hC.ext c0
 have hO := hO.new1 c0 e5 c8.lt
 obtain ⟨g6, b5, g7, e6, b6, c9⟩ := new_block e4 [(.int .i64 0), (.slice none 0 0)] 45
 refine pl_val (w' := g6) (.pointer (some ⟨b5, 0, none⟩)) (y_alloc (by rw [g7, e6]; kernel_rfl)) ?_
 have h0 := h0.ext b6
 have h1 := h1.ext b6
 have a0 := a0.ext b6
 have a1 := a1.ext b6
 have c8 := c8.cn b6
 have hC := hC.ext b6
 have hO := hO.new1 b6 e6 c9.lt
 obtain ⟨e7, g8, b7, a2⟩ := box_store (P := Try.prog) c8 [] [(.int .i64 0), (.slice none 0 0)] [] [(.int .i64 r10.1), (.slice a5 a6 a7)] rfl rfl (by intro u hu; simp only [List.mem_cons, List.not_mem_nil, or_false] at hu; rcases hu with rfl | rfl <;> rfl)
 refine pl_skip (w' := e7) (ys_store rfl rfl (g8 _ _ rfl Sz45)) ?_
 have hO := hO.fr1
 have h0 := h0.mt b7 hO same_
 have h1 := h1.mt b7 hO same_
 have a0 := a0.ma b7 hO same_ (fun _ e => (mem_r (mem_r (mem_l (e)))))
 have a1 := a1.ma b7 hO same_ (fun _ e => (mem_r (mem_l (e))))
 have c9 := c9.ap b7 hO same_ (mem_l (List.mem_singleton.2 rfl))
 have hC := hC.st b7 hO same_
 have hO := hO.ext b7
 have a2 : BoxV e7 a8 45 [(.int .i64 r10.1), (.slice a5 a6 a7)] := a2
 obtain ⟨e8, g9, b8, a4⟩ := box_store (P := Try.prog) c9 [] [(.int .i64 0), (.slice none 0 0)] [] [(.int .i64 r13.1), (.slice b1 b2 b3)] rfl rfl (by intro u hu; simp only [List.mem_cons, List.not_mem_nil, or_false] at hu; rcases hu with rfl | rfl <;> rfl)
 refine pl_skip (w' := e8) (ys_store rfl rfl (g9 _ _ rfl Sz45)) ?_
 have hO := hO.fr1
 have h0 := h0.mt b8 hO same_
 have h1 := h1.mt b8 hO same_
 have a0 := a0.ma b8 hO same_ (fun _ e => (mem_r (mem_r (mem_l (e)))))
 have a1 := a1.ma b8 hO same_ (fun _ e => (mem_r (mem_l (e))))
 have a2 := a2.ap b8 hO same_ (mem_l (List.mem_singleton.2 rfl))
 have hC := hC.st b8 hO same_
 have hO := hO.ext b8
 have a4 : BoxV e8 b5 45 [(.int .i64 r13.1), (.slice b1 b2 b3)] := a4
 refine c_nil ?_
 refine c_seq ?_
 refine c_sr ?_
 refine pl_val (.int .i64 0) (y_assign rfl) ?_
 refine c_nil ?_
 obtain ⟨o42, h2, hs⟩ := bind_some hs
 refine wp_block ?_
 refine wp_forC (id := 0) (r10.2.length : Int) (I := fun k40 s38 a a3 => ∃ (σ : Nat → Value), a = fr 44 (ovl σ [(8, (.pointer (some ⟨a8, 0, none⟩))), (9, (.pointer (some ⟨b5, 0, none⟩))), (10, (.int .i64 k40))]) ∧ Chg [] w a3 ∧ Own (Nw w []) M a3 (([b5]) ++ (([a8]) ++ (b4 ++ (b0 ++ [])))) ∧ (RT.os 25 (RT.os 3 (RT.int .i64))).val M a3 (.slice a5 a6 a7) r10.2 b0 ∧ (RT.os 25 (RT.os 3 (RT.int .i64))).val M a3 (.slice b1 b2 b3) r13.2 b4 ∧ BoxV a3 a8 45 [(.int .i64 r10.1), (.slice a5 a6 a7)] ∧ BoxV a3 b5 45 [(.int .i64 r13.1), (.slice b1 b2 b3)]) (J := fun s38 a a3 => ∃ (σ : Nat → Value), a = fr 44 (ovl σ []) ∧ Chg [] w a3 ∧ Own (Nw w []) M a3 (([b5]) ++ (([a8]) ++ (b4 ++ (b0 ++ [])))) ∧ (RT.os 25 (RT.os 3 (RT.int .i64))).val M a3 (.slice a5 a6 a7) r10.2 b0 ∧ (RT.os 25 (RT.os 3 (RT.int .i64))).val M a3 (.slice b1 b2 b3) r13.2 b4 ∧ BoxV a3 a8 45 [(.int .i64 r10.1), (.slice a5 a6 a7)] ∧ BoxV a3 b5 45 [(.int .i64 r13.1), (.slice b1 b2 b3)]) (K := (k_spec_FirstUnpermuted M w)) ?_ ?_ 0 () o42 _ _ ?_ h2 ?_
 ·rintro k40 s38 a a3 ⟨σ, rfl, hC, hO, a0, a1, a2, a4⟩ hlt
  refine c_seq ?_
  refine c_sr ?_
  refine pl_val (.int .i64 k40) (y_move rfl) ?_
  refine pl_val (.pointer (some ⟨a8, 1, none⟩)) (y_faddr rfl Fa45x1) ?_
  refine pl_val (.slice a5 a6 a7) (y_load rfl ((box_load Ag43 Sz43 a2 [(.int .i64 r10.1)] [(.slice a5 a6 a7)] [] rfl rfl (fun _ => rfl)) _ (Chg.refl _ _))) ?_
  refine pl_val (.int .i64 (r10.2.length : Int)) (y_len' Sl43 (os_len a0) rfl) ?_
  refine pl_val (.bool (decide (k40 < (r10.2.length : Int)))) (y_lss rfl rfl) ?_
  refine c_nil ?_
  refine c_condF (congrArg Value.bool (decide_eq_false hlt)) ?_
  refine wp_exit ?_
  have hO := hO.fr3
  have hO := hO.fr3
  have hO := hO.fr3
  have hO := hO.fr3
  exact ⟨rfl, _, fr_ovl 44 trivial, hC, hO, a0, a1, a2, a4⟩
 ·rintro k40 s38 o42 a a3 ⟨σ, rfl, hC, hO, a0, a1, a2, a4⟩ hlt hw hs
  refine c_seq ?_
  refine c_sr ?_
  refine pl_val (.int .i64 k40) (y_move rfl) ?_
  refine pl_val (.pointer (some ⟨a8, 1, none⟩)) (y_faddr rfl Fa45x1) ?_
  refine pl_val (.slice a5 a6 a7) (y_load rfl ((box_load Ag43 Sz43 a2 [(.int .i64 r10.1)] [(.slice a5 a6 a7)] [] rfl rfl (fun _ => rfl)) _ (Chg.refl _ _))) ?_
  refine pl_val (.int .i64 (r10.2.length : Int)) (y_len' Sl43 (os_len a0) rfl) ?_
  refine pl_val (.bool (decide (k40 < (r10.2.length : Int)))) (y_lss rfl rfl) ?_
  refine c_nil ?_
  refine c_condT (congrArg Value.bool (decide_eq_true hlt)) ?_
  refine wp_skip ?_
  refine c_seq ?_
  refine wp_block ?_
  refine c_seq ?_
  refine x_start [] Mx rfl ?_
  have b9 := Chg.drew a3
  generalize World.drew a3 = h3 at b9 ⊢
  have a0 := a0.ext b9
  have a1 := a1.ext b9
  have a2 := a2.cn b9
  have a4 := a4.cn b9
  have hC := hC.ext b9
  have hO := hO.ext b9
  have hS := Chg.refl [] h3
  refine x_l 0 (.agg #[(.int .i64 r13.1), (.slice b1 b2 b3)]) rfl (by kernel_rfl)  (fun w' hw' => y_load rfl ((box_load Ag45 Sz45 a4 [] [(.int .i64 r13.1), (.slice b1 b2 b3)] [] rfl rfl (fun h => nomatch h)) w' hw')) hS ?_
  refine x_p 1 (.pointer (some ⟨a8, 1, none⟩)) rfl (by kernel_rfl)  (fun _ => y_faddr rfl Fa45x1) (fun _ => hS) ?_
  refine x_l 2 (.slice a5 a6 a7) rfl (by kernel_rfl)  (fun w' hw' => y_load rfl ((box_load Ag43 Sz43 a2 [(.int .i64 r10.1)] [(.slice a5 a6 a7)] [] rfl rfl (fun _ => rfl)) w' hw')) hS ?_
  refine x_p 3 (.int .i64 k40) rfl (by kernel_rfl)  (fun _ => y_move rfl) (fun _ => hS) ?_
  obtain ⟨x52, h4, hs⟩ := bind_some hs
  obtain ⟨h5, k3, k4, k5, h6, h7, h8⟩ := os_idx Sl43 Sz25 a0 h4
  have h9 := own_row (Frz.os Frz.int) h7 h8
  refine x_p 4 (.pointer (some ⟨h5, 0 + Int.toNat k40 * 1, none⟩)) rfl (by kernel_rfl)  (fun _ => h6 _ _ _ _ _ _ _ _ _ rfl rfl) (fun _ => hS) ?_
  obtain ⟨k6, i0, hrow54, d0⟩ := at_load1 Ag25 Sz25 rfl rfl h9
  obtain ⟨i1, i2, i3, rfl⟩ := rs_sl d0
  refine x_l 5 (.slice i1 i2 i3) rfl (by kernel_rfl)  (fun w' hw' => y_load rfl (i0 w' hw')) hS ?_
  refine x_one (i := 6) (by kernel_rfl) ?_
  have hO := hO.fr3
  have hO := hO.fr3
  obtain ⟨r57, i4, hs⟩ := bind_some hs
  refine xk_call (b := false) rfl  Bd52 rfl (c_spec_l13Has (M := (Less (Less M b4) b0)) (r13.1, r13.2) x52 ((((Frz.os (Frz.os Frz.int))).val a1 Less.sub Less.not).sub Less.sub) (d0.sub (M' := (Less (Less M b4) b0)) (fun g h => .inl (by simp only [Less] at h ⊢; simp [h]))) (hO.less).less.fut i4) rfl (by rintro _ _ _ ⟨rfl, a9⟩; exact hS.ext a9) ?_
  rintro _ k7 ⟨rfl, a9⟩
  have a0 := a0.ext a9
  have a1 := a1.ext a9
  have a2 := a2.cn a9
  have a4 := a4.cn a9
  have d0 := d0.ext a9
  have hrow54 := hrow54.cn a9
  have hC := hC.ext a9
  have hO := hO.ext a9
  have hS := hS.ext a9
  refine x_p 7 (.bool (!r57)) rfl (by kernel_rfl)  (fun _ => y_not rfl) (fun _ => hS) ?_
  refine x_end (by kernel_rfl) ?_
  clear hS
  rcases bif_some hs with ⟨d3, hs⟩ | ⟨d3, hs⟩
  ·refine c_condT (congrArg Value.bool d3) ?_
   refine c_sr ?_
   refine pl_val (.pointer (some ⟨a8, 1, none⟩)) (y_faddr rfl Fa45x1) ?_
   refine pl_val (.slice a5 a6 a7) (y_load rfl ((box_load Ag43 Sz43 a2 [(.int .i64 r10.1)] [(.slice a5 a6 a7)] [] rfl rfl (fun _ => rfl)) _ (Chg.refl _ _))) ?_
   refine pl_val (.int .i64 k40) (y_move rfl) ?_
   obtain ⟨x59, i5, hs⟩ := bind_some hs
   obtain ⟨i6, k8, k9, l0, i7, i9, j0⟩ := os_idx Sl43 Sz25 a0 i5
   have j1 := own_row (Frz.os Frz.int) i9 j0
   refine pl_val (.pointer (some ⟨i6, 0 + Int.toNat k40 * 1, none⟩)) (i7 _ _ _ _ _ _ _ _ _ rfl rfl) ?_
   obtain ⟨l1, j2, hrow61, d4⟩ := at_load1 Ag25 Sz25 rfl rfl j1
   obtain ⟨d5, d6, d7, rfl⟩ := rs_sl d4
   refine pl_val (.slice d5 d6 d7) (y_load rfl (j2 _ (Chg.refl _ _))) ?_
   refine pl_val (.slice d5 d6 d7) (y_assign rfl) ?_
   refine pl_val (.bool true) (y_assign rfl) ?_
   refine c_nil ?_
   refine wp_ret ?_
   cases hs
   have hO := hO.fr1
   obtain ⟨j3, j4, j5, j6, hO, l2⟩ := frz_own (Frz.os (Frz.os Frz.int)) a0 hO
   rw [← j4] at d4
   have a1 := a1.sub (M' := j3) j5
   have hK := j6
   exact ⟨_, d5, d6, d7, fr_ovl 44 ⟨rfl, rfl, trivial⟩, hC, (Keeps.out hK d4)⟩
  refine c_condF (congrArg Value.bool d3) ?_
  refine wp_skip ?_
  refine c_region ?_
  refine pl_val (.int .i64 k40) (y_move rfl) ?_
  refine pl_val (.int .i64 (w64 (k40 + 1))) (y_add rfl rfl) ?_
  refine pl_val (.int .i64 (w64 (k40 + 1))) (y_assign rfl) ?_
  refine c_nil ?_
  cases hs
  have hO := hO.fr1
  have hO := hO.fr1
  have hO := hO.fr3
  have hO := hO.fr3
  exact ⟨_, fr_ovl 44 ⟨rfl, rfl, congrArg (Value.int .i64) hw, trivial⟩, hC, hO, a0, a1, a2, a4⟩
 ·skip
  have hO := hO.fr3
  have hO := hO.fr3
  have hO := hO.fr3
  have hO := hO.fr3
  exact ⟨_, fr_ovl 44 ⟨rfl, rfl, rfl, trivial⟩, hC, hO, a0, a1, a2, a4⟩
 cases o42 with
 | nx _ => exact True.intro
 | rt r_ =>
  have hs := after_rt hs
  intro j7 f4 hK
  cases hs
  exact hK
 | br s38 =>
  have hs := after_br hs
  rintro j7 a3 ⟨σ, rfl, hC, hO, a0, a1, a2, a4⟩
  refine c_sr ?_
  obtain ⟨e9, c4, j8, f0, c1, f1⟩ := new_block a3 [] 3
  refine pl_val (w' := e9) (.slice (some ⟨c4, 0, none⟩) 0 0) (y_bslice rfl (by rw [j8, f0]; kernel_rfl)) ?_
  have a0 := a0.ext c1
  have a1 := a1.ext c1
  have a2 := a2.cn c1
  have a4 := a4.cn c1
  have hC := hC.ext c1
  have hO := hO.new1 c1 f0 f1.lt
  have d8 := os_of_box (r := (RT.int .i64)) (M := M) (css := []) (fps := []) (xs := ([] : List Int)) f1 trivial (Nat.zero_le _) (List.nodup_cons.2 ⟨(fun h => nomatch h), List.nodup_nil⟩)
  have d8 : (RT.os 3 (RT.int .i64)).val M e9 (.slice (some ⟨c4, 0, none⟩) 0 0) [] [c4] := d8
  refine pl_val (.slice (some ⟨c4, 0, none⟩) 0 0) (y_assign rfl) ?_
  refine pl_val (.bool false) (y_assign rfl) ?_
  refine c_nil ?_
  refine wp_ret ?_
  cases hs
  obtain ⟨f2, l3, f3, j9, hO, k0⟩ := frz_own (Frz.os Frz.int) d8 hO
  have a0 := a0.sub (M' := f2) f3
  have a1 := a1.sub (M' := f2) f3
  have hK := j9
  exact ⟨_, (some ⟨c4, 0, none⟩), 0, 0, fr_ovl 44 ⟨rfl, rfl, trivial⟩, hC, (Keeps.out hK k0)⟩

def k_laws_vInts (M : Nat → Prop) (w0 : World) (r : Bool) (a : Act) (w : World) : Prop :=
  ∃ (σ : Nat → Value) , a = fr 26 (ovl σ [(4, (.bool r))]) ∧ Chg [] w0 w
def s_laws_vInts (a_ : List Int) (b : List Int) : Option (Bool) :=
  (bif ((a_.length : Int) != (b.length : Int)) then some false else (forC (S := Unit) (R := Bool) (fun k12 s10 =>
  (idx a_ k12).bind fun x17 =>
  (idx b k12).bind fun x19 =>
  (bif (x17 != x19) then some (.rt false) else some (.nx ()))) 0 (a_.length : Int) ()).bind fun o14 => after o14 (fun r_ => some r_) (fun s10 =>
  some true))
set_option maxHeartbeats 4000000 in
theorem c_laws_vInts {M : Nat → Prop} {w : World} {pa0 : Option Addr} {pn0 pc0 : Nat} {pa1 : Option Addr} {pn1 pc1 : Nat} (a_ : List Int) (b : List Int) (h0 : (RT.rs (RT.int .i64)).val M w (.slice pa0 pn0 pc0) a_ ([])) (h1 : (RT.rs (RT.int .i64)).val M w (.slice pa1 pn1 pc1) b ([])) (hM : ∀ g, w.heap.size ≤ g → M g) {r : Bool} (hs : s_laws_vInts a_ b = some r) :
    Gives Try.prog 22 [(.slice pa0 pn0 pc0), (.slice pa1 pn1 pc1)] w (fun v w' => v = (.bool r) ∧ Chg [] w w') := by
 refine calls_fr Try.func22 rfl Try.ntmps22 (Nat.le_of_ble_eq_true rfl) ?_
 have hO := Own.start (N := Nw w []) hM Nw.fut
 have hC := Chg.refl [] w
 unfold s_laws_vInts at hs
 refine wp_mono (Q := KPost (k_laws_vInts M w r)) ?_ (fun e a a4 h => ?_)
 rotate_left
 ·cases e
  case ret =>
   obtain ⟨σ, rfl, hrest⟩ := h
   exact ret1x Try.results22 (res_tmp rfl) ⟨rfl, hrest⟩
  all_goals exact (h : False).elim
 refine c_sr ?_
 refine pl_val (.bool false) (y_assign rfl) ?_
 refine c_nil ?_
 refine c_seq ?_
 refine c_sr ?_
 refine pl_val (.slice pa0 pn0 pc0) (y_move rfl) ?_
 refine pl_val (.int .i64 (a_.length : Int)) (y_len' Sl25 (rs_len h0) rfl) ?_
 refine pl_val (.slice pa1 pn1 pc1) (y_move rfl) ?_
 refine pl_val (.int .i64 (b.length : Int)) (y_len' Sl25 (rs_len h1) rfl) ?_
 refine pl_val (.bool ((a_.length : Int) != (b.length : Int))) (y_neq rfl rfl) ?_
 refine c_nil ?_
 rcases bif_some hs with ⟨a2, hs⟩ | ⟨a2, hs⟩
 ·refine c_condT (congrArg Value.bool a2) ?_
  refine c_sr ?_
  refine pl_val (.bool false) (y_assign rfl) ?_
  refine c_nil ?_
  refine wp_ret ?_
  cases hs
  exact ⟨_, fr_ovl 26 ⟨rfl, trivial⟩, hC⟩
 refine c_condF (congrArg Value.bool a2) ?_
 refine wp_skip ?_
 refine c_seq ?_
 refine c_sr ?_
 refine pl_val (.int .i64 0) (y_assign rfl) ?_
 refine c_nil ?_
 obtain ⟨o14, a5, hs⟩ := bind_some hs
 refine wp_block ?_
 refine wp_forC (id := 0) (a_.length : Int) (I := fun k12 s10 a a0 => ∃ (σ : Nat → Value), a = fr 26 (ovl σ [(0, (.slice pa0 pn0 pc0)), (1, (.slice pa1 pn1 pc1)), (5, (.int .i64 k12))]) ∧ Chg [] w a0 ∧ Own (Nw w []) M a0 ([]) ∧ (RT.rs (RT.int .i64)).val M a0 (.slice pa0 pn0 pc0) a_ ([]) ∧ (RT.rs (RT.int .i64)).val M a0 (.slice pa1 pn1 pc1) b ([])) (J := fun s10 a a0 => ∃ (σ : Nat → Value), a = fr 26 (ovl σ []) ∧ Chg [] w a0 ∧ Own (Nw w []) M a0 ([]) ∧ (RT.rs (RT.int .i64)).val M a0 (.slice pa0 pn0 pc0) a_ ([]) ∧ (RT.rs (RT.int .i64)).val M a0 (.slice pa1 pn1 pc1) b ([])) (K := (k_laws_vInts M w)) ?_ ?_ 0 () o14 _ _ ?_ a5 ?_
 ·rintro k12 s10 a a0 ⟨σ, rfl, hC, hO, h0, h1⟩ hlt
  refine c_seq ?_
  refine c_sr ?_
  refine pl_val (.int .i64 k12) (y_move rfl) ?_
  refine pl_val (.slice pa0 pn0 pc0) (y_move rfl) ?_
  refine pl_val (.int .i64 (a_.length : Int)) (y_len' Sl25 (rs_len h0) rfl) ?_
  refine pl_val (.bool (decide (k12 < (a_.length : Int)))) (y_lss rfl rfl) ?_
  refine c_nil ?_
  refine c_condF (congrArg Value.bool (decide_eq_false hlt)) ?_
  refine wp_exit ?_
  exact ⟨rfl, _, fr_ovl 26 trivial, hC, hO, h0, h1⟩
 ·rintro k12 s10 o14 a a0 ⟨σ, rfl, hC, hO, h0, h1⟩ hlt hw hs
  refine c_seq ?_
  refine c_sr ?_
  refine pl_val (.int .i64 k12) (y_move rfl) ?_
  refine pl_val (.slice pa0 pn0 pc0) (y_move rfl) ?_
  refine pl_val (.int .i64 (a_.length : Int)) (y_len' Sl25 (rs_len h0) rfl) ?_
  refine pl_val (.bool (decide (k12 < (a_.length : Int)))) (y_lss rfl rfl) ?_
  refine c_nil ?_
  refine c_condT (congrArg Value.bool (decide_eq_true hlt)) ?_
  refine wp_skip ?_
  refine c_seq ?_
  refine wp_block ?_
  refine c_seq ?_
  refine x_start [] Mx rfl ?_
  have a1 := Chg.drew a0
  generalize World.drew a0 = a6 at a1 ⊢
  have h0 := h0.ext a1
  have h1 := h1.ext a1
  have hC := hC.ext a1
  have hO := hO.ext a1
  have hS := Chg.refl [] a6
  refine x_p 0 (.slice pa0 pn0 pc0) rfl (by kernel_rfl)  (fun _ => y_move rfl) (fun _ => hS) ?_
  refine x_p 1 (.int .i64 k12) rfl (by kernel_rfl)  (fun _ => y_move rfl) (fun _ => hS) ?_
  obtain ⟨x17, a7, hs⟩ := bind_some hs
  obtain ⟨a8, a9, b0, b1⟩ := rs_idx Sl25 Sz3 h0 a7
  refine x_p 2 (.pointer (some ⟨a8, a9, none⟩)) rfl (by kernel_rfl)  (fun _ => b0 _ _ _ _ _ _ _ _ _ rfl rfl) (fun _ => hS) ?_
  refine x_l 3 (.int .i64 x17) rfl (by kernel_rfl)  (fun w' hw' => y_load rfl ((at_load_int Ag3 Sz3 b1) w' hw')) hS ?_
  refine x_p 4 (.slice pa1 pn1 pc1) rfl (by kernel_rfl)  (fun _ => y_move rfl) (fun _ => hS) ?_
  refine x_p 5 (.int .i64 k12) rfl (by kernel_rfl)  (fun _ => y_move rfl) (fun _ => hS) ?_
  obtain ⟨x19, b2, hs⟩ := bind_some hs
  obtain ⟨b3, b4, b5, b6⟩ := rs_idx Sl25 Sz3 h1 b2
  refine x_p 6 (.pointer (some ⟨b3, b4, none⟩)) rfl (by kernel_rfl)  (fun _ => b5 _ _ _ _ _ _ _ _ _ rfl rfl) (fun _ => hS) ?_
  refine x_l 7 (.int .i64 x19) rfl (by kernel_rfl)  (fun w' hw' => y_load rfl ((at_load_int Ag3 Sz3 b6) w' hw')) hS ?_
  refine x_p 8 (.bool (x17 != x19)) rfl (by kernel_rfl)  (fun _ => y_neq rfl rfl) (fun _ => hS) ?_
  refine x_end (by kernel_rfl) ?_
  clear hS
  rcases bif_some hs with ⟨a3, hs⟩ | ⟨a3, hs⟩
  ·refine c_condT (congrArg Value.bool a3) ?_
   refine c_sr ?_
   refine pl_val (.bool false) (y_assign rfl) ?_
   refine c_nil ?_
   refine wp_ret ?_
   cases hs
   exact ⟨_, fr_ovl 26 ⟨rfl, trivial⟩, hC⟩
  refine c_condF (congrArg Value.bool a3) ?_
  refine wp_skip ?_
  refine c_region ?_
  refine pl_val (.int .i64 k12) (y_move rfl) ?_
  refine pl_val (.int .i64 (w64 (k12 + 1))) (y_add rfl rfl) ?_
  refine pl_val (.int .i64 (w64 (k12 + 1))) (y_assign rfl) ?_
  refine c_nil ?_
  cases hs
  exact ⟨_, fr_ovl 26 ⟨rfl, rfl, congrArg (Value.int .i64) hw, trivial⟩, hC, hO, h0, h1⟩
 ·skip
  exact ⟨_, fr_ovl 26 ⟨rfl, rfl, rfl, trivial⟩, hC, hO, h0, h1⟩
 cases o14 with
 | nx _ => exact True.intro
 | rt r_ =>
  have hs := after_rt hs
  intro b7 a4 hK
  cases hs
  exact hK
 | br s10 =>
  have hs := after_br hs
  rintro b7 a0 ⟨σ, rfl, hC, hO, h0, h1⟩
  refine c_sr ?_
  refine pl_val (.bool true) (y_assign rfl) ?_
  refine c_nil ?_
  refine wp_ret ?_
  cases hs
  exact ⟨_, fr_ovl 26 ⟨rfl, trivial⟩, hC⟩

def k_impl_permute (M : Nat → Prop) (w0 : World) (r : Bool) (a : Act) (w : World) : Prop :=
  ∃ (σ : Nat → Value) , a = fr 15 (ovl σ [(4, (.bool r))]) ∧ Chg [] w0 w
def s_impl_permute (p : List Int) (q : List Int) : Option (Bool) :=
  (s_impl_unpermuted p q).bind fun r4 =>
  some (!r4.2)
set_option maxHeartbeats 4000000 in
theorem c_impl_permute {M : Nat → Prop} {w : World} {pa0 : Option Addr} {pn0 pc0 : Nat} {pa1 : Option Addr} {pn1 pc1 : Nat} (p : List Int) (q : List Int) (h0 : (RT.rs (RT.int .i64)).val M w (.slice pa0 pn0 pc0) p ([])) (h1 : (RT.rs (RT.int .i64)).val M w (.slice pa1 pn1 pc1) q ([])) (hM : ∀ g, w.heap.size ≤ g → M g) {r : Bool} (hs : s_impl_permute p q = some r) :
    Gives Try.prog 53 [(.slice pa0 pn0 pc0), (.slice pa1 pn1 pc1)] w (fun v w' => v = (.bool r) ∧ Chg [] w w') := by
 refine calls_fr Try.func53 rfl Try.ntmps53 (Nat.le_of_ble_eq_true rfl) ?_
 have hO := Own.start (N := Nw w []) hM Nw.fut
 have hC := Chg.refl [] w
 unfold s_impl_permute at hs
 refine wp_mono (Q := KPost (k_impl_permute M w r)) ?_ (fun e a a7 h => ?_)
 rotate_left
 ·cases e
  case ret =>
   obtain ⟨σ, rfl, hrest⟩ := h
   exact ret1x Try.results53 (res_tmp rfl) ⟨rfl, hrest⟩
  all_goals exact (h : False).elim
 refine c_sr ?_
 refine pl_val (.bool false) (y_assign rfl) ?_
 refine c_nil ?_
 refine c_sr ?_
 refine pl_val (.slice pa0 pn0 pc0) (y_move rfl) ?_
 refine pl_val (.slice pa1 pn1 pc1) (y_move rfl) ?_
 obtain ⟨r4, a4, hs⟩ := bind_some hs
 refine pl_call Bd49 rfl (c_impl_unpermuted (M := M) p q h0 h1 hO.fut a4) ?_
 rintro _ a8 ⟨a1, a2, a3, a5, rfl, a0, a9, a6⟩
 have h0 := h0.ext a0
 have h1 := h1.ext a0
 have hC := hC.ext a0
 have hO := Own.join0 hO a0 a6
 have hO := hO.perm (R := a5 ++ ([])) (by simp)
 refine pl_val (.tuple #[(.slice a1 a2 a3), (.bool r4.2)]) (y_move rfl) ?_
 refine pl_val (.slice a1 a2 a3) (y_extract rfl (by kernel_rfl)) ?_
 refine pl_val (.bool r4.2) (y_extract rfl (by kernel_rfl)) ?_
 refine pl_val (.slice a1 a2 a3) (y_assign rfl) ?_
 refine pl_val (.bool r4.2) (y_assign rfl) ?_
 refine c_nil ?_
 refine c_sr ?_
 refine pl_val (.bool r4.2) (y_move rfl) ?_
 refine pl_val (.bool (!r4.2)) (y_not rfl) ?_
 refine pl_val (.bool (!r4.2)) (y_assign rfl) ?_
 refine c_nil ?_
 refine wp_ret ?_
 cases hs
 exact ⟨_, fr_ovl 15 ⟨rfl, trivial⟩, hC⟩

theorem Bd53 : Bodied Try.prog 53 := bodied Try.func53 (by kernel_rfl) rfl

def k_impl_DoPermute (M : Nat → Prop) (w0 : World) (r : Bool × Bool) (a : Act) (w : World) : Prop :=
  ∃ (σ : Nat → Value) , a = fr 16 (ovl σ [(6, (.bool r.1)), (7, (.bool r.2))]) ∧ Chg [] w0 w
def s_impl_DoPermute (n : Int) (p : List Int) (q : List Int) : Option (Bool × Bool) :=
  (s_impl_arePartitions n p q).bind fun r4 =>
  (bif (!r4) then some (false, false) else (s_impl_permute p q).bind fun r7 =>
  some (r7, true))
set_option maxHeartbeats 4000000 in
theorem c_impl_DoPermute {M : Nat → Prop} {w : World} {pa0 : Option Addr} {pn0 pc0 : Nat} {pa1 : Option Addr} {pn1 pc1 : Nat} (n : Int) (p : List Int) (q : List Int) (h0 : (RT.rs (RT.int .i64)).val M w (.slice pa0 pn0 pc0) p ([])) (h1 : (RT.rs (RT.int .i64)).val M w (.slice pa1 pn1 pc1) q ([])) (hM : ∀ g, w.heap.size ≤ g → M g) {r : Bool × Bool} (hs : s_impl_DoPermute n p q = some r) :
    Gives Try.prog 23 [(.int .i64 n), (.slice pa0 pn0 pc0), (.slice pa1 pn1 pc1)] w (fun v w' => v = (.tuple #[(.bool r.1), (.bool r.2)]) ∧ Chg [] w w') := by
 refine calls_fr Try.func23 rfl Try.ntmps23 (Nat.le_of_ble_eq_true rfl) ?_
 have hO := Own.start (N := Nw w []) hM Nw.fut
 have hC := Chg.refl [] w
 unfold s_impl_DoPermute at hs
 refine wp_mono (Q := KPost (k_impl_DoPermute M w r)) ?_ (fun e a a5 h => ?_)
 rotate_left
 ·cases e
  case ret =>
   obtain ⟨σ, rfl, hrest⟩ := h
   exact ret2x Try.results23 (res_tmp rfl) (res_tmp rfl) ⟨rfl, hrest⟩
  all_goals exact (h : False).elim
 refine c_sr ?_
 refine pl_val (.bool false) (y_assign rfl) ?_
 refine pl_val (.bool false) (y_assign rfl) ?_
 refine c_nil ?_
 refine c_seq ?_
 refine c_sr ?_
 refine pl_val (.int .i64 n) (y_move rfl) ?_
 refine pl_val (.slice pa0 pn0 pc0) (y_move rfl) ?_
 refine pl_val (.slice pa1 pn1 pc1) (y_move rfl) ?_
 obtain ⟨r4, a3, hs⟩ := bind_some hs
 refine pl_call Bd48 rfl (c_impl_arePartitions (M := M) n p q h0 h1 hO.fut a3) ?_
 rintro _ a6 ⟨rfl, a0⟩
 have h0 := h0.ext a0
 have h1 := h1.ext a0
 have hC := hC.ext a0
 have hO := hO.ext a0
 refine pl_val (.bool (!r4)) (y_not rfl) ?_
 refine c_nil ?_
 rcases bif_some hs with ⟨a2, hs⟩ | ⟨a2, hs⟩
 ·refine c_condT (congrArg Value.bool a2) ?_
  refine c_sr ?_
  refine pl_val (.bool false) (y_assign rfl) ?_
  refine pl_val (.bool false) (y_assign rfl) ?_
  refine c_nil ?_
  refine wp_ret ?_
  cases hs
  exact ⟨_, fr_ovl 16 ⟨rfl, rfl, trivial⟩, hC⟩
 refine c_condF (congrArg Value.bool a2) ?_
 refine wp_skip ?_
 refine c_sr ?_
 refine pl_val (.slice pa0 pn0 pc0) (y_move rfl) ?_
 refine pl_val (.slice pa1 pn1 pc1) (y_move rfl) ?_
 obtain ⟨r7, a4, hs⟩ := bind_some hs
 refine pl_call Bd53 rfl (c_impl_permute (M := M) p q h0 h1 hO.fut a4) ?_
 rintro _ a7 ⟨rfl, a1⟩
 have h0 := h0.ext a1
 have h1 := h1.ext a1
 have hC := hC.ext a1
 have hO := hO.ext a1
 refine pl_val (.bool r7) (y_assign rfl) ?_
 refine pl_val (.bool true) (y_assign rfl) ?_
 refine c_nil ?_
 refine wp_ret ?_
 cases hs
 exact ⟨_, fr_ovl 16 ⟨rfl, rfl, trivial⟩, hC⟩

def k_spec_l8Same (M : Nat → Prop) (w0 : World) (r : Bool) (a : Act) (w : World) : Prop :=
  ∃ (σ : Nat → Value) , a = fr 33 (ovl σ [(4, (.bool r))]) ∧ Chg [] w0 w
def s_spec_l8Same (r_ : List (List Int)) (s_ : List (List Int)) : Option (Bool) :=
  (iter (S := Int) (R := Bool) (fun s20 =>
  (bif ((decide (s20 < (r_.length : Int))) && (decide (s20 < (s_.length : Int)))) then (idx r_ s20).bind fun x32 =>
  (idx s_ s20).bind fun x36 =>
  (s_spec_l1Same x32 x36).bind fun r41 =>
  (bif (!r41) then some (.rt false) else some (.nx (w64 (s20 + 1)))) else some (.br s20))) FU 0).bind fun o24 => after o24 (fun r_ => some r_) (fun s20 =>
  some ((r_.length : Int) == (s_.length : Int)))
set_option maxHeartbeats 4000000 in
theorem c_spec_l8Same {M : Nat → Prop} {w : World} {pa0 : Option Addr} {pn0 pc0 : Nat} {pa1 : Option Addr} {pn1 pc1 : Nat} (r_ : List (List Int)) (s_ : List (List Int)) (h0 : (RT.rs (RT.rs (RT.int .i64))).val M w (.slice pa0 pn0 pc0) r_ ([])) (h1 : (RT.rs (RT.rs (RT.int .i64))).val M w (.slice pa1 pn1 pc1) s_ ([])) (hM : ∀ g, w.heap.size ≤ g → M g) {r : Bool} (hs : s_spec_l8Same r_ s_ = some r) :
    Gives Try.prog 82 [(.slice pa0 pn0 pc0), (.slice pa1 pn1 pc1)] w (fun v w' => v = (.bool r) ∧ Chg [] w w') := by
 refine calls_fr Try.func82 rfl Try.ntmps82 (Nat.le_of_ble_eq_true rfl) ?_
 have hO := Own.start (N := Nw w []) hM Nw.fut
 have hC := Chg.refl [] w
 unfold s_spec_l8Same at hs
 refine wp_mono (Q := KPost (k_spec_l8Same M w r)) ?_ (fun e a b1 h => ?_)
 rotate_left
 ·cases e
  case ret =>
   obtain ⟨σ, rfl, hrest⟩ := h
   exact ret1x Try.results82 (res_tmp rfl) ⟨rfl, hrest⟩
  all_goals exact (h : False).elim
 refine c_sr ?_
 refine pl_val (.bool false) (y_assign rfl) ?_
 refine c_nil ?_
 refine c_seq ?_
 refine c_sr ?_
 refine pl_val (.int .i64 0) (y_assign rfl) ?_
 refine c_nil ?_
 obtain ⟨o24, b2, hs⟩ := bind_some hs
 refine wp_block ?_
 refine wp_iter (id := 0) (I := fun s20 a a0 => ∃ (σ : Nat → Value), a = fr 33 (ovl σ [(0, (.slice pa0 pn0 pc0)), (1, (.slice pa1 pn1 pc1)), (5, (.int .i64 s20))]) ∧ Chg [] w a0 ∧ Own (Nw w []) M a0 ([]) ∧ (RT.rs (RT.rs (RT.int .i64))).val M a0 (.slice pa0 pn0 pc0) r_ ([]) ∧ (RT.rs (RT.rs (RT.int .i64))).val M a0 (.slice pa1 pn1 pc1) s_ ([])) (J := fun s20 a a0 => ∃ (σ : Nat → Value), a = fr 33 (ovl σ [(0, (.slice pa0 pn0 pc0)), (1, (.slice pa1 pn1 pc1))]) ∧ Chg [] w a0 ∧ Own (Nw w []) M a0 ([]) ∧ (RT.rs (RT.rs (RT.int .i64))).val M a0 (.slice pa0 pn0 pc0) r_ ([]) ∧ (RT.rs (RT.rs (RT.int .i64))).val M a0 (.slice pa1 pn1 pc1) s_ ([])) (K := (k_spec_l8Same M w)) ?_ FU 0 o24 _ _ ?_ b2 ?_
 ·rintro s20 o24 a a0 ⟨σ, rfl, hC, hO, h0, h1⟩ hs
  refine c_seq ?_
  refine c_seq ?_
  refine c_mid (I := fun a a4 => ∃ (σ : Nat → Value), a = fr 33 (ovl σ [(0, (.slice pa0 pn0 pc0)), (1, (.slice pa1 pn1 pc1)), (5, (.int .i64 s20)), (15, (.bool ((decide (s20 < (r_.length : Int))) && (decide (s20 < (s_.length : Int))))))]) ∧ Chg [] a0 a4) ?_ ?_
  ·have hMid := Chg.refl [] a0
   refine c_region ?_
   refine pl_val (.int .i64 s20) (y_move rfl) ?_
   refine pl_val (.slice pa0 pn0 pc0) (y_move rfl) ?_
   refine pl_val (.int .i64 (r_.length : Int)) (y_len' Sl43 (rs_len h0) rfl) ?_
   refine pl_val (.bool (decide (s20 < (r_.length : Int)))) (y_lss rfl rfl) ?_
   refine pl_val (.bool (decide (s20 < (r_.length : Int)))) (y_move rfl) ?_
   rcases Bool.eq_false_or_eq_true ((decide (s20 < (r_.length : Int)))) with a1 | a1
   ·skip
    refine pl_yes (.int .i64 s20) (tg := 10) (by kernel_rfl) (congrArg Value.bool a1) (y_move rfl) ?_
    refine pl_yes (.slice pa1 pn1 pc1) (tg := 10) (by kernel_rfl) (congrArg Value.bool a1) (y_move rfl) ?_
    refine pl_yes (.int .i64 (s_.length : Int)) (tg := 10) (by kernel_rfl) (congrArg Value.bool a1) (y_len' Sl43 (rs_len h1) rfl) ?_
    refine pl_yes (.bool (decide (s20 < (s_.length : Int)))) (tg := 10) (by kernel_rfl) (congrArg Value.bool a1) (y_lss rfl rfl) ?_
    refine pl_val (.bool ((decide (s20 < (r_.length : Int))) && (decide (s20 < (s_.length : Int))))) (y_pick_t (congrArg Value.bool a1) (congrArg Value.bool (by rw [a1]; rfl))) ?_
    refine c_nil ?_
    exact ⟨_, fr_ovl 33 ⟨rfl, rfl, rfl, rfl, trivial⟩, hMid⟩
   refine pl_not (tg := 10) (by kernel_rfl) (congrArg Value.bool a1) ?_
   refine pl_not (tg := 10) (by kernel_rfl) (congrArg Value.bool a1) ?_
   refine pl_not (tg := 10) (by kernel_rfl) (congrArg Value.bool a1) ?_
   refine pl_not (tg := 10) (by kernel_rfl) (congrArg Value.bool a1) ?_
   refine pl_val (.bool ((decide (s20 < (r_.length : Int))) && (decide (s20 < (s_.length : Int))))) (y_pick_f (congrArg Value.bool a1) (congrArg Value.bool (by rw [a1]; rfl))) ?_
   refine c_nil ?_
   exact ⟨_, fr_ovl 33 ⟨rfl, rfl, rfl, rfl, trivial⟩, hMid⟩
  rintro b0 a4 ⟨σ, rfl, a5⟩
  have h0 := h0.ext a5
  have h1 := h1.ext a5
  have hC := hC.ext a5
  have hO := hO.ext a5
  rcases bif_some hs with ⟨a8, hs⟩ | ⟨a8, hs⟩
  ·refine c_condT (congrArg Value.bool a8) ?_
   refine wp_skip ?_
   refine c_seq ?_
   refine wp_block ?_
   refine c_seq ?_
   refine x_start [] Mx rfl ?_
   have a3 := Chg.drew a4
   generalize World.drew a4 = b3 at a3 ⊢
   have h0 := h0.ext a3
   have h1 := h1.ext a3
   have hC := hC.ext a3
   have hO := hO.ext a3
   have hS := Chg.refl [] b3
   refine x_p 0 (.slice pa0 pn0 pc0) rfl (by kernel_rfl)  (fun _ => y_move rfl) (fun _ => hS) ?_
   refine x_p 1 (.int .i64 s20) rfl (by kernel_rfl)  (fun _ => y_move rfl) (fun _ => hS) ?_
   obtain ⟨x32, b4, hs⟩ := bind_some hs
   obtain ⟨b5, b6, b7, b8⟩ := rs_idx Sl43 Sz25 h0 b4
   refine x_p 2 (.pointer (some ⟨b5, b6, none⟩)) rfl (by kernel_rfl)  (fun _ => b7 _ _ _ _ _ _ _ _ _ rfl rfl) (fun _ => hS) ?_
   obtain ⟨d3, b9, a6⟩ := at_load Ag25 Sz25 (fun _ => rfl) b8
   obtain ⟨c0, c1, c2, rfl⟩ := rs_sl a6
   refine x_l 3 (.slice c0 c1 c2) rfl (by kernel_rfl)  (fun w' hw' => y_load rfl (b9 w' hw')) hS ?_
   refine x_p 4 (.slice pa1 pn1 pc1) rfl (by kernel_rfl)  (fun _ => y_move rfl) (fun _ => hS) ?_
   refine x_p 5 (.int .i64 s20) rfl (by kernel_rfl)  (fun _ => y_move rfl) (fun _ => hS) ?_
   obtain ⟨x36, c3, hs⟩ := bind_some hs
   obtain ⟨c4, c5, c6, c7⟩ := rs_idx Sl43 Sz25 h1 c3
   refine x_p 6 (.pointer (some ⟨c4, c5, none⟩)) rfl (by kernel_rfl)  (fun _ => c6 _ _ _ _ _ _ _ _ _ rfl rfl) (fun _ => hS) ?_
   obtain ⟨d4, c8, a7⟩ := at_load Ag25 Sz25 (fun _ => rfl) c7
   obtain ⟨c9, d0, d1, rfl⟩ := rs_sl a7
   refine x_l 7 (.slice c9 d0 d1) rfl (by kernel_rfl)  (fun w' hw' => y_load rfl (c8 w' hw')) hS ?_
   refine x_one (i := 8) (by kernel_rfl) ?_
   obtain ⟨r41, d2, hs⟩ := bind_some hs
   refine xk_call (b := false) rfl  Bd46 rfl (c_spec_l1Same (M := M) x32 x36 a6 a7 hO.fut d2) rfl (by rintro _ _ _ ⟨rfl, a2⟩; exact hS.ext a2) ?_
   rintro _ d5 ⟨rfl, a2⟩
   have h0 := h0.ext a2
   have h1 := h1.ext a2
   have a6 := a6.ext a2
   have a7 := a7.ext a2
   have hC := hC.ext a2
   have hO := hO.ext a2
   have hS := hS.ext a2
   refine x_p 9 (.bool (!r41)) rfl (by kernel_rfl)  (fun _ => y_not rfl) (fun _ => hS) ?_
   refine x_end (by kernel_rfl) ?_
   clear hS
   rcases bif_some hs with ⟨a9, hs⟩ | ⟨a9, hs⟩
   ·refine c_condT (congrArg Value.bool a9) ?_
    refine c_sr ?_
    refine pl_val (.bool false) (y_assign rfl) ?_
    refine c_nil ?_
    refine wp_ret ?_
    cases hs
    exact ⟨_, fr_ovl 33 ⟨rfl, trivial⟩, hC⟩
   refine c_condF (congrArg Value.bool a9) ?_
   refine wp_skip ?_
   refine c_region ?_
   refine pl_val (.int .i64 s20) (y_move rfl) ?_
   refine pl_val (.int .i64 (w64 (s20 + 1))) (y_add rfl rfl) ?_
   refine pl_val (.int .i64 (w64 (s20 + 1))) (y_assign rfl) ?_
   refine c_nil ?_
   cases hs
   exact ⟨_, fr_ovl 33 ⟨rfl, rfl, rfl, trivial⟩, hC, hO, h0, h1⟩
  refine c_condF (congrArg Value.bool a8) ?_
  refine wp_exit ?_
  cases hs
  exact ⟨rfl, _, fr_ovl 33 ⟨rfl, rfl, trivial⟩, hC, hO, h0, h1⟩
 ·skip
  exact ⟨_, fr_ovl 33 ⟨rfl, rfl, rfl, trivial⟩, hC, hO, h0, h1⟩
 cases o24 with
 | nx _ => exact True.intro
 | rt r_ =>
  have hs := after_rt hs
  intro b0 b1 hK
  cases hs
  exact hK
 | br s20 =>
  have hs := after_br hs
  rintro b0 a0 ⟨σ, rfl, hC, hO, h0, h1⟩
  refine c_sr ?_
  refine pl_val (.slice pa0 pn0 pc0) (y_move rfl) ?_
  refine pl_val (.int .i64 (r_.length : Int)) (y_len' Sl43 (rs_len h0) rfl) ?_
  refine pl_val (.slice pa1 pn1 pc1) (y_move rfl) ?_
  refine pl_val (.int .i64 (s_.length : Int)) (y_len' Sl43 (rs_len h1) rfl) ?_
  refine pl_val (.bool ((r_.length : Int) == (s_.length : Int))) (y_eql rfl rfl) ?_
  refine pl_val (.bool ((r_.length : Int) == (s_.length : Int))) (y_assign rfl) ?_
  refine c_nil ?_
  refine wp_ret ?_
  cases hs
  exact ⟨_, fr_ovl 33 ⟨rfl, trivial⟩, hC⟩

theorem Bd82 : Bodied Try.prog 82 := bodied Try.func82 (by kernel_rfl) rfl

def k_spec_l16Permute (M : Nat → Prop) (w0 : World) (r : Bool) (a : Act) (w : World) : Prop :=
  ∃ (σ : Nat → Value) , a = fr 14 (ovl σ [(4, (.bool r))]) ∧ Chg [] w0 w
def s_spec_l16Permute (p : List Int) (q : List Int) : Option (Bool) :=
  (s_spec_l16Product p q).bind fun r4 =>
  (s_spec_l16Product q p).bind fun r7 =>
  (s_spec_l8Same r4.2 r7.2).bind fun r10 =>
  some r10
set_option maxHeartbeats 4000000 in
theorem c_spec_l16Permute {M : Nat → Prop} {w : World} {pa0 : Option Addr} {pn0 pc0 : Nat} {pa1 : Option Addr} {pn1 pc1 : Nat} (p : List Int) (q : List Int) (h0 : (RT.rs (RT.int .i64)).val M w (.slice pa0 pn0 pc0) p ([])) (h1 : (RT.rs (RT.int .i64)).val M w (.slice pa1 pn1 pc1) q ([])) (hM : ∀ g, w.heap.size ≤ g → M g) {r : Bool} (hs : s_spec_l16Permute p q = some r) :
    Gives Try.prog 54 [(.slice pa0 pn0 pc0), (.slice pa1 pn1 pc1)] w (fun v w' => v = (.bool r) ∧ Chg [] w w') := by
 refine calls_fr Try.func54 rfl Try.ntmps54 (Nat.le_of_ble_eq_true rfl) ?_
 have hO := Own.start (N := Nw w []) hM Nw.fut
 have hC := Chg.refl [] w
 unfold s_spec_l16Permute at hs
 refine wp_mono (Q := KPost (k_spec_l16Permute M w r)) ?_ (fun e a b8 h => ?_)
 rotate_left
 ·cases e
  case ret =>
   obtain ⟨σ, rfl, hrest⟩ := h
   exact ret1x Try.results54 (res_tmp rfl) ⟨rfl, hrest⟩
  all_goals exact (h : False).elim
 refine c_sr ?_
 refine pl_val (.bool false) (y_assign rfl) ?_
 refine c_nil ?_
 refine c_sr ?_
 refine pl_val (.slice pa0 pn0 pc0) (y_move rfl) ?_
 refine pl_val (.slice pa1 pn1 pc1) (y_move rfl) ?_
 obtain ⟨r4, a7, hs⟩ := bind_some hs
 refine pl_call Bd51 rfl (c_spec_l16Product (M := M) p q h0 h1 hO.fut a7) ?_
 rintro _ b9 ⟨a8, a9, b0, a4, rfl, a3, a1, b1⟩
 have h0 := h0.ext a3
 have h1 := h1.ext a3
 have hC := hC.ext a3
 have hO := Own.join0 hO a3 b1
 have hO := hO.perm (R := a4 ++ ([])) (by simp)
 refine pl_val (.slice a8 a9 b0) (y_field rfl (by kernel_rfl)) ?_
 refine pl_val (.slice pa1 pn1 pc1) (y_move rfl) ?_
 refine pl_val (.slice pa0 pn0 pc0) (y_move rfl) ?_
 obtain ⟨r7, b2, hs⟩ := bind_some hs
 refine pl_call Bd51 rfl (c_spec_l16Product (M := M) q p h1 h0 hO.fut b2) ?_
 rintro _ c0 ⟨b3, b4, b5, a6, rfl, a2, a5, b6⟩
 have h0 := h0.ext a2
 have h1 := h1.ext a2
 have a1 := a1.ext a2
 have hC := hC.ext a2
 have hO := Own.join0 hO a2 b6
 have hO := hO.perm (R := a6 ++ (a4 ++ ([]))) (by simp)
 refine pl_val (.slice b3 b4 b5) (y_field rfl (by kernel_rfl)) ?_
 have hO := hO.fr1
 obtain ⟨r10, b7, hs⟩ := bind_some hs
 refine pl_call Bd82 rfl (c_spec_l8Same (M := (Less (Less M a4) a6)) r4.2 r7.2 ((((Frz.os (Frz.os Frz.int))).val a1 Less.sub Less.not).sub Less.sub) (((Frz.os (Frz.os Frz.int))).val (a5.sub Less.sub) Less.sub Less.not) (hO.less).less.fut b7) ?_
 rintro _ c1 ⟨rfl, a0⟩
 have h0 := h0.ext a0
 have h1 := h1.ext a0
 have a1 := a1.ext a0
 have a5 := a5.ext a0
 have hC := hC.ext a0
 have hO := hO.ext a0
 refine pl_val (.bool r10) (y_assign rfl) ?_
 refine c_nil ?_
 refine wp_ret ?_
 cases hs
 exact ⟨_, fr_ovl 14 ⟨rfl, trivial⟩, hC⟩

theorem Bd54 : Bodied Try.prog 54 := bodied Try.func54 (by kernel_rfl) rfl

def k_spec_DoPermute (M : Nat → Prop) (w0 : World) (r : Bool × Bool) (a : Act) (w : World) : Prop :=
  ∃ (σ : Nat → Value) , a = fr 16 (ovl σ [(6, (.bool r.1)), (7, (.bool r.2))]) ∧ Chg [] w0 w
def s_spec_DoPermute (n : Int) (p : List Int) (q : List Int) : Option (Bool × Bool) :=
  (s_spec_l16Two n p q).bind fun r4 =>
  (bif (!r4) then some (false, false) else (s_spec_l16Permute p q).bind fun r7 =>
  some (r7, true))
set_option maxHeartbeats 4000000 in
theorem c_spec_DoPermute {M : Nat → Prop} {w : World} {pa0 : Option Addr} {pn0 pc0 : Nat} {pa1 : Option Addr} {pn1 pc1 : Nat} (n : Int) (p : List Int) (q : List Int) (h0 : (RT.rs (RT.int .i64)).val M w (.slice pa0 pn0 pc0) p ([])) (h1 : (RT.rs (RT.int .i64)).val M w (.slice pa1 pn1 pc1) q ([])) (hM : ∀ g, w.heap.size ≤ g → M g) {r : Bool × Bool} (hs : s_spec_DoPermute n p q = some r) :
    Gives Try.prog 24 [(.int .i64 n), (.slice pa0 pn0 pc0), (.slice pa1 pn1 pc1)] w (fun v w' => v = (.tuple #[(.bool r.1), (.bool r.2)]) ∧ Chg [] w w') := by
 refine calls_fr Try.func24 rfl Try.ntmps24 (Nat.le_of_ble_eq_true rfl) ?_
 have hO := Own.start (N := Nw w []) hM Nw.fut
 have hC := Chg.refl [] w
 unfold s_spec_DoPermute at hs
 refine wp_mono (Q := KPost (k_spec_DoPermute M w r)) ?_ (fun e a a5 h => ?_)
 rotate_left
 ·cases e
  case ret =>
   obtain ⟨σ, rfl, hrest⟩ := h
   exact ret2x Try.results24 (res_tmp rfl) (res_tmp rfl) ⟨rfl, hrest⟩
  all_goals exact (h : False).elim
 refine c_sr ?_
 refine pl_val (.bool false) (y_assign rfl) ?_
 refine pl_val (.bool false) (y_assign rfl) ?_
 refine c_nil ?_
 refine c_seq ?_
 refine c_sr ?_
 refine pl_val (.int .i64 n) (y_move rfl) ?_
 refine pl_val (.slice pa0 pn0 pc0) (y_move rfl) ?_
 refine pl_val (.slice pa1 pn1 pc1) (y_move rfl) ?_
 obtain ⟨r4, a3, hs⟩ := bind_some hs
 refine pl_call Bd50 rfl (c_spec_l16Two (M := M) n p q h0 h1 hO.fut a3) ?_
 rintro _ a6 ⟨rfl, a0⟩
 have h0 := h0.ext a0
 have h1 := h1.ext a0
 have hC := hC.ext a0
 have hO := hO.ext a0
 refine pl_val (.bool (!r4)) (y_not rfl) ?_
 refine c_nil ?_
 rcases bif_some hs with ⟨a2, hs⟩ | ⟨a2, hs⟩
 ·refine c_condT (congrArg Value.bool a2) ?_
  refine c_sr ?_
  refine pl_val (.bool false) (y_assign rfl) ?_
  refine pl_val (.bool false) (y_assign rfl) ?_
  refine c_nil ?_
  refine wp_ret ?_
  cases hs
  exact ⟨_, fr_ovl 16 ⟨rfl, rfl, trivial⟩, hC⟩
 refine c_condF (congrArg Value.bool a2) ?_
 refine wp_skip ?_
 refine c_sr ?_
 refine pl_val (.slice pa0 pn0 pc0) (y_move rfl) ?_
 refine pl_val (.slice pa1 pn1 pc1) (y_move rfl) ?_
 obtain ⟨r7, a4, hs⟩ := bind_some hs
 refine pl_call Bd54 rfl (c_spec_l16Permute (M := M) p q h0 h1 hO.fut a4) ?_
 rintro _ a7 ⟨rfl, a1⟩
 have h0 := h0.ext a1
 have h1 := h1.ext a1
 have hC := hC.ext a1
 have hO := hO.ext a1
 refine pl_val (.bool r7) (y_assign rfl) ?_
 refine pl_val (.bool true) (y_assign rfl) ?_
 refine c_nil ?_
 refine wp_ret ?_
 cases hs
 exact ⟨_, fr_ovl 16 ⟨rfl, rfl, trivial⟩, hC⟩

def k_impl_clone (M : Nat → Prop) (w0 : World) (r : (List Int)) (a : Act) (w : World) : Prop :=
  ∃ (σ : Nat → Value) (ra0 : Option Addr) (rn0 rc0 : Nat) (rf0 : List Nat), a = fr 6 (ovl σ [(2, (.slice ra0 rn0 rc0))]) ∧ Chg [] w0 w ∧ (RT.os 3 (RT.int .i64)).val M w (.slice ra0 rn0 rc0) r rf0 ∧ Option.isNone ra0 = false ∧ Own (Nw w0 []) (fun _ => True) w (rf0 ++ ([]))
def s_impl_clone (list : List Int) : Option ((List Int)) :=
  (app ([]) list).bind fun y5 =>
  some y5
set_option maxHeartbeats 4000000 in
theorem c_impl_clone {M : Nat → Prop} {w : World} {pa0 : Option Addr} {pn0 pc0 : Nat} (list : List Int) (h0 : (RT.rs (RT.int .i64)).val M w (.slice pa0 pn0 pc0) list ([])) (hM : ∀ g, w.heap.size ≤ g → M g) {r : (List Int)} (hs : s_impl_clone list = some r) :
    Gives Try.prog 99 [(.slice pa0 pn0 pc0)] w (fun v w' => ∃ (ra0 : Option Addr) (rn0 rc0 : Nat) (rf0 : List Nat), v = (.slice ra0 rn0 rc0) ∧ Chg [] w w' ∧ (RT.os 3 (RT.int .i64)).val M w' (.slice ra0 rn0 rc0) r rf0 ∧ Option.isNone ra0 = false ∧ Own (Nw w []) (fun _ => True) w' (rf0 ++ ([]))) := by
 refine calls_fr Try.func99 rfl Try.ntmps99 (Nat.le_of_ble_eq_true rfl) ?_
 have hO := Own.start (N := Nw w []) hM Nw.fut
 have hC := Chg.refl [] w
 unfold s_impl_clone at hs
 refine wp_mono (Q := KPost (k_impl_clone M w r)) ?_ (fun e a b9 h => ?_)
 rotate_left
 ·cases e
  case ret =>
   obtain ⟨σ, ra0, rn0, rc0, rf0, rfl, hrest⟩ := h
   exact ret1x Try.results99 (res_tmp rfl) ⟨ra0, rn0, rc0, rf0, rfl, hrest⟩
  all_goals exact (h : False).elim
 refine c_sr ?_
 refine pl_val (.slice none 0 0) (y_assign rfl) ?_
 refine c_nil ?_
 refine c_sr ?_
 obtain ⟨a8, a1, b2, a9, a2, b0⟩ := new_block w [] 3
 refine pl_val (w' := a8) (.slice (some ⟨a1, 0, none⟩) 0 0) (y_bslice rfl (by rw [b2, a9]; kernel_rfl)) ?_
 have h0 := h0.ext a2
 have hC := hC.ext a2
 have hO := hO.new1 a2 a9 b0.lt
 have a0 := os_of_box (r := (RT.int .i64)) (M := M) (css := []) (fps := []) (xs := ([] : List Int)) b0 trivial (Nat.zero_le _) (List.nodup_cons.2 ⟨(fun h => nomatch h), List.nodup_nil⟩)
 have a0 : (RT.os 3 (RT.int .i64)).val M a8 (.slice (some ⟨a1, 0, none⟩) 0 0) [] [a1] := a0
 refine pl_val (.slice pa0 pn0 pc0) (y_move rfl) ?_
 obtain ⟨y5, b3, hs⟩ := bind_some hs
 obtain ⟨a3, a4, a5, b4, b5, b6, a6, b7, a7, b8⟩ := app_rs_nn Rw25 b3 a0 h0 hO.inM
 have b1 := os_block a0
 refine pl_val (w' := b4) (.slice a3 a4 a5) (y_append rfl rfl (b6 _)) ?_
 have h0 := h0.mt a6 hO b1
 have hC := hC.st a6 hO b1
 have hO := hO.grow a6 b7 (os_nodup a7) a7.fpl
 refine pl_val (.slice a3 a4 a5) (y_assign rfl) ?_
 refine c_nil ?_
 refine wp_ret ?_
 cases hs
 exact ⟨_, a3, a4, a5, b5, fr_ovl 6 ⟨rfl, trivial⟩, hC, a7, b8, hO.top⟩

def k_impl_unite (M : Nat → Prop) (w0 : World) (qa0 : Option Addr) (qn0 qc0 : Nat) (qf0 : List Nat) (r : Bool × (List Int)) (a : Act) (w : World) : Prop :=
  ∃ (σ : Nat → Value) (rfi0 : List Nat), a = fr 40 (ovl σ [(6, (.bool r.1))]) ∧ Chg (qf0 ++ ([])) w0 w ∧ (RT.os 3 (RT.int .i64)).val M w (.slice qa0 qn0 qc0) r.2 rfi0 ∧ Own (Nw w0 (qf0 ++ ([]))) (fun _ => True) w (rfi0 ++ ([]))
def s_impl_unite (p : List Int) (x_ : Int) (y : Int) : Option (Bool × (List Int)) :=
  (idx p x_).bind fun x8 =>
  (idx p y).bind fun x10 =>
  (bif (x8 == x10) then some (false, p) else (bif (decide (x10 < x8)) then some (x10, x8) else some (x8, x10)).bind fun s13 =>
  (forC (S := (List Int)) (R := Bool × (List Int)) (fun k32 s30 =>
  (idx s30 k32).bind fun x38 =>
  (bif (x38 == s13.2) then (idx s30 k32).bind fun x41 =>
  some (.nx (List.set s30 (Int.toNat k32) s13.1)) else some (.nx s30))) 0 (p.length : Int) p).bind fun o34 => after o34 (fun r_ => some r_) (fun s30 =>
  some (true, s30)))
set_option maxHeartbeats 4000000 in
theorem c_impl_unite {M : Nat → Prop} {w : World} {pa0 : Option Addr} {pn0 pc0 : Nat} {pf0 : List Nat} (p : List Int) (x_ : Int) (y : Int) (h0 : (RT.os 3 (RT.int .i64)).val M w (.slice pa0 pn0 pc0) p pf0) (hI : Own (Nw w (pf0 ++ ([]))) M w (pf0 ++ ([]))) (hM : ∀ g, w.heap.size ≤ g → M g) {r : Bool × (List Int)} (hs : s_impl_unite p x_ y = some r) :
    Gives Try.prog 100 [(.slice pa0 pn0 pc0), (.int .i64 x_), (.int .i64 y)] w (fun v w' => ∃ (rfi0 : List Nat), v = (.bool r.1) ∧ Chg (pf0 ++ ([])) w w' ∧ (RT.os 3 (RT.int .i64)).val M w' (.slice pa0 pn0 pc0) r.2 rfi0 ∧ Own (Nw w (pf0 ++ ([]))) (fun _ => True) w' (rfi0 ++ ([]))) := by
 refine calls_fr Try.func100 rfl Try.ntmps100 (Nat.le_of_ble_eq_true rfl) ?_
 have hO := hI
 have hC := Chg.refl (pf0 ++ ([])) w
 unfold s_impl_unite at hs
 refine wp_mono (Q := KPost (k_impl_unite M w pa0 pn0 pc0 pf0 r)) ?_ (fun e a b4 h => ?_)
 rotate_left
 ·cases e
  case ret =>
   obtain ⟨σ, rfi0, rfl, hrest⟩ := h
   exact ret1x Try.results100 (res_tmp rfl) ⟨rfi0, rfl, hrest⟩
  all_goals exact (h : False).elim
 refine c_sr ?_
 refine pl_val (.bool false) (y_assign rfl) ?_
 refine c_nil ?_
 refine c_seq ?_
 refine x_start [] Mx rfl ?_
 have a3 := Chg.drew w
 generalize World.drew w = b5 at a3 ⊢
 have h0 := h0.ext a3
 have hC := hC.ext a3
 have hO := hO.ext a3
 have hS := Chg.refl [] b5
 refine x_p 0 (.slice pa0 pn0 pc0) rfl (by kernel_rfl)  (fun _ => y_move rfl) (fun _ => hS) ?_
 refine x_p 1 (.int .i64 x_) rfl (by kernel_rfl)  (fun _ => y_move rfl) (fun _ => hS) ?_
 obtain ⟨x8, b6, hs⟩ := bind_some hs
 obtain ⟨b7, d9, e0, e1, b8, b9, e2⟩ := os_idx Sl25 Sz3 h0 b6
 refine x_p 2 (.pointer (some ⟨b7, 0 + Int.toNat x_ * 1, none⟩)) rfl (by kernel_rfl)  (fun _ => b8 _ _ _ _ _ _ _ _ _ rfl rfl) (fun _ => hS) ?_
 refine x_l 3 (.int .i64 x8) rfl (by kernel_rfl)  (fun w' hw' => y_load rfl ((at_load_int Ag3 Sz3 b9) w' hw')) hS ?_
 refine x_p 4 (.slice pa0 pn0 pc0) rfl (by kernel_rfl)  (fun _ => y_move rfl) (fun _ => hS) ?_
 refine x_p 5 (.int .i64 y) rfl (by kernel_rfl)  (fun _ => y_move rfl) (fun _ => hS) ?_
 obtain ⟨x10, c0, hs⟩ := bind_some hs
 obtain ⟨c1, e3, e4, e5, c2, c3, e6⟩ := os_idx Sl25 Sz3 h0 c0
 refine x_p 6 (.pointer (some ⟨c1, 0 + Int.toNat y * 1, none⟩)) rfl (by kernel_rfl)  (fun _ => c2 _ _ _ _ _ _ _ _ _ rfl rfl) (fun _ => hS) ?_
 refine x_l 7 (.int .i64 x10) rfl (by kernel_rfl)  (fun w' hw' => y_load rfl ((at_load_int Ag3 Sz3 c3) w' hw')) hS ?_
 refine x_p 8 (.int .i64 x8) rfl (by kernel_rfl)  (fun _ => y_assign rfl) (fun _ => hS) ?_
 refine x_p 9 (.int .i64 x10) rfl (by kernel_rfl)  (fun _ => y_assign rfl) (fun _ => hS) ?_
 refine x_end (by kernel_rfl) ?_
 clear hS
 refine c_seq ?_
 refine c_sr ?_
 refine pl_val (.int .i64 x8) (y_move rfl) ?_
 refine pl_val (.int .i64 x10) (y_move rfl) ?_
 refine pl_val (.bool (x8 == x10)) (y_eql rfl rfl) ?_
 refine c_nil ?_
 rcases bif_some hs with ⟨a6, hs⟩ | ⟨a6, hs⟩
 ·refine c_condT (congrArg Value.bool a6) ?_
  refine c_sr ?_
  refine pl_val (.bool false) (y_assign rfl) ?_
  refine c_nil ?_
  refine wp_ret ?_
  cases hs
  exact ⟨_, pf0, fr_ovl 40 ⟨rfl, trivial⟩, hC, h0, hO.top⟩
 refine c_condF (congrArg Value.bool a6) ?_
 refine wp_skip ?_
 refine c_seq ?_
 refine c_sr ?_
 refine pl_val (.int .i64 x8) (y_move rfl) ?_
 refine pl_val (.int .i64 x10) (y_move rfl) ?_
 refine pl_val (.bool (decide (x10 < x8))) (y_gtr rfl rfl) ?_
 refine c_nil ?_
 obtain ⟨s13, c4, hs⟩ := bind_some hs
 refine c_mid (I := fun a a4 => ∃ (σ : Nat → Value), a = fr 40 (ovl σ [(0, (.slice pa0 pn0 pc0)), (1, (.int .i64 s13.1)), (2, (.int .i64 s13.2))]) ∧ Chg (pf0 ++ ([])) w a4 ∧ Own (Nw w (pf0 ++ ([]))) M a4 (pf0 ++ []) ∧ (RT.os 3 (RT.int .i64)).val M a4 (.slice pa0 pn0 pc0) p pf0) ?_ ?_
 ·replace hs := c4
  rcases bif_some hs with ⟨a7, hs⟩ | ⟨a7, hs⟩
  ·refine c_condT (congrArg Value.bool a7) ?_
   refine c_region ?_
   refine pl_val (.int .i64 x10) (y_move rfl) ?_
   refine pl_val (.int .i64 x8) (y_move rfl) ?_
   refine pl_val (.int .i64 x10) (y_assign rfl) ?_
   refine pl_val (.int .i64 x8) (y_assign rfl) ?_
   refine c_nil ?_
   cases hs
   exact ⟨_, fr_ovl 40 ⟨rfl, rfl, rfl, trivial⟩, hC, hO, h0⟩
  refine c_condF (congrArg Value.bool a7) ?_
  refine wp_skip ?_
  cases hs
  exact ⟨_, fr_ovl 40 ⟨rfl, rfl, rfl, trivial⟩, hC, hO, h0⟩
 rintro b0 a4 ⟨σ, rfl, hC, hO, h0⟩
 refine c_seq ?_
 refine c_sr ?_
 refine pl_val (.slice pa0 pn0 pc0) (y_move rfl) ?_
 refine pl_val (.int .i64 (p.length : Int)) (y_len' Sl25 (os_len h0) rfl) ?_
 refine pl_val (.int .i64 0) (y_move rfl) ?_
 refine c_nil ?_
 obtain ⟨o34, c5, hs⟩ := bind_some hs
 refine wp_block ?_
 refine wp_forC (id := 0) (p.length : Int) (I := fun k32 s30 a a0 => ∃ (σ : Nat → Value) (a2 : List Nat), a = fr 40 (ovl σ [(0, (.slice pa0 pn0 pc0)), (1, (.int .i64 s13.1)), (2, (.int .i64 s13.2)), (25, (.int .i64 (p.length : Int))), (26, (.int .i64 k32))]) ∧ Chg (pf0 ++ ([])) w a0 ∧ Own (Nw w (pf0 ++ ([]))) M a0 (a2 ++ []) ∧ (RT.os 3 (RT.int .i64)).val M a0 (.slice pa0 pn0 pc0) s30 a2) (J := fun s30 a a0 => ∃ (σ : Nat → Value) (a5 : List Nat), a = fr 40 (ovl σ []) ∧ Chg (pf0 ++ ([])) w a0 ∧ Own (Nw w (pf0 ++ ([]))) M a0 (a5 ++ []) ∧ (RT.os 3 (RT.int .i64)).val M a0 (.slice pa0 pn0 pc0) s30 a5) (K := (k_impl_unite M w pa0 pn0 pc0 pf0)) ?_ ?_ 0 p o34 _ _ ?_ c5 ?_
 ·rintro k32 s30 a a0 ⟨σ, a2, rfl, hC, hO, a1⟩ hlt
  refine c_sr ?_
  refine pl_val (.bool (decide (k32 < (p.length : Int)))) (y_lss rfl rfl) ?_
  refine c_nil ?_
  refine c_seq ?_
  refine c_condF (congrArg Value.bool (decide_eq_false hlt)) ?_
  refine wp_exit ?_
  exact ⟨rfl, _, a2, fr_ovl 40 trivial, hC, hO, a1⟩
 ·rintro k32 s30 o34 a a0 ⟨σ, a2, rfl, hC, hO, a1⟩ hlt hw hs
  refine c_sr ?_
  refine pl_val (.bool (decide (k32 < (p.length : Int)))) (y_lss rfl rfl) ?_
  refine c_nil ?_
  refine c_seq ?_
  refine c_condT (congrArg Value.bool (decide_eq_true hlt)) ?_
  refine wp_skip ?_
  refine c_seq ?_
  refine wp_block ?_
  refine c_sr ?_
  refine pl_val (.int .i64 k32) (y_move rfl) ?_
  refine pl_val (.int .i64 k32) (y_assign rfl) ?_
  refine c_nil ?_
  refine c_sr ?_
  refine pl_val (.slice pa0 pn0 pc0) (y_move rfl) ?_
  refine pl_val (.int .i64 k32) (y_move rfl) ?_
  obtain ⟨x38, c6, hs⟩ := bind_some hs
  obtain ⟨c7, e7, e8, e9, c8, c9, f0⟩ := os_idx Sl25 Sz3 a1 c6
  refine pl_val (.pointer (some ⟨c7, 0 + Int.toNat k32 * 1, none⟩)) (c8 _ _ _ _ _ _ _ _ _ rfl rfl) ?_
  refine pl_val (.int .i64 x38) (y_load rfl ((at_load_int Ag3 Sz3 c9) _ (Chg.refl _ _))) ?_
  refine pl_val (.int .i64 s13.2) (y_move rfl) ?_
  refine pl_val (.bool (x38 == s13.2)) (y_eql rfl rfl) ?_
  refine c_nil ?_
  rcases bif_some hs with ⟨a8, hs⟩ | ⟨a8, hs⟩
  ·refine c_condT (congrArg Value.bool a8) ?_
   refine c_region ?_
   refine pl_val (.slice pa0 pn0 pc0) (y_move rfl) ?_
   refine pl_val (.int .i64 k32) (y_move rfl) ?_
   refine pl_val (.int .i64 s13.1) (y_move rfl) ?_
   obtain ⟨x41, d0, hs⟩ := bind_some hs
   obtain ⟨b1, f1, b2, d1, d2, f2, f3⟩ := os_idx Sl25 Sz3 a1 d0
   refine pl_val (.pointer (some ⟨b1, 0 + Int.toNat k32 * 1, none⟩)) (d2 _ _ _ _ _ _ _ _ _ rfl rfl) ?_
   obtain ⟨d3, d4, d5, b3, d6, a9⟩ := os_store (P := Try.prog) (c' := [(.int .i64 s13.1)]) b2 a1 d1 (fun g hg => hO.inM g (os_block a1 g (by simpa using hg))) ⟨rfl, rfl⟩ List.nodup_nil (fun _ h => nomatch h) (fun _ h => .inl h)
   have d7 : ∀ q ∈ [b1], q ∈ a2 := fun q hq => os_block a1 q (by rw [b2]; exact hq)
   refine pl_skip (w' := d3) (ys_store rfl rfl (d5 _ _ rfl Sz3)) ?_
   have hC := hC.st b3 hO d7
   have hO := hO.grow b3 (fun q hq => .inl ((d6 q hq).resolve_right (fun h => nomatch h))) (os_nodup a9) a9.fpl
   refine c_nil ?_
   refine c_region ?_
   refine pl_val (.int .i64 (w64 (k32 + 1))) (y_add rfl rfl) ?_
   refine pl_val (.int .i64 (w64 (k32 + 1))) (y_move rfl) ?_
   refine c_nil ?_
   cases hs
   exact ⟨_, d4, fr_ovl 40 ⟨rfl, rfl, rfl, rfl, congrArg (Value.int .i64) hw, trivial⟩, hC, hO, a9⟩
  refine c_condF (congrArg Value.bool a8) ?_
  refine wp_skip ?_
  refine c_region ?_
  refine pl_val (.int .i64 (w64 (k32 + 1))) (y_add rfl rfl) ?_
  refine pl_val (.int .i64 (w64 (k32 + 1))) (y_move rfl) ?_
  refine c_nil ?_
  cases hs
  exact ⟨_, a2, fr_ovl 40 ⟨rfl, rfl, rfl, rfl, congrArg (Value.int .i64) hw, trivial⟩, hC, hO, a1⟩
 ·skip
  exact ⟨_, pf0, fr_ovl 40 ⟨rfl, rfl, rfl, rfl, rfl, trivial⟩, hC, hO, h0⟩
 cases o34 with
 | nx _ => exact True.intro
 | rt r_ =>
  have hs := after_rt hs
  intro b0 b4 hK
  cases hs
  exact hK
 | br s30 =>
  have hs := after_br hs
  rintro b0 a0 ⟨σ, a5, rfl, hC, hO, d8⟩
  refine c_sr ?_
  refine pl_val (.bool true) (y_assign rfl) ?_
  refine c_nil ?_
  refine wp_ret ?_
  cases hs
  exact ⟨_, a5, fr_ovl 40 ⟨rfl, trivial⟩, hC, d8, hO.top⟩

theorem Bd99 : Bodied Try.prog 99 := bodied Try.func99 (by kernel_rfl) rfl

theorem Bd100 : Bodied Try.prog 100 := bodied Try.func100 (by kernel_rfl) rfl

def k_impl_join (M : Nat → Prop) (w0 : World) (r : (List Int)) (a : Act) (w : World) : Prop :=
  ∃ (σ : Nat → Value) (ra0 : Option Addr) (rn0 rc0 : Nat) (rf0 : List Nat), a = fr 23 (ovl σ [(4, (.slice ra0 rn0 rc0))]) ∧ Chg [] w0 w ∧ (RT.os 3 (RT.int .i64)).val M w (.slice ra0 rn0 rc0) r rf0 ∧ Own (Nw w0 []) (fun _ => True) w (rf0 ++ ([]))
def s_impl_join (p : List Int) (q : List Int) : Option ((List Int)) :=
  (s_impl_clone p).bind fun r4 =>
  (forC (S := (List Int)) (R := (List Int)) (fun k17 s15 =>
  (idx q k17).bind fun x23 =>
  (s_impl_unite s15 k17 x23).bind fun r26 =>
  some (.nx r26.2)) 0 (q.length : Int) r4).bind fun o19 => after o19 (fun r_ => some r_) (fun s15 =>
  some s15)
set_option maxHeartbeats 4000000 in
theorem c_impl_join {M : Nat → Prop} {w : World} {pa0 : Option Addr} {pn0 pc0 : Nat} {pa1 : Option Addr} {pn1 pc1 : Nat} (p : List Int) (q : List Int) (h0 : (RT.rs (RT.int .i64)).val M w (.slice pa0 pn0 pc0) p ([])) (h1 : (RT.rs (RT.int .i64)).val M w (.slice pa1 pn1 pc1) q ([])) (hM : ∀ g, w.heap.size ≤ g → M g) {r : (List Int)} (hs : s_impl_join p q = some r) :
    Gives Try.prog 84 [(.slice pa0 pn0 pc0), (.slice pa1 pn1 pc1)] w (fun v w' => ∃ (ra0 : Option Addr) (rn0 rc0 : Nat) (rf0 : List Nat), v = (.slice ra0 rn0 rc0) ∧ Chg [] w w' ∧ (RT.os 3 (RT.int .i64)).val M w' (.slice ra0 rn0 rc0) r rf0 ∧ Own (Nw w []) (fun _ => True) w' (rf0 ++ ([]))) := by
 refine calls_fr Try.func84 rfl Try.ntmps84 (Nat.le_of_ble_eq_true rfl) ?_
 have hO := Own.start (N := Nw w []) hM Nw.fut
 have hC := Chg.refl [] w
 unfold s_impl_join at hs
 refine wp_mono (Q := KPost (k_impl_join M w r)) ?_ (fun e a b2 h => ?_)
 rotate_left
 ·cases e
  case ret =>
   obtain ⟨σ, ra0, rn0, rc0, rf0, rfl, hrest⟩ := h
   exact ret1x Try.results84 (res_tmp rfl) ⟨ra0, rn0, rc0, rf0, rfl, hrest⟩
  all_goals exact (h : False).elim
 refine c_sr ?_
 refine pl_val (.slice none 0 0) (y_assign rfl) ?_
 refine c_nil ?_
 refine c_sr ?_
 refine pl_val (.slice pa0 pn0 pc0) (y_move rfl) ?_
 obtain ⟨r4, b3, hs⟩ := bind_some hs
 refine pl_call Bd99 rfl (c_impl_clone (M := M) p h0 hO.fut b3) ?_
 rintro _ c8 ⟨a1, a2, a3, a9, rfl, a5, b4, c9, b5⟩
 have h0 := h0.ext a5
 have h1 := h1.ext a5
 have hC := hC.ext a5
 have hO := Own.join0 hO a5 b5
 have hO := hO.perm (R := a9 ++ ([])) (by simp)
 refine pl_val (.slice a1 a2 a3) (y_assign rfl) ?_
 refine c_nil ?_
 refine c_seq ?_
 refine c_sr ?_
 refine pl_val (.slice pa1 pn1 pc1) (y_move rfl) ?_
 refine pl_val (.int .i64 (q.length : Int)) (y_len' Sl25 (rs_len h1) rfl) ?_
 refine pl_val (.int .i64 0) (y_move rfl) ?_
 refine c_nil ?_
 obtain ⟨o19, b6, hs⟩ := bind_some hs
 refine wp_block ?_
 refine wp_forC (id := 0) (q.length : Int) (I := fun k17 s15 a a0 => ∃ (σ : Nat → Value) (a4 : List Nat), a = fr 23 (ovl σ [(5, (.slice a1 a2 a3)), (10, (.slice pa1 pn1 pc1)), (11, (.int .i64 (q.length : Int))), (12, (.int .i64 k17))]) ∧ Chg [] w a0 ∧ Own (Nw w []) M a0 (a4 ++ []) ∧ (RT.rs (RT.int .i64)).val M a0 (.slice pa1 pn1 pc1) q ([]) ∧ (RT.os 3 (RT.int .i64)).val M a0 (.slice a1 a2 a3) s15 a4) (J := fun s15 a a0 => ∃ (σ : Nat → Value) (a6 : List Nat), a = fr 23 (ovl σ [(5, (.slice a1 a2 a3))]) ∧ Chg [] w a0 ∧ Own (Nw w []) M a0 (a6 ++ []) ∧ (RT.rs (RT.int .i64)).val M a0 (.slice pa1 pn1 pc1) q ([]) ∧ (RT.os 3 (RT.int .i64)).val M a0 (.slice a1 a2 a3) s15 a6) (K := (k_impl_join M w)) ?_ ?_ 0 r4 o19 _ _ ?_ b6 ?_
 ·rintro k17 s15 a a0 ⟨σ, a4, rfl, hC, hO, h1, a7⟩ hlt
  refine c_sr ?_
  refine pl_val (.bool (decide (k17 < (q.length : Int)))) (y_lss rfl rfl) ?_
  refine c_nil ?_
  refine c_seq ?_
  refine c_condF (congrArg Value.bool (decide_eq_false hlt)) ?_
  refine wp_exit ?_
  exact ⟨rfl, _, a4, fr_ovl 23 ⟨rfl, trivial⟩, hC, hO, h1, a7⟩
 ·rintro k17 s15 o19 a a0 ⟨σ, a4, rfl, hC, hO, h1, a7⟩ hlt hw hs
  refine c_sr ?_
  refine pl_val (.bool (decide (k17 < (q.length : Int)))) (y_lss rfl rfl) ?_
  refine c_nil ?_
  refine c_seq ?_
  refine c_condT (congrArg Value.bool (decide_eq_true hlt)) ?_
  refine wp_skip ?_
  refine c_seq ?_
  refine wp_block ?_
  refine c_sr ?_
  refine pl_val (.int .i64 k17) (y_move rfl) ?_
  obtain ⟨x23, b7, hs⟩ := bind_some hs
  obtain ⟨b8, b9, c0, c1⟩ := rs_idx Sl25 Sz3 h1 b7
  refine pl_val (.pointer (some ⟨b8, b9, none⟩)) (c0 _ _ _ _ _ _ _ _ _ rfl rfl) ?_
  refine pl_val (.int .i64 x23) (y_load rfl ((at_load_int Ag3 Sz3 c1) _ (Chg.refl _ _))) ?_
  refine pl_val (.int .i64 k17) (y_assign rfl) ?_
  refine pl_val (.int .i64 x23) (y_assign rfl) ?_
  refine c_nil ?_
  refine c_region ?_
  refine pl_val (.slice a1 a2 a3) (y_move rfl) ?_
  refine pl_val (.int .i64 k17) (y_move rfl) ?_
  refine pl_val (.int .i64 x23) (y_move rfl) ?_
  have c2 := hO
  have b0 := Own.lend (F := (a4 ++ ([]))) (R := []) (Own.perm (c2) (by simp))
  obtain ⟨r26, c3, hs⟩ := bind_some hs
  refine pl_call Bd100 rfl (c_impl_unite (M := M) s15 k17 x23 a7 b0 b0.fut c3) ?_
  rintro _ d0 ⟨b1, rfl, a8, c4, c5⟩
  have hO := hO.perm (R := (a4 ++ ([])) ++ ([])) (by simp)
  have h1 := h1.mt a8 hO same_
  have hC := hC.st a8 hO same_
  have hO := Own.join hO a8 c5
  have hO := hO.perm (R := b1 ++ ([])) (by simp)
  refine c_nil ?_
  refine c_region ?_
  refine pl_val (.int .i64 (w64 (k17 + 1))) (y_add rfl rfl) ?_
  refine pl_val (.int .i64 (w64 (k17 + 1))) (y_move rfl) ?_
  refine c_nil ?_
  cases hs
  exact ⟨_, b1, fr_ovl 23 ⟨rfl, rfl, rfl, congrArg (Value.int .i64) hw, trivial⟩, hC, hO, h1, c4⟩
 ·skip
  exact ⟨_, a9, fr_ovl 23 ⟨rfl, rfl, rfl, rfl, trivial⟩, hC, hO, h1, b4⟩
 cases o19 with
 | nx _ => exact True.intro
 | rt r_ =>
  have hs := after_rt hs
  intro c6 b2 hK
  cases hs
  exact hK
 | br s15 =>
  have hs := after_br hs
  rintro c6 a0 ⟨σ, a6, rfl, hC, hO, h1, c7⟩
  refine c_sr ?_
  refine pl_val (.slice a1 a2 a3) (y_move rfl) ?_
  refine pl_val (.slice a1 a2 a3) (y_assign rfl) ?_
  refine c_nil ?_
  refine wp_ret ?_
  cases hs
  exact ⟨_, a1, a2, a3, a6, fr_ovl 23 ⟨rfl, trivial⟩, hC, c7, hO.top⟩

def k_impl_relationOfPartition (M : Nat → Prop) (w0 : World) (r : (Int × (List (List Int)))) (a : Act) (w : World) : Prop :=
  ∃ (σ : Nat → Value) (rg2 : Nat) (ra0 : Option Addr) (rn0 rc0 : Nat) (rf0 : List Nat), a = fr 37 (ovl σ [(2, (.pointer (some ⟨rg2, 0, none⟩)))]) ∧ BoxV w rg2 45 [(.int .i64 r.1), (.slice ra0 rn0 rc0)] ∧ Chg [] w0 w ∧ (RT.os 25 (RT.os 3 (RT.int .i64))).val M w (.slice ra0 rn0 rc0) r.2 rf0 ∧ Own (Nw w0 []) (fun _ => True) w (rf0 ++ ([]))
def s_impl_relationOfPartition (p : List Int) : Option ((Int × (List (List Int)))) :=
  (forC (S := (List (List Int))) (R := (Int × (List (List Int)))) (fun k150 s148 =>
  (forC (S := (List (List Int))) (R := (Int × (List (List Int)))) (fun k200 s198 =>
  (idx p k150).bind fun x214 =>
  (idx p k200).bind fun x216 =>
  (bif (x214 == x216) then (app s198 ([[k150, k200]])).bind fun y224 =>
  some (.nx y224) else some (.nx s198))) 0 (p.length : Int) s148).bind fun o202 => after o202 (fun r_ => some (.rt r_)) (fun s198 =>
  some (.nx s198))) 0 (p.length : Int) ([])).bind fun o152 => after o152 (fun r_ => some r_) (fun s148 =>
  some (2, s148))
set_option maxHeartbeats 4000000 in
theorem c_impl_relationOfPartition {M : Nat → Prop} {w : World} {pa0 : Option Addr} {pn0 pc0 : Nat} (p : List Int) (h0 : (RT.rs (RT.int .i64)).val M w (.slice pa0 pn0 pc0) p ([])) (hM : ∀ g, w.heap.size ≤ g → M g) {r : (Int × (List (List Int)))} (hs : s_impl_relationOfPartition p = some r) :
    Gives Try.prog 83 [(.slice pa0 pn0 pc0)] w (fun v w' => ∃ (ra0 : Option Addr) (rn0 rc0 : Nat) (rf0 : List Nat), v = (.agg #[(.int .i64 r.1), (.slice ra0 rn0 rc0)]) ∧ Chg [] w w' ∧ (RT.os 25 (RT.os 3 (RT.int .i64))).val M w' (.slice ra0 rn0 rc0) r.2 rf0 ∧ Own (Nw w []) (fun _ => True) w' (rf0 ++ ([]))) := by
 refine calls_fr Try.func83 rfl Try.ntmps83 (Nat.le_of_ble_eq_true rfl) ?_
 have hO := Own.start (N := Nw w []) hM Nw.fut
 have hC := Chg.refl [] w
 unfold s_impl_relationOfPartition at hs
 refine wp_mono (Q := KPost (k_impl_relationOfPartition M w r)) ?_ (fun e a e8 h => ?_)
 rotate_left
 ·cases e
  case ret =>
   obtain ⟨σ, rg2, ra0, rn0, rc0, rf0, rfl, hbrg2, hrest⟩ := h
   exact ret1x Try.results83 (res_cell rfl (box_load Ag45 Sz45 hbrg2 [] _ [] rfl rfl (fun h => nomatch h))) ⟨ra0, rn0, rc0, rf0, rfl, hrest⟩
  all_goals exact (h : False).elim
 refine c_sr ?_
 obtain ⟨e9, a4, g2, f0, d9, a0⟩ := new_block w [(.int .i64 0), (.slice none 0 0)] 45
 refine pl_val (w' := e9) (.pointer (some ⟨a4, 0, none⟩)) (y_alloc (by rw [g2, f0]; kernel_rfl)) ?_
 have h0 := h0.ext d9
 have hC := hC.ext d9
 have hO := hO.new1 d9 f0 a0.lt
 refine c_nil ?_
 refine c_sr ?_
 refine pl_val (.agg #[(.int .i64 2), (.slice none 0 0)]) (y_build rfl (by kernel_rfl)) ?_
 obtain ⟨g3, a2, g4, f1, c7, f2⟩ := new_block e9 [(.int .i64 0), (.slice none 0 0)] 45
 refine pl_val (w' := g3) (.pointer (some ⟨a2, 0, none⟩)) (y_alloc (by rw [g4, f1]; kernel_rfl)) ?_
 have h0 := h0.ext c7
 have a0 := a0.cn c7
 have hC := hC.ext c7
 have hO := hO.new1 c7 f1 f2.lt
 obtain ⟨f3, g5, c8, a1⟩ := box_store (P := Try.prog) f2 [] [(.int .i64 0), (.slice none 0 0)] [] [(.int .i64 2), (.slice none 0 0)] rfl rfl (by intro u hu; simp only [List.mem_cons, List.not_mem_nil, or_false] at hu; rcases hu with rfl | rfl <;> rfl)
 refine pl_skip (w' := f3) (ys_store rfl rfl (g5 _ _ rfl Sz45)) ?_
 have h0 := h0.mt c8 hO same_
 have a0 := a0.ap c8 hO same_ (mem_l (List.mem_singleton.2 rfl))
 have hC := hC.st c8 hO same_
 have hO := hO.ext c8
 have a1 : BoxV f3 a2 45 [(.int .i64 2), (.slice none 0 0)] := a1
 refine c_nil ?_
 refine c_seq ?_
 refine c_sr ?_
 refine pl_val (.slice pa0 pn0 pc0) (y_move rfl) ?_
 refine pl_val (.int .i64 (p.length : Int)) (y_len' Sl25 (rs_len h0) rfl) ?_
 refine pl_val (.int .i64 0) (y_move rfl) ?_
 refine c_nil ?_
 obtain ⟨o152, g6, hs⟩ := bind_some hs
 refine wp_block ?_
 refine wp_forC (id := 0) (p.length : Int) (I := fun k150 s148 a a5 => ∃ (σ : Nat → Value) (b7 : Option Addr) (b8 : Nat) (b9 : Nat) (c0 : List Nat), a = fr 37 (ovl σ [(0, (.slice pa0 pn0 pc0)), (2, (.pointer (some ⟨a4, 0, none⟩))), (3, (.pointer (some ⟨a2, 0, none⟩))), (8, (.int .i64 (p.length : Int))), (9, (.int .i64 k150))]) ∧ Chg [] w a5 ∧ Own (Nw w []) M a5 (c0 ++ (([a2]) ++ (([a4]) ++ []))) ∧ (RT.rs (RT.int .i64)).val M a5 (.slice pa0 pn0 pc0) p ([]) ∧ BoxV a5 a4 45 [(.int .i64 0), (.slice none 0 0)] ∧ BoxV a5 a2 45 [(.int .i64 2), (.slice b7 b8 b9)] ∧ (RT.os 25 (RT.os 3 (RT.int .i64))).val M a5 (.slice b7 b8 b9) s148 c0) (J := fun s148 a a5 => ∃ (σ : Nat → Value) (b0 : Option Addr) (b1 : Nat) (b2 : Nat) (c9 : List Nat), a = fr 37 (ovl σ [(2, (.pointer (some ⟨a4, 0, none⟩))), (3, (.pointer (some ⟨a2, 0, none⟩)))]) ∧ Chg [] w a5 ∧ Own (Nw w []) M a5 (c9 ++ (([a2]) ++ (([a4]) ++ []))) ∧ (RT.rs (RT.int .i64)).val M a5 (.slice pa0 pn0 pc0) p ([]) ∧ BoxV a5 a4 45 [(.int .i64 0), (.slice none 0 0)] ∧ BoxV a5 a2 45 [(.int .i64 2), (.slice b0 b1 b2)] ∧ (RT.os 25 (RT.os 3 (RT.int .i64))).val M a5 (.slice b0 b1 b2) s148 c9) (K := (k_impl_relationOfPartition M w)) ?_ ?_ 0 ([]) o152 _ _ ?_ g6 ?_
 ·rintro k150 s148 a a5 ⟨σ, b7, b8, b9, c0, rfl, hC, hO, h0, a0, a1, e0⟩ hlt
  refine c_sr ?_
  refine pl_val (.bool (decide (k150 < (p.length : Int)))) (y_lss rfl rfl) ?_
  refine c_nil ?_
  refine c_seq ?_
  refine c_condF (congrArg Value.bool (decide_eq_false hlt)) ?_
  refine wp_exit ?_
  have hO := hO.fr2
  have hO := hO.fr2
  have hO := hO.fr2
  exact ⟨rfl, _, b7, b8, b9, c0, fr_ovl 37 ⟨rfl, rfl, trivial⟩, hC, hO, h0, a0, a1, e0⟩
 ·rintro k150 s148 o152 a a5 ⟨σ, b7, b8, b9, c0, rfl, hC, hO, h0, a0, a1, e0⟩ hlt hw hs
  refine c_sr ?_
  refine pl_val (.bool (decide (k150 < (p.length : Int)))) (y_lss rfl rfl) ?_
  refine c_nil ?_
  refine c_seq ?_
  refine c_condT (congrArg Value.bool (decide_eq_true hlt)) ?_
  refine wp_skip ?_
  refine c_seq ?_
  refine wp_block ?_
  refine c_sr ?_
  refine pl_val (.int .i64 k150) (y_move rfl) ?_
  refine pl_val (.int .i64 k150) (y_assign rfl) ?_
  refine c_nil ?_
  refine c_sr ?_
  refine pl_val (.slice pa0 pn0 pc0) (y_move rfl) ?_
  refine pl_val (.int .i64 (p.length : Int)) (y_len' Sl25 (rs_len h0) rfl) ?_
  refine pl_val (.int .i64 0) (y_move rfl) ?_
  refine c_nil ?_
  obtain ⟨o202, g7, hs⟩ := bind_some hs
  refine wp_block ?_
  refine wp_forC (id := 2) (p.length : Int) (I := fun k200 s198 a a3 => ∃ (σ : Nat → Value) (a7 : Option Addr) (a8 : Nat) (a9 : Nat) (b4 : List Nat), a = fr 37 (ovl σ [(0, (.slice pa0 pn0 pc0)), (2, (.pointer (some ⟨a4, 0, none⟩))), (3, (.pointer (some ⟨a2, 0, none⟩))), (4, (.int .i64 k150)), (8, (.int .i64 (p.length : Int))), (9, (.int .i64 k150)), (13, (.int .i64 (p.length : Int))), (14, (.int .i64 k200))]) ∧ Chg [] w a3 ∧ Own (Nw w []) M a3 (b4 ++ (([a2]) ++ (([a4]) ++ []))) ∧ (RT.rs (RT.int .i64)).val M a3 (.slice pa0 pn0 pc0) p ([]) ∧ BoxV a3 a4 45 [(.int .i64 0), (.slice none 0 0)] ∧ BoxV a3 a2 45 [(.int .i64 2), (.slice a7 a8 a9)] ∧ (RT.os 25 (RT.os 3 (RT.int .i64))).val M a3 (.slice a7 a8 a9) s198 b4) (J := fun s198 a a3 => ∃ (σ : Nat → Value) (d0 : Option Addr) (d1 : Nat) (d2 : Nat) (d3 : List Nat), a = fr 37 (ovl σ [(0, (.slice pa0 pn0 pc0)), (2, (.pointer (some ⟨a4, 0, none⟩))), (3, (.pointer (some ⟨a2, 0, none⟩))), (8, (.int .i64 (p.length : Int))), (9, (.int .i64 k150))]) ∧ Chg [] w a3 ∧ Own (Nw w []) M a3 (d3 ++ (([a2]) ++ (([a4]) ++ []))) ∧ (RT.rs (RT.int .i64)).val M a3 (.slice pa0 pn0 pc0) p ([]) ∧ BoxV a3 a4 45 [(.int .i64 0), (.slice none 0 0)] ∧ BoxV a3 a2 45 [(.int .i64 2), (.slice d0 d1 d2)] ∧ (RT.os 25 (RT.os 3 (RT.int .i64))).val M a3 (.slice d0 d1 d2) s198 d3) (K := (k_impl_relationOfPartition M w)) ?_ ?_ 0 s148 o202 _ _ ?_ g7 ?_
  ·rintro k200 s198 a a3 ⟨σ, a7, a8, a9, b4, rfl, hC, hO, h0, a0, a1, a6⟩ hlt
   refine c_sr ?_
   refine pl_val (.bool (decide (k200 < (p.length : Int)))) (y_lss rfl rfl) ?_
   refine c_nil ?_
   refine c_seq ?_
   refine c_condF (congrArg Value.bool (decide_eq_false hlt)) ?_
   refine wp_exit ?_
   have hO := hO.fr2
   have hO := hO.fr2
   have hO := hO.fr2
   exact ⟨rfl, _, a7, a8, a9, b4, fr_ovl 37 ⟨rfl, rfl, rfl, rfl, rfl, trivial⟩, hC, hO, h0, a0, a1, a6⟩
  ·rintro k200 s198 o202 a a3 ⟨σ, a7, a8, a9, b4, rfl, hC, hO, h0, a0, a1, a6⟩ hlt hw hs
   refine c_sr ?_
   refine pl_val (.bool (decide (k200 < (p.length : Int)))) (y_lss rfl rfl) ?_
   refine c_nil ?_
   refine c_seq ?_
   refine c_condT (congrArg Value.bool (decide_eq_true hlt)) ?_
   refine wp_skip ?_
   refine c_seq ?_
   refine wp_block ?_
   refine c_sr ?_
   refine pl_val (.int .i64 k200) (y_move rfl) ?_
   refine pl_val (.int .i64 k200) (y_assign rfl) ?_
   refine c_nil ?_
   refine c_seq ?_
   refine x_start [] Mx rfl ?_
   have b5 := Chg.drew a3
   generalize World.drew a3 = f4 at b5 ⊢
   have h0 := h0.ext b5
   have a0 := a0.cn b5
   have a1 := a1.cn b5
   have a6 := a6.ext b5
   have hC := hC.ext b5
   have hO := hO.ext b5
   have hS := Chg.refl [] f4
   refine x_p 0 (.slice pa0 pn0 pc0) rfl (by kernel_rfl)  (fun _ => y_move rfl) (fun _ => hS) ?_
   refine x_p 1 (.int .i64 k150) rfl (by kernel_rfl)  (fun _ => y_move rfl) (fun _ => hS) ?_
   obtain ⟨x214, g8, hs⟩ := bind_some hs
   obtain ⟨g9, h1, h2, h3⟩ := rs_idx Sl25 Sz3 h0 g8
   refine x_p 2 (.pointer (some ⟨g9, h1, none⟩)) rfl (by kernel_rfl)  (fun _ => h2 _ _ _ _ _ _ _ _ _ rfl rfl) (fun _ => hS) ?_
   refine x_l 3 (.int .i64 x214) rfl (by kernel_rfl)  (fun w' hw' => y_load rfl ((at_load_int Ag3 Sz3 h3) w' hw')) hS ?_
   refine x_p 4 (.slice pa0 pn0 pc0) rfl (by kernel_rfl)  (fun _ => y_move rfl) (fun _ => hS) ?_
   refine x_p 5 (.int .i64 k200) rfl (by kernel_rfl)  (fun _ => y_move rfl) (fun _ => hS) ?_
   obtain ⟨x216, h4, hs⟩ := bind_some hs
   obtain ⟨h5, h6, h7, h8⟩ := rs_idx Sl25 Sz3 h0 h4
   refine x_p 6 (.pointer (some ⟨h5, h6, none⟩)) rfl (by kernel_rfl)  (fun _ => h7 _ _ _ _ _ _ _ _ _ rfl rfl) (fun _ => hS) ?_
   refine x_l 7 (.int .i64 x216) rfl (by kernel_rfl)  (fun w' hw' => y_load rfl ((at_load_int Ag3 Sz3 h8) w' hw')) hS ?_
   refine x_p 8 (.bool (x214 == x216)) rfl (by kernel_rfl)  (fun _ => y_eql rfl rfl) (fun _ => hS) ?_
   refine x_end (by kernel_rfl) ?_
   clear hS
   rcases bif_some hs with ⟨e1, hs⟩ | ⟨e1, hs⟩
   ·refine c_condT (congrArg Value.bool e1) ?_
    refine c_region ?_
    refine pl_val (.pointer (some ⟨a2, 1, none⟩)) (y_faddr rfl Fa45x1) ?_
    refine pl_val (.slice a7 a8 a9) (y_load rfl ((box_load Ag43 Sz43 a1 [(.int .i64 2)] [(.slice a7 a8 a9)] [] rfl rfl (fun _ => rfl)) _ (Chg.refl _ _))) ?_
    refine pl_val (.int .i64 k150) (y_move rfl) ?_
    refine pl_val (.int .i64 k200) (y_move rfl) ?_
    obtain ⟨e2, b3, h9, f5, c1, f6⟩ := new_block f4 [(.int .i64 k150), (.int .i64 k200)] 3
    refine pl_val (w' := e2) (.slice (some ⟨b3, 0, none⟩) 2 2) (y_bslice rfl (by rw [h9, f5]; kernel_rfl)) ?_
    have h0 := h0.ext c1
    have a0 := a0.cn c1
    have a1 := a1.cn c1
    have a6 := a6.ext c1
    have hC := hC.ext c1
    have hO := hO.new1 c1 f5 f6.lt
    have c2 := os_of_box (r := (RT.int .i64)) (M := M) (css := [[(.int .i64 k150)], [(.int .i64 k200)]]) (fps := [([] : List Nat), ([] : List Nat)]) (xs := ([k150, k200] : List Int)) f6 ⟨⟨rfl, rfl⟩, ⟨⟨rfl, rfl⟩, trivial⟩⟩ (Nat.le_of_ble_eq_true rfl) (List.nodup_cons.2 ⟨(fun h => nomatch h), List.nodup_nil⟩)
    have c2 : (RT.os 3 (RT.int .i64)).val M e2 (.slice (some ⟨b3, 0, none⟩) 2 2) [k150, k200] [b3] := c2
    obtain ⟨f7, d4, i0, f8, b6, f9⟩ := new_block e2 [(.slice (some ⟨b3, 0, none⟩) 2 2)] 25
    refine pl_val (w' := f7) (.slice (some ⟨d4, 0, none⟩) 1 1) (y_bslice rfl (by rw [i0, f8]; kernel_rfl)) ?_
    have h0 := h0.ext b6
    have a0 := a0.cn b6
    have a1 := a1.cn b6
    have a6 := a6.ext b6
    have c2 := c2.ext b6
    have hC := hC.ext b6
    have hO := hO.new1 b6 f8 f9.lt
    have hO := hO.perm (R := (d4 :: ((([b3])) ++ ([]))) ++ (b4 ++ (([a2]) ++ (([a4]) ++ ([]))))) (by simp)
    have i1 := hO.nd
    have e3 := os_of_box (r := (RT.os 3 (RT.int .i64))) (M := M) (css := [[(.slice (some ⟨b3, 0, none⟩) 2 2)]]) (fps := [([b3] : List Nat)]) (xs := ([[k150, k200]] : List (List Int))) f9 ⟨(os_unval c2), trivial⟩ (Nat.le_of_ble_eq_true rfl) i1
    have e3 : (RT.os 25 (RT.os 3 (RT.int .i64))).val M f7 (.slice (some ⟨d4, 0, none⟩) 1 1) [[k150, k200]] (d4 :: ((([b3])) ++ ([]))) := e3
    obtain ⟨y224, i2, hs⟩ := bind_some hs
    have hO := hO.fr1
    obtain ⟨d5, d6, d7, i3, i4, i5, c3, i6, c4⟩ := app_os Rw43 i2 a6 e3 hO.inM (fun g hg hq => hO.apart g hq (mem_l hg))
    have d8 := os_block a6
    refine pl_val (w' := i3) (.slice d5 d6 d7) (y_append rfl rfl (i5 _)) ?_
    have hO := hO.fr1
    have hO := hO.fr1
    have h0 := h0.mt c3 hO d8
    have a0 := a0.ap c3 hO d8 (mem_r (mem_r (mem_l (List.mem_singleton.2 rfl))))
    have a1 := a1.ap c3 hO d8 (mem_r (mem_l (List.mem_singleton.2 rfl)))
    have hC := hC.st c3 hO d8
    have hO := hO.eat c3 i6 (os_nodup c4) c4.fpl
    refine pl_val (.pointer (some ⟨a2, 1, none⟩)) (y_faddr rfl Fa45x1) ?_
    obtain ⟨g0, i7, c5, e4⟩ := box_store (P := Try.prog) a1 [(.int .i64 2)] [(.slice a7 a8 a9)] [] [(.slice d5 d6 d7)] rfl rfl (by intro u hu; simp only [List.mem_cons, List.not_mem_nil, or_false] at hu; rcases hu with rfl <;> rfl)
    refine pl_skip (w' := g0) (ys_store rfl rfl (i7 _ _ rfl Sz43)) ?_
    have hO := hO.fr1
    have h0 := h0.mt c5 hO same_
    have a0 := a0.ap c5 hO same_ (mem_r (mem_l (List.mem_singleton.2 rfl)))
    have c4 := c4.ma c5 hO same_ (fun _ e => (mem_l (e)))
    have hC := hC.st c5 hO same_
    have hO := hO.ext c5
    have e4 : BoxV g0 a2 45 [(.int .i64 2), (.slice d5 d6 d7)] := e4
    refine c_nil ?_
    refine c_region ?_
    refine pl_val (.int .i64 (w64 (k200 + 1))) (y_add rfl rfl) ?_
    refine pl_val (.int .i64 (w64 (k200 + 1))) (y_move rfl) ?_
    refine c_nil ?_
    cases hs
    have hO := hO.fr2
    have hO := hO.fr1
    have hO := hO.fr2
    exact ⟨_, d5, d6, d7, i4, fr_ovl 37 ⟨rfl, rfl, rfl, rfl, rfl, rfl, rfl, congrArg (Value.int .i64) hw, trivial⟩, hC, hO, h0, a0, e4, c4⟩
   refine c_condF (congrArg Value.bool e1) ?_
   refine wp_skip ?_
   refine c_region ?_
   refine pl_val (.int .i64 (w64 (k200 + 1))) (y_add rfl rfl) ?_
   refine pl_val (.int .i64 (w64 (k200 + 1))) (y_move rfl) ?_
   refine c_nil ?_
   cases hs
   have hO := hO.fr2
   have hO := hO.fr2
   have hO := hO.fr2
   exact ⟨_, a7, a8, a9, b4, fr_ovl 37 ⟨rfl, rfl, rfl, rfl, rfl, rfl, rfl, congrArg (Value.int .i64) hw, trivial⟩, hC, hO, h0, a0, a1, a6⟩
  ·skip
   have hO := hO.fr2
   have hO := hO.fr2
   have hO := hO.fr2
   exact ⟨_, b7, b8, b9, c0, fr_ovl 37 ⟨rfl, rfl, rfl, rfl, rfl, rfl, rfl, rfl, trivial⟩, hC, hO, h0, a0, a1, e0⟩
  cases o202 with
  | nx _ => exact True.intro
  | rt r_ =>
   have hs := after_rt hs
   intro e5 e8 hK
   cases hs
   exact hK
  | br s198 =>
   have hs := after_br hs
   rintro e5 a3 ⟨σ, d0, d1, d2, d3, rfl, hC, hO, h0, a0, a1, i9⟩
   refine c_region ?_
   refine pl_val (.int .i64 (w64 (k150 + 1))) (y_add rfl rfl) ?_
   refine pl_val (.int .i64 (w64 (k150 + 1))) (y_move rfl) ?_
   refine c_nil ?_
   cases hs
   have hO := hO.fr2
   have hO := hO.fr2
   have hO := hO.fr2
   exact ⟨_, d0, d1, d2, d3, fr_ovl 37 ⟨rfl, rfl, rfl, rfl, congrArg (Value.int .i64) hw, trivial⟩, hC, hO, h0, a0, a1, i9⟩
 ·skip
  have hO := hO.fr1
  have hO := hO.fr1
  have hO := hO.nil
  exact ⟨_, none, 0, 0, [], fr_ovl 37 ⟨rfl, rfl, rfl, rfl, rfl, trivial⟩, hC, hO, h0, a0, a1, os_nil⟩
 cases o152 with
 | nx _ => exact True.intro
 | rt r_ =>
  have hs := after_rt hs
  intro e5 e8 hK
  cases hs
  exact hK
 | br s148 =>
  have hs := after_br hs
  rintro e5 a5 ⟨σ, b0, b1, b2, c9, rfl, hC, hO, h0, a0, a1, e6⟩
  refine c_sr ?_
  refine pl_val (.agg #[(.int .i64 2), (.slice b0 b1 b2)]) (y_load rfl ((box_load Ag45 Sz45 a1 [] [(.int .i64 2), (.slice b0 b1 b2)] [] rfl rfl (fun h => nomatch h)) _ (Chg.refl _ _))) ?_
  obtain ⟨g1, j0, c6, e7⟩ := box_store (P := Try.prog) a0 [] [(.int .i64 0), (.slice none 0 0)] [] [(.int .i64 2), (.slice b0 b1 b2)] rfl rfl (by intro u hu; simp only [List.mem_cons, List.not_mem_nil, or_false] at hu; rcases hu with rfl | rfl <;> rfl)
  refine pl_skip (w' := g1) (ys_store rfl rfl (j0 _ _ rfl Sz45)) ?_
  have hO := hO.fr2
  have h0 := h0.mt c6 hO same_
  have a1 := a1.ap c6 hO same_ (mem_r (mem_l (List.mem_singleton.2 rfl)))
  have e6 := e6.ma c6 hO same_ (fun _ e => (mem_l (e)))
  have hC := hC.st c6 hO same_
  have hO := hO.ext c6
  have e7 : BoxV g1 a4 45 [(.int .i64 2), (.slice b0 b1 b2)] := e7
  refine c_nil ?_
  refine wp_ret ?_
  cases hs
  have hO := hO.drop
  have hO := hO.fr1
  have hO := hO.drop
  exact ⟨_, a4, b0, b1, b2, c9, fr_ovl 37 ⟨rfl, trivial⟩, e7, hC, e6, hO.top⟩

def k_impl_cloneRows (M : Nat → Prop) (w0 : World) (r : (List (List Int))) (a : Act) (w : World) : Prop :=
  ∃ (σ : Nat → Value) (ra0 : Option Addr) (rn0 rc0 : Nat) (rf0 : List Nat), a = fr 20 (ovl σ [(2, (.slice ra0 rn0 rc0))]) ∧ Chg [] w0 w ∧ (RT.os 25 (RT.os 3 (RT.int .i64))).val M w (.slice ra0 rn0 rc0) r rf0 ∧ Own (Nw w0 []) (fun _ => True) w (rf0 ++ ([]))
def s_impl_cloneRows (rows : List (List Int)) : Option ((List (List Int))) :=
  (forR (S := (List (List Int))) (R := (List (List Int))) (fun _ x20 s17 =>
  (s_impl_clone x20).bind fun r31 =>
  (app s17 ([r31])).bind fun y36 =>
  some (.nx y36)) 0 rows ([])).bind fun o21 => after o21 (fun r_ => some r_) (fun s17 =>
  some s17)
set_option maxHeartbeats 4000000 in
theorem c_impl_cloneRows {M : Nat → Prop} {w : World} {pa0 : Option Addr} {pn0 pc0 : Nat} (rows : List (List Int)) (h0 : (RT.rs (RT.rs (RT.int .i64))).val M w (.slice pa0 pn0 pc0) rows ([])) (hM : ∀ g, w.heap.size ≤ g → M g) {r : (List (List Int))} (hs : s_impl_cloneRows rows = some r) :
    Gives Try.prog 110 [(.slice pa0 pn0 pc0)] w (fun v w' => ∃ (ra0 : Option Addr) (rn0 rc0 : Nat) (rf0 : List Nat), v = (.slice ra0 rn0 rc0) ∧ Chg [] w w' ∧ (RT.os 25 (RT.os 3 (RT.int .i64))).val M w' (.slice ra0 rn0 rc0) r rf0 ∧ Own (Nw w []) (fun _ => True) w' (rf0 ++ ([]))) := by
 refine calls_fr Try.func110 rfl Try.ntmps110 (Nat.le_of_ble_eq_true rfl) ?_
 have hO := Own.start (N := Nw w []) hM Nw.fut
 have hC := Chg.refl [] w
 unfold s_impl_cloneRows at hs
 refine wp_mono (Q := KPost (k_impl_cloneRows M w r)) ?_ (fun e a d9 h => ?_)
 rotate_left
 ·cases e
  case ret =>
   obtain ⟨σ, ra0, rn0, rc0, rf0, rfl, hrest⟩ := h
   exact ret1x Try.results110 (res_tmp rfl) ⟨ra0, rn0, rc0, rf0, rfl, hrest⟩
  all_goals exact (h : False).elim
 refine c_sr ?_
 refine pl_val (.slice none 0 0) (y_assign rfl) ?_
 refine c_nil ?_
 refine c_sr ?_
 obtain ⟨d0, a5, e0, d1, b8, d2⟩ := new_block w [] 25
 refine pl_val (w' := d0) (.slice (some ⟨a5, 0, none⟩) 0 0) (y_bslice rfl (by rw [e0, d1]; kernel_rfl)) ?_
 have h0 := h0.ext b8
 have hC := hC.ext b8
 have hO := hO.new1 b8 d1 d2.lt
 have b9 := os_of_box (r := (RT.os 3 (RT.int .i64))) (M := M) (css := []) (fps := []) (xs := ([] : List (List Int))) d2 trivial (Nat.zero_le _) (List.nodup_cons.2 ⟨(fun h => nomatch h), List.nodup_nil⟩)
 have b9 : (RT.os 25 (RT.os 3 (RT.int .i64))).val M d0 (.slice (some ⟨a5, 0, none⟩) 0 0) [] [a5] := b9
 refine pl_val (.slice (some ⟨a5, 0, none⟩) 0 0) (y_assign rfl) ?_
 refine c_nil ?_
 refine c_seq ?_
 refine c_sr ?_
 refine pl_val (.slice pa0 pn0 pc0) (y_move rfl) ?_
 refine pl_val (.int .i64 (rows.length : Int)) (y_len' Sl43 (rs_len h0) rfl) ?_
 refine pl_val (.int .i64 0) (y_move rfl) ?_
 refine c_nil ?_
 obtain ⟨o21, e1, hs⟩ := bind_some hs
 refine wp_block ?_
 refine wp_forR (id := 0) (I := fun i_ xs_ s17 a a0 => ∃ a1 : Nat, i_ = (a1 : Int) ∧ List.drop a1 rows = xs_ ∧ (∃ (σ : Nat → Value) (a6 : Option Addr) (a7 : Nat) (a8 : Nat) (a4 : List Nat), a = fr 20 (ovl σ [(3, (.slice a6 a7 a8)), (7, (.slice pa0 pn0 pc0)), (8, (.int .i64 (rows.length : Int))), (9, (.int .i64 (a1 : Int)))]) ∧ Chg [] w a0 ∧ Own (Nw w []) M a0 (a4 ++ []) ∧ (RT.rs (RT.rs (RT.int .i64))).val M a0 (.slice pa0 pn0 pc0) rows ([]) ∧ (RT.os 25 (RT.os 3 (RT.int .i64))).val M a0 (.slice a6 a7 a8) s17 a4)) (J := fun s17 a a0 => ∃ (σ : Nat → Value) (a9 : Option Addr) (b0 : Nat) (b1 : Nat) (b4 : List Nat), a = fr 20 (ovl σ [(3, (.slice a9 b0 b1))]) ∧ Chg [] w a0 ∧ Own (Nw w []) M a0 (b4 ++ []) ∧ (RT.rs (RT.rs (RT.int .i64))).val M a0 (.slice pa0 pn0 pc0) rows ([]) ∧ (RT.os 25 (RT.os 3 (RT.int .i64))).val M a0 (.slice a9 b0 b1) s17 b4) (K := (k_impl_cloneRows M w)) ?_ ?_ rows 0 ([]) o21 _ _ ?_ e1 ?_
 ·rintro _ s17 a a0 ⟨a1, rfl, hd, σ, a6, a7, a8, a4, rfl, hC, hO, h0, a2⟩
  have hlt := drop_nil_ge hd
  refine c_sr ?_
  refine pl_val (.bool (decide ((a1 : Int) < (rows.length : Int)))) (y_lss rfl rfl) ?_
  refine c_nil ?_
  refine c_seq ?_
  refine c_condF (congrArg Value.bool (decide_eq_false hlt)) ?_
  refine wp_exit ?_
  exact ⟨rfl, _, a6, a7, a8, a4, fr_ovl 20 ⟨rfl, trivial⟩, hC, hO, h0, a2⟩
 ·rintro _ x20 xs_ s17 o21 a a0 ⟨a1, rfl, hd, σ, a6, a7, a8, a4, rfl, hC, hO, h0, a2⟩ hs
  have hlt := drop_cons_lt hd
  have e2 := drop_cons_idx hd
  refine c_sr ?_
  refine pl_val (.bool (decide ((a1 : Int) < (rows.length : Int)))) (y_lss rfl rfl) ?_
  refine c_nil ?_
  refine c_seq ?_
  refine c_condT (congrArg Value.bool (decide_eq_true hlt)) ?_
  refine wp_skip ?_
  refine c_seq ?_
  refine wp_block ?_
  refine c_sr ?_
  obtain ⟨e3, e4, e5, e6⟩ := rs_idx Sl43 Sz25 h0 e2
  refine pl_val (.pointer (some ⟨e3, e4, none⟩)) (e5 _ _ _ _ _ _ _ _ _ rfl rfl) ?_
  obtain ⟨g0, e7, a3⟩ := at_load Ag25 Sz25 (fun _ => rfl) e6
  obtain ⟨c0, c1, c2, rfl⟩ := rs_sl a3
  refine pl_val (.slice c0 c1 c2) (y_load rfl (e7 _ (Chg.refl _ _))) ?_
  refine pl_val (.slice c0 c1 c2) (y_assign rfl) ?_
  refine c_nil ?_
  refine c_region ?_
  refine pl_val (.slice a6 a7 a8) (y_move rfl) ?_
  refine pl_val (.slice c0 c1 c2) (y_move rfl) ?_
  obtain ⟨r31, e8, hs⟩ := bind_some hs
  refine pl_call Bd99 rfl (c_impl_clone (M := M) x20 a3 hO.fut e8) ?_
  rintro _ e9 ⟨d3, d4, d5, b5, rfl, b3, c3, g1, f0⟩
  have h0 := h0.ext b3
  have a2 := a2.ext b3
  have a3 := a3.ext b3
  have hC := hC.ext b3
  have hO := Own.join0 hO b3 f0
  have hO := hO.perm (R := b5 ++ (a4 ++ ([]))) (by simp)
  obtain ⟨d6, b6, f1, d7, b2, d8⟩ := new_block e9 [(.slice d3 d4 d5)] 25
  refine pl_val (w' := d6) (.slice (some ⟨b6, 0, none⟩) 1 1) (y_bslice rfl (by rw [f1, d7]; kernel_rfl)) ?_
  have h0 := h0.ext b2
  have a2 := a2.ext b2
  have a3 := a3.ext b2
  have c3 := c3.ext b2
  have hC := hC.ext b2
  have hO := hO.new1 b2 d7 d8.lt
  have hO := hO.perm (R := (b6 :: ((b5) ++ ([]))) ++ (a4 ++ ([]))) (by simp)
  have f2 := hO.nd
  have c4 := os_of_box (r := (RT.os 3 (RT.int .i64))) (M := M) (css := [[(.slice d3 d4 d5)]]) (fps := [(b5 : List Nat)]) (xs := ([r31] : List (List Int))) d8 ⟨(os_unval c3), trivial⟩ (Nat.le_of_ble_eq_true rfl) f2
  have c4 : (RT.os 25 (RT.os 3 (RT.int .i64))).val M d6 (.slice (some ⟨b6, 0, none⟩) 1 1) [r31] (b6 :: ((b5) ++ ([]))) := c4
  obtain ⟨y36, f3, hs⟩ := bind_some hs
  have hO := hO.fr1
  obtain ⟨c5, c6, c7, f4, f5, f6, b7, f7, c8⟩ := app_os Rw43 f3 a2 c4 hO.inM (fun g hg hq => hO.apart g hq (mem_l hg))
  have c9 := os_block a2
  refine pl_val (w' := f4) (.slice c5 c6 c7) (y_append rfl rfl (f6 _)) ?_
  have hO := hO.fr1
  have hO := hO.fr1
  have h0 := h0.mt b7 hO c9
  have a3 := a3.mt b7 hO c9
  have hC := hC.st b7 hO c9
  have hO := hO.eat b7 f7 (os_nodup c8) c8.fpl
  refine pl_val (.slice c5 c6 c7) (y_assign rfl) ?_
  refine c_nil ?_
  refine c_region ?_
  refine pl_val (.int .i64 (w64 ((a1 : Int) + 1))) (y_add rfl rfl) ?_
  refine pl_val (.int .i64 (w64 ((a1 : Int) + 1))) (y_move rfl) ?_
  refine c_nil ?_
  cases hs
  exact ⟨_, rfl, drop_cons_next hd, _, c5, c6, c7, f5, fr_ovl 20 ⟨rfl, rfl, rfl, congrArg (Value.int .i64) (w64_succ hlt (Int.natCast_nonneg _) (rs_max h0)), trivial⟩, hC, hO, h0, c8⟩
 ·skip
  exact ⟨0, rfl, rfl, _, (some ⟨a5, 0, none⟩), 0, 0, ([a5]), fr_ovl 20 ⟨rfl, rfl, rfl, rfl, trivial⟩, hC, hO, h0, b9⟩
 cases o21 with
 | nx _ => exact True.intro
 | rt r_ =>
  have hs := after_rt hs
  intro f8 d9 hK
  cases hs
  exact hK
 | br s17 =>
  have hs := after_br hs
  rintro f8 a0 ⟨σ, a9, b0, b1, b4, rfl, hC, hO, h0, f9⟩
  refine c_sr ?_
  refine pl_val (.slice a9 b0 b1) (y_move rfl) ?_
  refine pl_val (.slice a9 b0 b1) (y_assign rfl) ?_
  refine c_nil ?_
  refine wp_ret ?_
  cases hs
  exact ⟨_, a9, b0, b1, b4, fr_ovl 20 ⟨rfl, trivial⟩, hC, f9, hO.top⟩

theorem Fa115x0 : ∀ (a : Addr) (w : World), (Instr.fieldAt 115 (.pointer (some a)) 0).run Try.prog w = .ok (.pointer (some (a.add 0))) w := fun _ _ => by kernel_rfl

theorem Ag105 : AggT Try.prog 105 false := fun _ => by kernel_rfl

theorem Sz105 : SzT Try.prog 105 1 := ⟨_, rfl, rfl⟩

theorem Fa115x1 : ∀ (a : Addr) (w : World), (Instr.fieldAt 115 (.pointer (some a)) 1).run Try.prog w = .ok (.pointer (some (a.add 1))) w := fun _ _ => by kernel_rfl

theorem Ag111 : AggT Try.prog 111 false := fun _ => by kernel_rfl

theorem Sz111 : SzT Try.prog 111 1 := ⟨_, rfl, rfl⟩

def k_sort_insertionSort_func (M : Nat → Prop) (w0 : World) {α_ : Type} (I_ : World → List α_ → Prop) (G_ : List Nat) (r : (List α_)) (a : Act) (w : World) : Prop :=
  ∃ (σ : Nat → Value) , a = fr 35 (ovl σ []) ∧ Chg (G_ ++ ([])) w0 w ∧ I_ w r
def s_sort_insertionSort_func {α_ : Type} (ls_ : α_ → α_ → Option Bool) (d_ : List α_) (a_ : Int) (b : Int) : Option ((List α_)) :=
  (forC (S := (List α_)) (R := (List α_)) (fun k78 s76 =>
  (iter (S := Int × (List α_)) (R := (List α_)) (fun s103 =>
  ((bif (decide (a_ < s103.1)) then (lsx ls_ s103.2 s103.1 (w64 (s103.1 - 1))).bind fun r116 =>
  some r116 else some false)).bind fun s111 =>
  (bif s111 then (swx s103.2 s103.1 (w64 (s103.1 - 1))).bind fun y119 =>
  some (.nx (w64 (s103.1 - 1), y119)) else some (.br (s103.1, s103.2)))) FU (k78, s76)).bind fun o107 => after o107 (fun r_ => some (.rt r_)) (fun s103 =>
  some (.nx s103.2))) (w64 (a_ + 1)) b d_).bind fun o80 => after o80 (fun r_ => some r_) (fun s76 =>
  some s76)
set_option maxHeartbeats 4000000 in
theorem c_sort_insertionSort_func {M : Nat → Prop} {w : World} {α_ : Type} {n0_ : Nat} {I_ : World → List α_ → Prop} {G_ : List Nat} {g_ sf_ : Nat} {lb_ sb_ : Array Value} (ls_ : α_ → α_ → Option Bool) (d_ : List α_) (a_ : Int) (b : Int) (hN_ : n0_ ≤ w.heap.size) (hE_ : Env Try.prog n0_ I_ G_ ls_ g_ lb_ sf_ sb_) (hI_ : I_ w d_) (hI : Own (Nw w (G_ ++ ([]))) M w (G_ ++ ([]))) (hM : ∀ g, w.heap.size ≤ g → M g) {r : (List α_)} (hs : s_sort_insertionSort_func ls_ d_ a_ b = some r) :
    Gives Try.prog 127 [(.agg #[(.func (.func g_) #[] lb_), (.func (.func sf_) #[] sb_)]), (.int .i64 a_), (.int .i64 b)] w (fun v w' => v = (.tuple #[]) ∧ Chg (G_ ++ ([])) w w' ∧ I_ w' r) := by
 refine calls_fr Try.func127 rfl Try.ntmps127 (Nat.le_of_ble_eq_true rfl) ?_
 have hO := hI
 have hC := Chg.refl (G_ ++ ([])) w
 unfold s_sort_insertionSort_func at hs
 refine wp_mono (Q := KPostN (k_sort_insertionSort_func M w I_ G_ r)) ?_ (fun e a a7 h => ?_)
 rotate_left
 ·cases e
  case ret =>
   obtain ⟨σ, rfl, hrest⟩ := h
   exact ret0x Try.results127  ⟨rfl, hrest⟩
  case normal =>
   obtain ⟨σ, rfl, hrest⟩ := h
   exact ret0n Try.results127  ⟨rfl, hrest⟩
  all_goals exact (h : False).elim
 refine c_sr ?_
 obtain ⟨a7, a1, b6, b4, b0, a0⟩ := new_block w [(.func (.func g_) #[] lb_), (.func (.func sf_) #[] sb_)] 115
 refine pl_val (w' := a7) (.pointer (some ⟨a1, 0, none⟩)) (y_box rfl (by rw [b6, b4]; kernel_rfl)) ?_
 have hI_ := hE_.ext hI_ b0 (fun _ h => nomatch h)
 have hC := hC.ext b0
 have hO := hO.new1 b0 b4 a0.lt
 refine c_nil ?_
 refine c_sr ?_
 refine pl_val (.int .i64 a_) (y_move rfl) ?_
 refine pl_val (.int .i64 (w64 (a_ + 1))) (y_add rfl rfl) ?_
 refine pl_val (.int .i64 (w64 (a_ + 1))) (y_assign rfl) ?_
 refine c_nil ?_
 obtain ⟨o80, b7, hs⟩ := bind_some hs
 refine wp_block ?_
 refine wp_forC (id := 0) b (I := fun k78 s76 a a4 => ∃ (σ : Nat → Value), a = fr 35 (ovl σ [(1, (.int .i64 a_)), (2, (.int .i64 b)), (3, (.pointer (some ⟨a1, 0, none⟩))), (6, (.int .i64 k78))]) ∧ Chg (G_ ++ ([])) w a4 ∧ Own (Nw w (G_ ++ ([]))) M a4 (([a1]) ++ (G_ ++ [])) ∧ I_ a4 s76 ∧ BoxV a4 a1 115 [(.func (.func g_) #[] lb_), (.func (.func sf_) #[] sb_)]) (J := fun s76 a a4 => ∃ (σ : Nat → Value), a = fr 35 (ovl σ []) ∧ Chg (G_ ++ ([])) w a4 ∧ Own (Nw w (G_ ++ ([]))) M a4 (([a1]) ++ (G_ ++ [])) ∧ I_ a4 s76 ∧ BoxV a4 a1 115 [(.func (.func g_) #[] lb_), (.func (.func sf_) #[] sb_)]) (K := (k_sort_insertionSort_func M w I_ G_)) ?_ ?_ (w64 (a_ + 1)) d_ o80 _ _ ?_ b7 ?_
 ·rintro k78 s76 a a4 ⟨σ, rfl, hC, hO, b1, a0⟩ hlt
  refine c_seq ?_
  refine c_sr ?_
  refine pl_val (.int .i64 k78) (y_move rfl) ?_
  refine pl_val (.int .i64 b) (y_move rfl) ?_
  refine pl_val (.bool (decide (k78 < b))) (y_lss rfl rfl) ?_
  refine c_nil ?_
  refine c_condF (congrArg Value.bool (decide_eq_false hlt)) ?_
  refine wp_exit ?_
  have hO := hO.fr1
  have hO := hO.fr1
  exact ⟨rfl, _, fr_ovl 35 trivial, hC, hO, b1, a0⟩
 ·rintro k78 s76 o80 a a4 ⟨σ, rfl, hC, hO, b1, a0⟩ hlt hw hs
  refine c_seq ?_
  refine c_sr ?_
  refine pl_val (.int .i64 k78) (y_move rfl) ?_
  refine pl_val (.int .i64 b) (y_move rfl) ?_
  refine pl_val (.bool (decide (k78 < b))) (y_lss rfl rfl) ?_
  refine c_nil ?_
  refine c_condT (congrArg Value.bool (decide_eq_true hlt)) ?_
  refine wp_skip ?_
  refine c_seq ?_
  refine wp_block ?_
  refine c_sr ?_
  refine pl_val (.int .i64 k78) (y_move rfl) ?_
  refine pl_val (.int .i64 k78) (y_assign rfl) ?_
  refine c_nil ?_
  obtain ⟨o107, b8, hs⟩ := bind_some hs
  refine wp_block ?_
  refine wp_iter (id := 2) (I := fun s103 a a3 => ∃ (σ : Nat → Value), a = fr 35 (ovl σ [(1, (.int .i64 a_)), (2, (.int .i64 b)), (3, (.pointer (some ⟨a1, 0, none⟩))), (6, (.int .i64 k78)), (7, (.int .i64 s103.1))]) ∧ Chg (G_ ++ ([])) w a3 ∧ Own (Nw w (G_ ++ ([]))) M a3 (([a1]) ++ (G_ ++ [])) ∧ I_ a3 s103.2 ∧ BoxV a3 a1 115 [(.func (.func g_) #[] lb_), (.func (.func sf_) #[] sb_)]) (J := fun s103 a a3 => ∃ (σ : Nat → Value), a = fr 35 (ovl σ [(1, (.int .i64 a_)), (2, (.int .i64 b)), (3, (.pointer (some ⟨a1, 0, none⟩))), (6, (.int .i64 k78))]) ∧ Chg (G_ ++ ([])) w a3 ∧ Own (Nw w (G_ ++ ([]))) M a3 (([a1]) ++ (G_ ++ [])) ∧ I_ a3 s103.2 ∧ BoxV a3 a1 115 [(.func (.func g_) #[] lb_), (.func (.func sf_) #[] sb_)]) (K := (k_sort_insertionSort_func M w I_ G_)) ?_ FU (k78, s76) o107 _ _ ?_ b8 ?_
  ·rintro s103 o107 a a3 ⟨σ, rfl, hC, hO, a5, a0⟩ hs
   refine c_seq ?_
   refine c_seq ?_
   obtain ⟨s111, b9, hs⟩ := bind_some hs
   refine c_mid (I := fun a b5 => ∃ (σ : Nat → Value), a = fr 35 (ovl σ [(1, (.int .i64 a_)), (2, (.int .i64 b)), (3, (.pointer (some ⟨a1, 0, none⟩))), (6, (.int .i64 k78)), (7, (.int .i64 s103.1)), (26, (.bool s111))]) ∧ Chg [] a3 b5) ?_ ?_
   ·replace hs := b9
    have hMid := Chg.refl [] a3
    refine c_region ?_
    refine pl_val (.int .i64 s103.1) (y_move rfl) ?_
    refine pl_val (.int .i64 a_) (y_move rfl) ?_
    refine pl_val (.bool (decide (a_ < s103.1))) (y_gtr rfl rfl) ?_
    refine pl_val (.bool (decide (a_ < s103.1))) (y_move rfl) ?_
    rcases bif_some hs with ⟨a2, hs⟩ | ⟨a2, hs⟩
    ·skip
     refine pl_yes (.pointer (some ⟨a1, 0, none⟩)) (tg := 19) (by kernel_rfl) (congrArg Value.bool a2) (y_faddr rfl Fa115x0) ?_
     refine pl_yes (.func (.func g_) #[] lb_) (tg := 19) (by kernel_rfl) (congrArg Value.bool a2) (y_load rfl ((box_load Ag105 Sz105 a0 [] [(.func (.func g_) #[] lb_)] [(.func (.func sf_) #[] sb_)] rfl rfl (fun _ => rfl)) _ (Chg.refl _ _))) ?_
     refine pl_yes (.int .i64 s103.1) (tg := 19) (by kernel_rfl) (congrArg Value.bool a2) (y_move rfl) ?_
     refine pl_yes (.int .i64 s103.1) (tg := 19) (by kernel_rfl) (congrArg Value.bool a2) (y_move rfl) ?_
     refine pl_yes (.int .i64 (w64 (s103.1 - 1))) (tg := 19) (by kernel_rfl) (congrArg Value.bool a2) (y_sub rfl rfl) ?_
     obtain ⟨r116, c0, hs⟩ := bind_some hs
     refine pl_callby (tg := 19) (by kernel_rfl) (congrArg Value.bool a2) rfl hE_.bod rfl (hE_.less a5 c0) ?_
     rintro _ c7 ⟨rfl, a6⟩
     have a5 := hE_.ext a5 a6 (fun _ h => nomatch h)
     have a0 := a0.cn a6
     have hMid := hMid.ext a6
     have hC := hC.ext a6
     have hO := hO.ext a6
     refine pl_val (.bool r116) (y_pick_t (congrArg Value.bool a2) rfl) ?_
     refine c_nil ?_
     cases hs
     exact ⟨_, fr_ovl 35 ⟨rfl, rfl, rfl, rfl, rfl, rfl, trivial⟩, hMid⟩
    refine pl_not (tg := 19) (by kernel_rfl) (congrArg Value.bool a2) ?_
    refine pl_not (tg := 19) (by kernel_rfl) (congrArg Value.bool a2) ?_
    refine pl_not (tg := 19) (by kernel_rfl) (congrArg Value.bool a2) ?_
    refine pl_not (tg := 19) (by kernel_rfl) (congrArg Value.bool a2) ?_
    refine pl_not (tg := 19) (by kernel_rfl) (congrArg Value.bool a2) ?_
    refine pl_not (tg := 19) (by kernel_rfl) (congrArg Value.bool a2) ?_
    refine pl_val (.bool false) (y_pick_f (congrArg Value.bool a2) rfl) ?_
    refine c_nil ?_
    cases hs
    exact ⟨_, fr_ovl 35 ⟨rfl, rfl, rfl, rfl, rfl, rfl, trivial⟩, hMid⟩
   rintro a8 b5 ⟨σ, rfl, a9⟩
   have a5 := hE_.ext a5 a9 (fun _ h => nomatch h)
   have a0 := a0.cn a9
   have hC := hC.ext a9
   have hO := hO.ext a9
   rcases bif_some hs with ⟨b2, hs⟩ | ⟨b2, hs⟩
   ·refine c_condT (congrArg Value.bool b2) ?_
    refine wp_skip ?_
    refine c_seq ?_
    refine wp_block ?_
    refine c_region ?_
    refine pl_val (.pointer (some ⟨a1, 1, none⟩)) (y_faddr rfl Fa115x1) ?_
    refine pl_val (.func (.func sf_) #[] sb_) (y_load rfl ((box_load Ag111 Sz111 a0 [(.func (.func g_) #[] lb_)] [(.func (.func sf_) #[] sb_)] [] rfl rfl (fun _ => rfl)) _ (Chg.refl _ _))) ?_
    refine pl_val (.int .i64 s103.1) (y_move rfl) ?_
    refine pl_val (.int .i64 s103.1) (y_move rfl) ?_
    refine pl_val (.int .i64 (w64 (s103.1 - 1))) (y_sub rfl rfl) ?_
    obtain ⟨y119, c1, hs⟩ := bind_some hs
    obtain ⟨c2, c3, b3, c4⟩ := hE_.swap a5 c1
    refine pl_val (w' := c2) (.tuple #[]) (y_callx rfl rfl c3) ?_
    have hO := hO.fr1
    have a0 := a0.ap b3 hO same_ (mem_l (List.mem_singleton.2 rfl))
    have hC := hC.st b3 hO same_
    have hO := hO.ext b3
    refine c_nil ?_
    refine c_region ?_
    refine pl_val (.int .i64 s103.1) (y_move rfl) ?_
    refine pl_val (.int .i64 (w64 (s103.1 - 1))) (y_sub rfl rfl) ?_
    refine pl_val (.int .i64 (w64 (s103.1 - 1))) (y_assign rfl) ?_
    refine c_nil ?_
    cases hs
    have hO := hO.fr1
    exact ⟨_, fr_ovl 35 ⟨rfl, rfl, rfl, rfl, rfl, trivial⟩, hC, hO, c4, a0⟩
   refine c_condF (congrArg Value.bool b2) ?_
   refine wp_exit ?_
   cases hs
   have hO := hO.fr1
   have hO := hO.fr1
   exact ⟨rfl, _, fr_ovl 35 ⟨rfl, rfl, rfl, rfl, trivial⟩, hC, hO, a5, a0⟩
  ·skip
   have hO := hO.fr1
   have hO := hO.fr1
   exact ⟨_, fr_ovl 35 ⟨rfl, rfl, rfl, rfl, rfl, trivial⟩, hC, hO, b1, a0⟩
  cases o107 with
  | nx _ => exact True.intro
  | rt r_ =>
   have hs := after_rt hs
   intro a8 a7 hK
   cases hs
   exact hK
  | br s103 =>
   have hs := after_br hs
   rintro a8 a3 ⟨σ, rfl, hC, hO, c5, a0⟩
   refine c_region ?_
   refine pl_val (.int .i64 k78) (y_move rfl) ?_
   refine pl_val (.int .i64 (w64 (k78 + 1))) (y_add rfl rfl) ?_
   refine pl_val (.int .i64 (w64 (k78 + 1))) (y_assign rfl) ?_
   refine c_nil ?_
   cases hs
   have hO := hO.fr1
   have hO := hO.fr1
   exact ⟨_, fr_ovl 35 ⟨rfl, rfl, rfl, congrArg (Value.int .i64) hw, trivial⟩, hC, hO, c5, a0⟩
 ·skip
  have hO := hO.fr1
  have hO := hO.fr1
  exact ⟨_, fr_ovl 35 ⟨rfl, rfl, rfl, rfl, trivial⟩, hC, hO, hI_, a0⟩
 cases o80 with
 | nx _ => exact True.intro
 | rt r_ =>
  have hs := after_rt hs
  intro a8 a7 hK
  cases hs
  exact hK
 | br s76 =>
  have hs := after_br hs
  rintro a8 a4 ⟨σ, rfl, hC, hO, c6, a0⟩
  cases hs
  exact ⟨_, fr_ovl 35 trivial, hC, c6⟩

def k_sort_swapRange_func (M : Nat → Prop) (w0 : World) {α_ : Type} (I_ : World → List α_ → Prop) (G_ : List Nat) (r : (List α_)) (a : Act) (w : World) : Prop :=
  ∃ (σ : Nat → Value) , a = fr 23 (ovl σ []) ∧ Chg (G_ ++ ([])) w0 w ∧ I_ w r
def s_sort_swapRange_func {α_ : Type} (ls_ : α_ → α_ → Option Bool) (d_ : List α_) (a_ : Int) (b : Int) (n : Int) : Option ((List α_)) :=
  (forC (S := (List α_)) (R := (List α_)) (fun k9 s7 =>
  (swx s7 (w64 (a_ + k9)) (w64 (b + k9))).bind fun y16 =>
  some (.nx y16)) 0 n d_).bind fun o11 => after o11 (fun r_ => some r_) (fun s7 =>
  some s7)
set_option maxHeartbeats 4000000 in
theorem c_sort_swapRange_func {M : Nat → Prop} {w : World} {α_ : Type} {n0_ : Nat} {I_ : World → List α_ → Prop} {G_ : List Nat} {g_ sf_ : Nat} {lb_ sb_ : Array Value} (ls_ : α_ → α_ → Option Bool) (d_ : List α_) (a_ : Int) (b : Int) (n : Int) (hN_ : n0_ ≤ w.heap.size) (hE_ : Env Try.prog n0_ I_ G_ ls_ g_ lb_ sf_ sb_) (hI_ : I_ w d_) (hI : Own (Nw w (G_ ++ ([]))) M w (G_ ++ ([]))) (hM : ∀ g, w.heap.size ≤ g → M g) {r : (List α_)} (hs : s_sort_swapRange_func ls_ d_ a_ b n = some r) :
    Gives Try.prog 130 [(.agg #[(.func (.func g_) #[] lb_), (.func (.func sf_) #[] sb_)]), (.int .i64 a_), (.int .i64 b), (.int .i64 n)] w (fun v w' => v = (.tuple #[]) ∧ Chg (G_ ++ ([])) w w' ∧ I_ w' r) := by
 refine calls_fr Try.func130 rfl Try.ntmps130 (Nat.le_of_ble_eq_true rfl) ?_
 have hO := hI
 have hC := Chg.refl (G_ ++ ([])) w
 unfold s_sort_swapRange_func at hs
 refine wp_mono (Q := KPostN (k_sort_swapRange_func M w I_ G_ r)) ?_ (fun e a a3 h => ?_)
 rotate_left
 ·cases e
  case ret =>
   obtain ⟨σ, rfl, hrest⟩ := h
   exact ret0x Try.results130  ⟨rfl, hrest⟩
  case normal =>
   obtain ⟨σ, rfl, hrest⟩ := h
   exact ret0n Try.results130  ⟨rfl, hrest⟩
  all_goals exact (h : False).elim
 refine c_sr ?_
 obtain ⟨a3, a2, a8, a7, a4, a1⟩ := new_block w [(.func (.func g_) #[] lb_), (.func (.func sf_) #[] sb_)] 115
 refine pl_val (w' := a3) (.pointer (some ⟨a2, 0, none⟩)) (y_box rfl (by rw [a8, a7]; kernel_rfl)) ?_
 have hI_ := hE_.ext hI_ a4 (fun _ h => nomatch h)
 have hC := hC.ext a4
 have hO := hO.new1 a4 a7 a1.lt
 refine c_nil ?_
 refine c_sr ?_
 refine pl_val (.int .i64 0) (y_assign rfl) ?_
 refine c_nil ?_
 obtain ⟨o11, a9, hs⟩ := bind_some hs
 refine wp_block ?_
 refine wp_forC (id := 0) n (I := fun k9 s7 a a0 => ∃ (σ : Nat → Value), a = fr 23 (ovl σ [(1, (.int .i64 a_)), (2, (.int .i64 b)), (3, (.int .i64 n)), (4, (.pointer (some ⟨a2, 0, none⟩))), (8, (.int .i64 k9))]) ∧ Chg (G_ ++ ([])) w a0 ∧ Own (Nw w (G_ ++ ([]))) M a0 (([a2]) ++ (G_ ++ [])) ∧ I_ a0 s7 ∧ BoxV a0 a2 115 [(.func (.func g_) #[] lb_), (.func (.func sf_) #[] sb_)]) (J := fun s7 a a0 => ∃ (σ : Nat → Value), a = fr 23 (ovl σ []) ∧ Chg (G_ ++ ([])) w a0 ∧ Own (Nw w (G_ ++ ([]))) M a0 (([a2]) ++ (G_ ++ [])) ∧ I_ a0 s7 ∧ BoxV a0 a2 115 [(.func (.func g_) #[] lb_), (.func (.func sf_) #[] sb_)]) (K := (k_sort_swapRange_func M w I_ G_)) ?_ ?_ 0 d_ o11 _ _ ?_ a9 ?_
 ·rintro k9 s7 a a0 ⟨σ, rfl, hC, hO, a5, a1⟩ hlt
  refine c_seq ?_
  refine c_sr ?_
  refine pl_val (.int .i64 k9) (y_move rfl) ?_
  refine pl_val (.int .i64 n) (y_move rfl) ?_
  refine pl_val (.bool (decide (k9 < n))) (y_lss rfl rfl) ?_
  refine c_nil ?_
  refine c_condF (congrArg Value.bool (decide_eq_false hlt)) ?_
  refine wp_exit ?_
  have hO := hO.fr1
  have hO := hO.fr1
  exact ⟨rfl, _, fr_ovl 23 trivial, hC, hO, a5, a1⟩
 ·rintro k9 s7 o11 a a0 ⟨σ, rfl, hC, hO, a5, a1⟩ hlt hw hs
  refine c_seq ?_
  refine c_sr ?_
  refine pl_val (.int .i64 k9) (y_move rfl) ?_
  refine pl_val (.int .i64 n) (y_move rfl) ?_
  refine pl_val (.bool (decide (k9 < n))) (y_lss rfl rfl) ?_
  refine c_nil ?_
  refine c_condT (congrArg Value.bool (decide_eq_true hlt)) ?_
  refine wp_skip ?_
  refine c_seq ?_
  refine wp_block ?_
  refine c_region ?_
  refine pl_val (.pointer (some ⟨a2, 1, none⟩)) (y_faddr rfl Fa115x1) ?_
  refine pl_val (.func (.func sf_) #[] sb_) (y_load rfl ((box_load Ag111 Sz111 a1 [(.func (.func g_) #[] lb_)] [(.func (.func sf_) #[] sb_)] [] rfl rfl (fun _ => rfl)) _ (Chg.refl _ _))) ?_
  refine pl_val (.int .i64 a_) (y_move rfl) ?_
  refine pl_val (.int .i64 k9) (y_move rfl) ?_
  refine pl_val (.int .i64 (w64 (a_ + k9))) (y_add rfl rfl) ?_
  refine pl_val (.int .i64 b) (y_move rfl) ?_
  refine pl_val (.int .i64 k9) (y_move rfl) ?_
  refine pl_val (.int .i64 (w64 (b + k9))) (y_add rfl rfl) ?_
  obtain ⟨y16, b0, hs⟩ := bind_some hs
  obtain ⟨b1, b2, a6, b3⟩ := hE_.swap a5 b0
  refine pl_val (w' := b1) (.tuple #[]) (y_callx rfl rfl b2) ?_
  have hO := hO.fr1
  have a1 := a1.ap a6 hO same_ (mem_l (List.mem_singleton.2 rfl))
  have hC := hC.st a6 hO same_
  have hO := hO.ext a6
  refine c_nil ?_
  refine c_region ?_
  refine pl_val (.int .i64 k9) (y_move rfl) ?_
  refine pl_val (.int .i64 (w64 (k9 + 1))) (y_add rfl rfl) ?_
  refine pl_val (.int .i64 (w64 (k9 + 1))) (y_assign rfl) ?_
  refine c_nil ?_
  cases hs
  have hO := hO.fr1
  exact ⟨_, fr_ovl 23 ⟨rfl, rfl, rfl, rfl, congrArg (Value.int .i64) hw, trivial⟩, hC, hO, b3, a1⟩
 ·skip
  have hO := hO.fr1
  have hO := hO.fr1
  exact ⟨_, fr_ovl 23 ⟨rfl, rfl, rfl, rfl, rfl, trivial⟩, hC, hO, hI_, a1⟩
 cases o11 with
 | nx _ => exact True.intro
 | rt r_ =>
  have hs := after_rt hs
  intro b4 a3 hK
  cases hs
  exact hK
 | br s7 =>
  have hs := after_br hs
  rintro b4 a0 ⟨σ, rfl, hC, hO, b5, a1⟩
  cases hs
  exact ⟨_, fr_ovl 23 trivial, hC, b5⟩

theorem Ag115 : AggT Try.prog 115 true := fun _ => by kernel_rfl

theorem Sz115 : SzT Try.prog 115 2 := ⟨_, rfl, rfl⟩

theorem Bd130 : Bodied Try.prog 130 := bodied Try.func130 (by kernel_rfl) rfl

def k_sort_rotate_func (M : Nat → Prop) (w0 : World) {α_ : Type} (I_ : World → List α_ → Prop) (G_ : List Nat) (r : (List α_)) (a : Act) (w : World) : Prop :=
  ∃ (σ : Nat → Value) , a = fr 53 (ovl σ []) ∧ Chg (G_ ++ ([])) w0 w ∧ I_ w r
def s_sort_rotate_func {α_ : Type} (ls_ : α_ → α_ → Option Bool) (d_ : List α_) (a_ : Int) (m : Int) (b : Int) : Option ((List α_)) :=
  (iter (S := Int × Int × (List α_)) (R := (List α_)) (fun s15 =>
  (bif (s15.1 != s15.2.1) then (bif (decide (s15.2.1 < s15.1)) then (s_sort_swapRange_func ls_ s15.2.2 (w64 (m - s15.1)) m s15.2.1).bind fun r26 =>
  some (.nx (w64 (s15.1 - s15.2.1), s15.2.1, r26)) else (s_sort_swapRange_func ls_ s15.2.2 (w64 (m - s15.1)) (w64 ((w64 (m + s15.2.1)) - s15.1)) s15.1).bind fun r28 =>
  some (.nx (s15.1, w64 (s15.2.1 - s15.1), r28))) else some (.br (s15.1, s15.2.1, s15.2.2)))) FU (w64 (m - a_), w64 (b - m), d_)).bind fun o19 => after o19 (fun r_ => some r_) (fun s15 =>
  (s_sort_swapRange_func ls_ s15.2.2 (w64 (m - s15.1)) m s15.1).bind fun r30 =>
  some r30)
set_option maxHeartbeats 4000000 in
theorem c_sort_rotate_func {M : Nat → Prop} {w : World} {α_ : Type} {n0_ : Nat} {I_ : World → List α_ → Prop} {G_ : List Nat} {g_ sf_ : Nat} {lb_ sb_ : Array Value} (ls_ : α_ → α_ → Option Bool) (d_ : List α_) (a_ : Int) (m : Int) (b : Int) (hN_ : n0_ ≤ w.heap.size) (hE_ : Env Try.prog n0_ I_ G_ ls_ g_ lb_ sf_ sb_) (hI_ : I_ w d_) (hI : Own (Nw w (G_ ++ ([]))) M w (G_ ++ ([]))) (hM : ∀ g, w.heap.size ≤ g → M g) {r : (List α_)} (hs : s_sort_rotate_func ls_ d_ a_ m b = some r) :
    Gives Try.prog 129 [(.agg #[(.func (.func g_) #[] lb_), (.func (.func sf_) #[] sb_)]), (.int .i64 a_), (.int .i64 m), (.int .i64 b)] w (fun v w' => v = (.tuple #[]) ∧ Chg (G_ ++ ([])) w w' ∧ I_ w' r) := by
 refine calls_fr Try.func129 rfl Try.ntmps129 (Nat.le_of_ble_eq_true rfl) ?_
 have hO := hI
 have hC := Chg.refl (G_ ++ ([])) w
 unfold s_sort_rotate_func at hs
 refine wp_mono (Q := KPostN (k_sort_rotate_func M w I_ G_ r)) ?_ (fun e a a3 h => ?_)
 rotate_left
 ·cases e
  case ret =>
   obtain ⟨σ, rfl, hrest⟩ := h
   exact ret0x Try.results129  ⟨rfl, hrest⟩
  case normal =>
   obtain ⟨σ, rfl, hrest⟩ := h
   exact ret0n Try.results129  ⟨rfl, hrest⟩
  all_goals exact (h : False).elim
 refine c_sr ?_
 obtain ⟨a3, a2, b2, b1, a4, a0⟩ := new_block w [(.func (.func g_) #[] lb_), (.func (.func sf_) #[] sb_)] 115
 refine pl_val (w' := a3) (.pointer (some ⟨a2, 0, none⟩)) (y_box rfl (by rw [b2, b1]; kernel_rfl)) ?_
 have hI_ := hE_.ext hI_ a4 (fun _ h => nomatch h)
 have hC := hC.ext a4
 have hO := hO.new1 a4 b1 a0.lt
 refine c_nil ?_
 refine c_sr ?_
 refine pl_val (.int .i64 m) (y_move rfl) ?_
 refine pl_val (.int .i64 a_) (y_move rfl) ?_
 refine pl_val (.int .i64 (w64 (m - a_))) (y_sub rfl rfl) ?_
 refine pl_val (.int .i64 (w64 (m - a_))) (y_assign rfl) ?_
 refine c_nil ?_
 refine c_sr ?_
 refine pl_val (.int .i64 b) (y_move rfl) ?_
 refine pl_val (.int .i64 m) (y_move rfl) ?_
 refine pl_val (.int .i64 (w64 (b - m))) (y_sub rfl rfl) ?_
 refine pl_val (.int .i64 (w64 (b - m))) (y_assign rfl) ?_
 refine c_nil ?_
 refine c_seq ?_
 obtain ⟨o19, b3, hs⟩ := bind_some hs
 refine wp_block ?_
 refine wp_iter (id := 0) (I := fun s15 a a1 => ∃ (σ : Nat → Value), a = fr 53 (ovl σ [(2, (.int .i64 m)), (4, (.pointer (some ⟨a2, 0, none⟩))), (8, (.int .i64 s15.1)), (9, (.int .i64 s15.2.1))]) ∧ Chg (G_ ++ ([])) w a1 ∧ Own (Nw w (G_ ++ ([]))) M a1 (([a2]) ++ (G_ ++ [])) ∧ I_ a1 s15.2.2 ∧ BoxV a1 a2 115 [(.func (.func g_) #[] lb_), (.func (.func sf_) #[] sb_)]) (J := fun s15 a a1 => ∃ (σ : Nat → Value), a = fr 53 (ovl σ [(2, (.int .i64 m)), (4, (.pointer (some ⟨a2, 0, none⟩))), (8, (.int .i64 s15.1))]) ∧ Chg (G_ ++ ([])) w a1 ∧ Own (Nw w (G_ ++ ([]))) M a1 (([a2]) ++ (G_ ++ [])) ∧ I_ a1 s15.2.2 ∧ BoxV a1 a2 115 [(.func (.func g_) #[] lb_), (.func (.func sf_) #[] sb_)]) (K := (k_sort_rotate_func M w I_ G_)) ?_ FU (w64 (m - a_), w64 (b - m), d_) o19 _ _ ?_ b3 ?_
 ·rintro s15 o19 a a1 ⟨σ, rfl, hC, hO, a5, a0⟩ hs
  refine c_seq ?_
  refine c_sr ?_
  refine pl_val (.int .i64 s15.1) (y_move rfl) ?_
  refine pl_val (.int .i64 s15.2.1) (y_move rfl) ?_
  refine pl_val (.bool (s15.1 != s15.2.1)) (y_neq rfl rfl) ?_
  refine c_nil ?_
  rcases bif_some hs with ⟨a6, hs⟩ | ⟨a6, hs⟩
  ·refine c_condT (congrArg Value.bool a6) ?_
   refine wp_skip ?_
   refine wp_block ?_
   refine c_sr ?_
   refine pl_val (.int .i64 s15.1) (y_move rfl) ?_
   refine pl_val (.int .i64 s15.2.1) (y_move rfl) ?_
   refine pl_val (.bool (decide (s15.2.1 < s15.1))) (y_gtr rfl rfl) ?_
   refine c_nil ?_
   rcases bif_some hs with ⟨a7, hs⟩ | ⟨a7, hs⟩
   ·refine c_condT (congrArg Value.bool a7) ?_
    refine c_sr ?_
    refine pl_val (.agg #[(.func (.func g_) #[] lb_), (.func (.func sf_) #[] sb_)]) (y_load rfl ((box_load Ag115 Sz115 a0 [] [(.func (.func g_) #[] lb_), (.func (.func sf_) #[] sb_)] [] rfl rfl (fun h => nomatch h)) _ (Chg.refl _ _))) ?_
    refine pl_val (.int .i64 m) (y_move rfl) ?_
    refine pl_val (.int .i64 s15.1) (y_move rfl) ?_
    refine pl_val (.int .i64 (w64 (m - s15.1))) (y_sub rfl rfl) ?_
    refine pl_val (.int .i64 m) (y_move rfl) ?_
    refine pl_val (.int .i64 s15.2.1) (y_move rfl) ?_
    have hO := hO.fr1
    have b4 := Own.lend (F := (G_ ++ ([]))) (R := ([a2]) ++ ([])) (Own.perm hO (by simp))
    obtain ⟨r26, b5, hs⟩ := bind_some hs
    refine pl_call Bd130 rfl (c_sort_swapRange_func (M := M) ls_ s15.2.2 (w64 (m - s15.1)) m s15.2.1 (Nat.le_trans hN_ hC.size) hE_ a5 b4 hO.fut b5) ?_
    rintro _ c5 ⟨rfl, a8, b6⟩
    have a0 := a0.ap a8 hO nil_mem (mem_l (List.mem_singleton.2 rfl))
    have hC := hC.st a8 hO nil_mem
    have hO := hO.ext a8
    refine c_nil ?_
    refine c_region ?_
    refine pl_val (.int .i64 s15.1) (y_move rfl) ?_
    refine pl_val (.int .i64 s15.2.1) (y_move rfl) ?_
    refine pl_val (.int .i64 (w64 (s15.1 - s15.2.1))) (y_sub rfl rfl) ?_
    refine pl_val (.int .i64 (w64 (s15.1 - s15.2.1))) (y_assign rfl) ?_
    refine c_nil ?_
    cases hs
    have hO := hO.fr1
    exact ⟨_, fr_ovl 53 ⟨rfl, rfl, rfl, rfl, trivial⟩, hC, hO, b6, a0⟩
   refine c_condF (congrArg Value.bool a7) ?_
   refine c_sr ?_
   refine pl_val (.agg #[(.func (.func g_) #[] lb_), (.func (.func sf_) #[] sb_)]) (y_load rfl ((box_load Ag115 Sz115 a0 [] [(.func (.func g_) #[] lb_), (.func (.func sf_) #[] sb_)] [] rfl rfl (fun h => nomatch h)) _ (Chg.refl _ _))) ?_
   refine pl_val (.int .i64 m) (y_move rfl) ?_
   refine pl_val (.int .i64 s15.1) (y_move rfl) ?_
   refine pl_val (.int .i64 (w64 (m - s15.1))) (y_sub rfl rfl) ?_
   refine pl_val (.int .i64 m) (y_move rfl) ?_
   refine pl_val (.int .i64 s15.2.1) (y_move rfl) ?_
   refine pl_val (.int .i64 (w64 (m + s15.2.1))) (y_add rfl rfl) ?_
   refine pl_val (.int .i64 s15.1) (y_move rfl) ?_
   refine pl_val (.int .i64 (w64 ((w64 (m + s15.2.1)) - s15.1))) (y_sub rfl rfl) ?_
   refine pl_val (.int .i64 s15.1) (y_move rfl) ?_
   have hO := hO.fr1
   have b7 := Own.lend (F := (G_ ++ ([]))) (R := ([a2]) ++ ([])) (Own.perm hO (by simp))
   obtain ⟨r28, b8, hs⟩ := bind_some hs
   refine pl_call Bd130 rfl (c_sort_swapRange_func (M := M) ls_ s15.2.2 (w64 (m - s15.1)) (w64 ((w64 (m + s15.2.1)) - s15.1)) s15.1 (Nat.le_trans hN_ hC.size) hE_ a5 b7 hO.fut b8) ?_
   rintro _ c6 ⟨rfl, a9, b9⟩
   have a0 := a0.ap a9 hO nil_mem (mem_l (List.mem_singleton.2 rfl))
   have hC := hC.st a9 hO nil_mem
   have hO := hO.ext a9
   refine c_nil ?_
   refine c_region ?_
   refine pl_val (.int .i64 s15.2.1) (y_move rfl) ?_
   refine pl_val (.int .i64 s15.1) (y_move rfl) ?_
   refine pl_val (.int .i64 (w64 (s15.2.1 - s15.1))) (y_sub rfl rfl) ?_
   refine pl_val (.int .i64 (w64 (s15.2.1 - s15.1))) (y_assign rfl) ?_
   refine c_nil ?_
   cases hs
   have hO := hO.fr1
   exact ⟨_, fr_ovl 53 ⟨rfl, rfl, rfl, rfl, trivial⟩, hC, hO, b9, a0⟩
  refine c_condF (congrArg Value.bool a6) ?_
  refine wp_exit ?_
  cases hs
  have hO := hO.fr1
  have hO := hO.fr1
  exact ⟨rfl, _, fr_ovl 53 ⟨rfl, rfl, rfl, trivial⟩, hC, hO, a5, a0⟩
 ·skip
  have hO := hO.fr1
  have hO := hO.fr1
  exact ⟨_, fr_ovl 53 ⟨rfl, rfl, rfl, rfl, trivial⟩, hC, hO, hI_, a0⟩
 cases o19 with
 | nx _ => exact True.intro
 | rt r_ =>
  have hs := after_rt hs
  intro c0 a3 hK
  cases hs
  exact hK
 | br s15 =>
  have hs := after_br hs
  rintro c0 a1 ⟨σ, rfl, hC, hO, c1, a0⟩
  refine c_region ?_
  refine pl_val (.agg #[(.func (.func g_) #[] lb_), (.func (.func sf_) #[] sb_)]) (y_load rfl ((box_load Ag115 Sz115 a0 [] [(.func (.func g_) #[] lb_), (.func (.func sf_) #[] sb_)] [] rfl rfl (fun h => nomatch h)) _ (Chg.refl _ _))) ?_
  refine pl_val (.int .i64 m) (y_move rfl) ?_
  refine pl_val (.int .i64 s15.1) (y_move rfl) ?_
  refine pl_val (.int .i64 (w64 (m - s15.1))) (y_sub rfl rfl) ?_
  refine pl_val (.int .i64 m) (y_move rfl) ?_
  refine pl_val (.int .i64 s15.1) (y_move rfl) ?_
  have hO := hO.fr1
  have c2 := Own.lend (F := (G_ ++ ([]))) (R := ([a2]) ++ ([])) (Own.perm hO (by simp))
  obtain ⟨r30, c3, hs⟩ := bind_some hs
  refine pl_call Bd130 rfl (c_sort_swapRange_func (M := M) ls_ s15.2.2 (w64 (m - s15.1)) m s15.1 (Nat.le_trans hN_ hC.size) hE_ c1 c2 hO.fut c3) ?_
  rintro _ c7 ⟨rfl, b0, c4⟩
  have a0 := a0.ap b0 hO nil_mem (mem_l (List.mem_singleton.2 rfl))
  have hC := hC.st b0 hO nil_mem
  have hO := hO.ext b0
  refine c_nil ?_
  cases hs
  exact ⟨_, fr_ovl 53 trivial, hC, c4⟩

theorem Bd129 : Bodied Try.prog 129 := bodied Try.func129 (by kernel_rfl) rfl

theorem Bd128 : Bodied Try.prog 128 := bodied Try.func128 (by kernel_rfl) rfl

end Go.Proofs
