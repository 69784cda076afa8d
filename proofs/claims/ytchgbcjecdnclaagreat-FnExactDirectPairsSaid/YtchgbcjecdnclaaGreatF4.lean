/- What functions of the program compute, as plain functions, and that a call gives just that. Conditions: those named in each theorem. -/
import Derived.Test.YtchgbcjecdnclaaGreatF3
set_option linter.unusedVariables false
namespace Go.Proofs
open Go.G Go.RowKit
set_option maxRecDepth 100000

def k_impl_productTable (M : Nat → Prop) (w0 : World) (r : (List (List Bool))) (a : Act) (w : World) : Prop :=
  ∃ (σ : Nat → Value) (ra0 : Option Addr) (rn0 rc0 : Nat) (rf0 : List Nat), a = fr 71 (ovl σ [(4, (.slice ra0 rn0 rc0))]) ∧ Chg [] w0 w ∧ (RT.os 87 (RT.os 4 RT.bool)).val M w (.slice ra0 rn0 rc0) r rf0 ∧ Own (Nw w0 []) (fun _ => True) w (rf0 ++ ([]))
def s_impl_productTable (p : List Int) (q : List Int) : Option ((List (List Bool))) :=
  (mks (p.length : Int) ([] : List Bool)).bind fun y4 =>
  (forC (S := (List (List Bool))) (R := (List (List Bool))) (fun k669 s667 =>
  (mks (p.length : Int) (false : Bool)).bind fun y676 =>
  (idx s667 k669).bind fun x678 =>
  (forC (S := (List (List Bool))) (R := (List (List Bool))) (fun k894 s892 =>
  (iter (S := Int × (List (List Bool))) (R := (List (List Bool))) (fun s965 =>
  ((bif (decide (s965.1 < (p.length : Int))) then (idx p k669).bind fun x978 =>
  (idx p k894).bind fun x980 =>
  some (x978 == x980) else some false)).bind fun s973 =>
  (bif s973 then (idx s965.2 k669).bind fun x984 =>
  (idx s965.2 k669).bind fun x988 =>
  (idx x988 s965.1).bind fun x992 =>
  (bif x992 then (idx x984 s965.1).bind fun x995 =>
  some (.nx (w64 (s965.1 + 1), List.set s965.2 (Int.toNat k669) (List.set x984 (Int.toNat s965.1) true))) else (idx q k894).bind fun x998 =>
  (idx q s965.1).bind fun x1000 =>
  (idx x984 s965.1).bind fun x1002 =>
  some (.nx (w64 (s965.1 + 1), List.set s965.2 (Int.toNat k669) (List.set x984 (Int.toNat s965.1) (x998 == x1000))))) else some (.br (s965.1, s965.2)))) FU (0, s892)).bind fun o969 => after o969 (fun r_ => some (.rt r_)) (fun s965 =>
  some (.nx s965.2))) 0 (p.length : Int) (List.set s667 (Int.toNat k669) y676)).bind fun o896 => after o896 (fun r_ => some (.rt r_)) (fun s892 =>
  some (.nx s892))) 0 (y4.length : Int) y4).bind fun o671 => after o671 (fun r_ => some r_) (fun s667 =>
  some s667)
set_option maxHeartbeats 4000000 in
theorem c_impl_productTable {M : Nat → Prop} {w : World} {pa0 : Option Addr} {pn0 pc0 : Nat} {pa1 : Option Addr} {pn1 pc1 : Nat} (p : List Int) (q : List Int) (h0 : (RT.rs (RT.int .i64)).val M w (.slice pa0 pn0 pc0) p ([])) (h1 : (RT.rs (RT.int .i64)).val M w (.slice pa1 pn1 pc1) q ([])) (hM : ∀ g, w.heap.size ≤ g → M g) {r : (List (List Bool))} (hs : s_impl_productTable p q = some r) :
    Gives Tryz.prog 76 [(.slice pa0 pn0 pc0), (.slice pa1 pn1 pc1)] w (fun v w' => ∃ (ra0 : Option Addr) (rn0 rc0 : Nat) (rf0 : List Nat), v = (.slice ra0 rn0 rc0) ∧ Chg [] w w' ∧ (RT.os 87 (RT.os 4 RT.bool)).val M w' (.slice ra0 rn0 rc0) r rf0 ∧ Own (Nw w []) (fun _ => True) w' (rf0 ++ ([]))) := by
 refine calls_fr Tryz.func76 rfl Tryz.ntmps76 (Nat.le_of_ble_eq_true rfl) ?_
 have hO := Own.start (N := Nw w []) hM Nw.fut
 have hC := Chg.refl [] w
 unfold s_impl_productTable at hs
 refine wp_mono (Q := KPost (k_impl_productTable M w r)) ?_ (fun e a w1 h => ?_)
 rotate_left
 ·cases e
  case ret =>
   obtain ⟨σ, ra0, rn0, rc0, rf0, rfl, hrest⟩ := h
   exact ret1x Tryz.results76 (res_tmp rfl) ⟨ra0, rn0, rc0, rf0, rfl, hrest⟩
  all_goals exact (h : False).elim
 refine c_seq (c_region ?_)
 refine pl_val (.slice none 0 0) (y_assign rfl) ?_
 refine c_nil ?_
 refine c_seq (c_region ?_)
 refine pl_val (.slice pa0 pn0 pc0) (y_move rfl) ?_
 refine pl_val (.int .i64 (p.length : Int)) (y_len' Sl47 (rs_len h0) rfl) ?_
 refine pl_val (.int .i64 (p.length : Int)) (y_assign rfl) ?_
 refine c_nil ?_
 refine c_seq (c_region ?_)
 refine pl_val (.int .i64 (p.length : Int)) (y_move rfl) ?_
 obtain ⟨y4, hy4, hs⟩ := bind_some hs
 obtain ⟨a3, n3, c3, w3, f3, hm3, hC3, hfr3, hv3⟩ := mk_os (M := M) (w := w) (r := (RT.os 4 RT.bool)) Rw85 hy4 (fun _ _ => (os_unval os_nil))
 refine pl_val (w' := w3) (.slice a3 n3 c3) (y_make rfl rfl hm3) ?_
 have h0 := h0.ext hC3
 have h1 := h1.ext hC3
 have hC := hC.ext hC3
 have hO := hO.new hC3 hfr3 (os_nodup hv3) hv3.fpl
 refine pl_val (.slice a3 n3 c3) (y_assign rfl) ?_
 refine c_nil ?_
 refine c_seq ?_
 refine c_seq (c_region ?_)
 refine pl_val (.slice a3 n3 c3) (y_move rfl) ?_
 refine pl_val (.int .i64 (y4.length : Int)) (y_len' Sl85 (os_len hv3) rfl) ?_
 refine pl_val (.int .i64 0) (y_move rfl) ?_
 refine c_nil ?_
 obtain ⟨o671, hl672, hs⟩ := bind_some hs
 refine wp_block ?_
 refine wp_forC (id := 0) (y4.length : Int) (I := fun k669 s667 a w668 => ∃ (σ : Nat → Value) (f673 : List Nat), a = fr 71 (ovl σ [(0, (.slice pa0 pn0 pc0)), (1, (.slice pa1 pn1 pc1)), (5, (.int .i64 (p.length : Int))), (6, (.slice a3 n3 c3)), (15, (.int .i64 (y4.length : Int))), (16, (.int .i64 k669))]) ∧ Chg [] w w668 ∧ Own (Nw w []) M w668 (f673 ++ []) ∧ (RT.rs (RT.int .i64)).val M w668 (.slice pa0 pn0 pc0) p ([]) ∧ (RT.rs (RT.int .i64)).val M w668 (.slice pa1 pn1 pc1) q ([]) ∧ (RT.os 87 (RT.os 4 RT.bool)).val M w668 (.slice a3 n3 c3) s667 f673) (J := fun s667 a w668 => ∃ (σ : Nat → Value) (f674 : List Nat), a = fr 71 (ovl σ [(6, (.slice a3 n3 c3))]) ∧ Chg [] w w668 ∧ Own (Nw w []) M w668 (f674 ++ []) ∧ (RT.rs (RT.int .i64)).val M w668 (.slice pa0 pn0 pc0) p ([]) ∧ (RT.rs (RT.int .i64)).val M w668 (.slice pa1 pn1 pc1) q ([]) ∧ (RT.os 87 (RT.os 4 RT.bool)).val M w668 (.slice a3 n3 c3) s667 f674) (K := (k_impl_productTable M w)) ?_ ?_ 0 y4 o671 _ _ ?_ hl672 ?_
 ·rintro k669 s667 a w668 ⟨σ, f673, rfl, hC, hO, h0, h1, hv673⟩ hlt
  refine c_seq (c_region ?_)
  refine pl_val (.bool (decide (k669 < (y4.length : Int)))) (y_lss rfl rfl) ?_
  refine c_nil ?_
  refine c_seq ?_
  refine c_condF (congrArg Value.bool (decide_eq_false hlt)) ?_
  refine wp_exit ?_
  exact ⟨rfl, _, f673, fr_ovl 71 ⟨rfl, trivial⟩, hC, hO, h0, h1, hv673⟩
 ·rintro k669 s667 o671 a w668 ⟨σ, f673, rfl, hC, hO, h0, h1, hv673⟩ hlt hw hs
  refine c_seq (c_region ?_)
  refine pl_val (.bool (decide (k669 < (y4.length : Int)))) (y_lss rfl rfl) ?_
  refine c_nil ?_
  refine c_seq ?_
  refine c_condT (congrArg Value.bool (decide_eq_true hlt)) ?_
  refine wp_skip ?_
  refine c_seq ?_
  refine wp_block ?_
  refine c_seq (c_region ?_)
  refine pl_val (.int .i64 k669) (y_move rfl) ?_
  refine pl_val (.int .i64 k669) (y_assign rfl) ?_
  refine c_nil ?_
  refine c_seq (c_region ?_)
  refine pl_val (.slice a3 n3 c3) (y_move rfl) ?_
  refine pl_val (.int .i64 k669) (y_move rfl) ?_
  refine pl_val (.int .i64 (p.length : Int)) (y_move rfl) ?_
  obtain ⟨y676, hy676, hs⟩ := bind_some hs
  obtain ⟨a675, n675, c675, w675, f675, hm675, hC675, hfr675, hv675⟩ := mk_os (M := M) (w := w668) (r := RT.bool) Rw87 hy676 (fun _ _ => ⟨rfl, rfl⟩)
  refine pl_val (w' := w675) (.slice a675 n675 c675) (y_make rfl rfl hm675) ?_
  have h0 := h0.ext hC675
  have h1 := h1.ext hC675
  have hv673 := hv673.ext hC675
  have hC := hC.ext hC675
  have hO := hO.new hC675 hfr675 (os_nodup hv675) hv675.fpl
  obtain ⟨x678, hx678, hs⟩ := bind_some hs
  obtain ⟨g679, f679, hg679, hk679, hp679, ha679, hf679⟩ := os_idx Sl85 Sz87 hv673 hx678
  have hb679 := own_row (Frz.os Frz.bool) ha679 hf679
  refine pl_val (.pointer (some ⟨g679, 0 + Int.toNat k669 * 1, none⟩)) (hp679 _ _ _ _ _ _ _ _ _ rfl rfl) ?_
  have hO := hO.fr1
  obtain ⟨w680, f680, hst680, hC680, hf680, hv680⟩ := os_store (P := Tryz.prog) (c' := [(.slice a675 n675 c675)]) hg679 hv673 hk679 (fun g hg => hO.inM g (os_block hv673 g (by simpa using hg))) (os_unval hv675) (hO.drop.perm (R := f675 ++ ([])) (by simp)).nd (fun g hg hq => hO.apart g hq (by simp only [List.mem_append, List.not_mem_nil, false_or, or_false] at hg ⊢; simp [hg])) (fun _ h => .inl h)
  have hG680 : ∀ q ∈ [g679], q ∈ f673 := fun q hq => os_block hv673 q (by rw [hg679]; exact hq)
  refine pl_skip (w' := w680) (ys_store rfl rfl (hst680 _ _ rfl Sz87)) ?_
  have hO := hO.fr1
  have hO := hO.fr1
  have h0 := h0.mut hC680 (fun g hg => hO.inM g (hG680 g hg)) (fun _ _ h => nomatch h)
  have h1 := h1.mut hC680 (fun g hg => hO.inM g (hG680 g hg)) (fun _ _ h => nomatch h)
  have hC := hC.step hC680 (fun g hg => hO.inN g (hG680 g hg))
  have hO := hO.perm (R := f673 ++ (f675 ++ ([]))) (by simp)
  have hO := hO.eat hC680 (fun q hq => (hf680 q hq).elim .inl (fun h => .inr (.inl h))) (os_nodup hv680) hv680.fpl
  refine c_nil ?_
  refine c_seq (c_region ?_)
  refine pl_val (.int .i64 0) (y_assign rfl) ?_
  refine c_nil ?_
  obtain ⟨o896, hl897, hs⟩ := bind_some hs
  refine wp_block ?_
  refine wp_forC (id := 2) (p.length : Int) (I := fun k894 s892 a w893 => ∃ (σ : Nat → Value) (f898 : List Nat), a = fr 71 (ovl σ [(0, (.slice pa0 pn0 pc0)), (1, (.slice pa1 pn1 pc1)), (5, (.int .i64 (p.length : Int))), (6, (.slice a3 n3 c3)), (7, (.int .i64 k669)), (8, (.int .i64 k894)), (15, (.int .i64 (y4.length : Int))), (16, (.int .i64 k669))]) ∧ Chg [] w w893 ∧ Own (Nw w []) M w893 (f898 ++ []) ∧ (RT.rs (RT.int .i64)).val M w893 (.slice pa0 pn0 pc0) p ([]) ∧ (RT.rs (RT.int .i64)).val M w893 (.slice pa1 pn1 pc1) q ([]) ∧ (RT.os 87 (RT.os 4 RT.bool)).val M w893 (.slice a3 n3 c3) s892 f898) (J := fun s892 a w893 => ∃ (σ : Nat → Value) (f899 : List Nat), a = fr 71 (ovl σ [(0, (.slice pa0 pn0 pc0)), (1, (.slice pa1 pn1 pc1)), (5, (.int .i64 (p.length : Int))), (6, (.slice a3 n3 c3)), (15, (.int .i64 (y4.length : Int))), (16, (.int .i64 k669))]) ∧ Chg [] w w893 ∧ Own (Nw w []) M w893 (f899 ++ []) ∧ (RT.rs (RT.int .i64)).val M w893 (.slice pa0 pn0 pc0) p ([]) ∧ (RT.rs (RT.int .i64)).val M w893 (.slice pa1 pn1 pc1) q ([]) ∧ (RT.os 87 (RT.os 4 RT.bool)).val M w893 (.slice a3 n3 c3) s892 f899) (K := (k_impl_productTable M w)) ?_ ?_ 0 (List.set s667 (Int.toNat k669) y676) o896 _ _ ?_ hl897 ?_
  ·rintro k894 s892 a w893 ⟨σ, f898, rfl, hC, hO, h0, h1, hv898⟩ hlt
   refine c_seq ?_
   refine c_seq (c_region ?_)
   refine pl_val (.int .i64 k894) (y_move rfl) ?_
   refine pl_val (.int .i64 (p.length : Int)) (y_move rfl) ?_
   refine pl_val (.bool (decide (k894 < (p.length : Int)))) (y_lss rfl rfl) ?_
   refine c_nil ?_
   refine c_condF (congrArg Value.bool (decide_eq_false hlt)) ?_
   refine wp_exit ?_
   exact ⟨rfl, _, f898, fr_ovl 71 ⟨rfl, rfl, rfl, rfl, rfl, rfl, trivial⟩, hC, hO, h0, h1, hv898⟩
  ·rintro k894 s892 o896 a w893 ⟨σ, f898, rfl, hC, hO, h0, h1, hv898⟩ hlt hw hs
   refine c_seq ?_
   refine c_seq (c_region ?_)
   refine pl_val (.int .i64 k894) (y_move rfl) ?_
   refine pl_val (.int .i64 (p.length : Int)) (y_move rfl) ?_
   refine pl_val (.bool (decide (k894 < (p.length : Int)))) (y_lss rfl rfl) ?_
   refine c_nil ?_
   refine c_condT (congrArg Value.bool (decide_eq_true hlt)) ?_
   refine wp_skip ?_
   refine c_seq ?_
   refine wp_block ?_
   refine c_seq (c_region ?_)
   refine pl_val (.int .i64 0) (y_assign rfl) ?_
   refine c_nil ?_
   obtain ⟨o969, hl970, hs⟩ := bind_some hs
   refine wp_block ?_
   refine wp_iter (id := 4) (I := fun s965 a w966 => ∃ (σ : Nat → Value) (f971 : List Nat), a = fr 71 (ovl σ [(0, (.slice pa0 pn0 pc0)), (1, (.slice pa1 pn1 pc1)), (5, (.int .i64 (p.length : Int))), (6, (.slice a3 n3 c3)), (7, (.int .i64 k669)), (8, (.int .i64 k894)), (9, (.int .i64 s965.1)), (15, (.int .i64 (y4.length : Int))), (16, (.int .i64 k669))]) ∧ Chg [] w w966 ∧ Own (Nw w []) M w966 (f971 ++ []) ∧ (RT.rs (RT.int .i64)).val M w966 (.slice pa0 pn0 pc0) p ([]) ∧ (RT.rs (RT.int .i64)).val M w966 (.slice pa1 pn1 pc1) q ([]) ∧ (RT.os 87 (RT.os 4 RT.bool)).val M w966 (.slice a3 n3 c3) s965.2 f971) (J := fun s965 a w966 => ∃ (σ : Nat → Value) (f972 : List Nat), a = fr 71 (ovl σ [(0, (.slice pa0 pn0 pc0)), (1, (.slice pa1 pn1 pc1)), (5, (.int .i64 (p.length : Int))), (6, (.slice a3 n3 c3)), (7, (.int .i64 k669)), (8, (.int .i64 k894)), (15, (.int .i64 (y4.length : Int))), (16, (.int .i64 k669))]) ∧ Chg [] w w966 ∧ Own (Nw w []) M w966 (f972 ++ []) ∧ (RT.rs (RT.int .i64)).val M w966 (.slice pa0 pn0 pc0) p ([]) ∧ (RT.rs (RT.int .i64)).val M w966 (.slice pa1 pn1 pc1) q ([]) ∧ (RT.os 87 (RT.os 4 RT.bool)).val M w966 (.slice a3 n3 c3) s965.2 f972) (K := (k_impl_productTable M w)) ?_ FU (0, s892) o969 _ _ ?_ hl970 ?_
   ·rintro s965 o969 a w966 ⟨σ, f971, rfl, hC, hO, h0, h1, hv971⟩ hs
    refine c_seq ?_
    refine c_seq ?_
    obtain ⟨s973, hm975, hs⟩ := bind_some hs
    refine c_mid (I := fun a w974 => ∃ (σ : Nat → Value), a = fr 71 (ovl σ [(0, (.slice pa0 pn0 pc0)), (1, (.slice pa1 pn1 pc1)), (5, (.int .i64 (p.length : Int))), (6, (.slice a3 n3 c3)), (7, (.int .i64 k669)), (8, (.int .i64 k894)), (9, (.int .i64 s965.1)), (15, (.int .i64 (y4.length : Int))), (16, (.int .i64 k669)), (42, (.bool s973))]) ∧ Chg [] w966 w974) ?_ ?_
    ·replace hs := hm975
     have hMid := Chg.refl [] w966
     refine x_start [] Mx rfl ?_
     have hCw976 := Chg.drew w966
     generalize World.drew w966 = w976 at hCw976 ⊢
     have h0 := h0.ext hCw976
     have h1 := h1.ext hCw976
     have hv971 := hv971.ext hCw976
     have hMid := hMid.ext hCw976
     have hC := hC.ext hCw976
     have hO := hO.ext hCw976
     have hS := Chg.refl [] w976
     refine x_p 0 (.int .i64 s965.1) rfl (by kernel_rfl)  (fun _ => y_move rfl) (fun _ => hS) ?_
     refine x_p 1 (.int .i64 (p.length : Int)) rfl (by kernel_rfl)  (fun _ => y_move rfl) (fun _ => hS) ?_
     refine x_p 2 (.bool (decide (s965.1 < (p.length : Int)))) rfl (by kernel_rfl)  (fun _ => y_lss rfl rfl) (fun _ => hS) ?_
     refine x_p 3 (.bool (decide (s965.1 < (p.length : Int)))) rfl (by kernel_rfl)  (fun _ => y_move rfl) (fun _ => hS) ?_
     rcases bif_some hs with ⟨hc977, hs⟩ | ⟨hc977, hs⟩
     ·skip
      refine x_py 4 (.slice pa0 pn0 pc0) rfl (by kernel_rfl) (tg := 32) (by kernel_rfl) (congrArg Value.bool hc977) (fun _ => y_move rfl) (fun _ => hS) ?_
      refine x_py 5 (.int .i64 k669) rfl (by kernel_rfl) (tg := 32) (by kernel_rfl) (congrArg Value.bool hc977) (fun _ => y_move rfl) (fun _ => hS) ?_
      obtain ⟨x978, hx978, hs⟩ := bind_some hs
      obtain ⟨b979, o979, hp979, ha979⟩ := rs_idx Sl47 Sz3 h0 hx978
      refine x_py 6 (.pointer (some ⟨b979, o979, none⟩)) rfl (by kernel_rfl) (tg := 32) (by kernel_rfl) (congrArg Value.bool hc977) (fun _ => hp979 _ _ _ _ _ _ _ _ _ rfl rfl) (fun _ => hS) ?_
      refine x_ly 7 (.int .i64 x978) rfl (by kernel_rfl) (tg := 32) (by kernel_rfl) (congrArg Value.bool hc977) (fun w' hw' => y_load rfl ((at_load_int Ag3 Sz3 ha979) w' hw')) hS ?_
      refine x_py 8 (.slice pa0 pn0 pc0) rfl (by kernel_rfl) (tg := 32) (by kernel_rfl) (congrArg Value.bool hc977) (fun _ => y_move rfl) (fun _ => hS) ?_
      refine x_py 9 (.int .i64 k894) rfl (by kernel_rfl) (tg := 32) (by kernel_rfl) (congrArg Value.bool hc977) (fun _ => y_move rfl) (fun _ => hS) ?_
      obtain ⟨x980, hx980, hs⟩ := bind_some hs
      obtain ⟨b981, o981, hp981, ha981⟩ := rs_idx Sl47 Sz3 h0 hx980
      refine x_py 10 (.pointer (some ⟨b981, o981, none⟩)) rfl (by kernel_rfl) (tg := 32) (by kernel_rfl) (congrArg Value.bool hc977) (fun _ => hp981 _ _ _ _ _ _ _ _ _ rfl rfl) (fun _ => hS) ?_
      refine x_ly 11 (.int .i64 x980) rfl (by kernel_rfl) (tg := 32) (by kernel_rfl) (congrArg Value.bool hc977) (fun w' hw' => y_load rfl ((at_load_int Ag3 Sz3 ha981) w' hw')) hS ?_
      refine x_py 12 (.bool (x978 == x980)) rfl (by kernel_rfl) (tg := 32) (by kernel_rfl) (congrArg Value.bool hc977) (fun _ => y_eql rfl rfl) (fun _ => hS) ?_
      refine x_p 13 (.bool (x978 == x980)) rfl (by kernel_rfl)  (fun _ => y_pick_t (congrArg Value.bool hc977) rfl) (fun _ => hS) ?_
      refine x_end (by kernel_rfl) ?_
      clear hS
      cases hs
      exact ⟨_, fr_ovl 71 ⟨rfl, rfl, rfl, rfl, rfl, rfl, rfl, rfl, rfl, rfl, trivial⟩, hMid⟩
     ·skip
      refine x_pn 4 rfl (by kernel_rfl) (tg := 32) (by kernel_rfl) (congrArg Value.bool hc977) (fun _ => hS) ?_
      refine x_pn 5 rfl (by kernel_rfl) (tg := 32) (by kernel_rfl) (congrArg Value.bool hc977) (fun _ => hS) ?_
      refine x_pn 6 rfl (by kernel_rfl) (tg := 32) (by kernel_rfl) (congrArg Value.bool hc977) (fun _ => hS) ?_
      refine x_pn 7 rfl (by kernel_rfl) (tg := 32) (by kernel_rfl) (congrArg Value.bool hc977) (fun _ => hS) ?_
      refine x_pn 8 rfl (by kernel_rfl) (tg := 32) (by kernel_rfl) (congrArg Value.bool hc977) (fun _ => hS) ?_
      refine x_pn 9 rfl (by kernel_rfl) (tg := 32) (by kernel_rfl) (congrArg Value.bool hc977) (fun _ => hS) ?_
      refine x_pn 10 rfl (by kernel_rfl) (tg := 32) (by kernel_rfl) (congrArg Value.bool hc977) (fun _ => hS) ?_
      refine x_pn 11 rfl (by kernel_rfl) (tg := 32) (by kernel_rfl) (congrArg Value.bool hc977) (fun _ => hS) ?_
      refine x_pn 12 rfl (by kernel_rfl) (tg := 32) (by kernel_rfl) (congrArg Value.bool hc977) (fun _ => hS) ?_
      refine x_p 13 (.bool false) rfl (by kernel_rfl)  (fun _ => y_pick_f (congrArg Value.bool hc977) rfl) (fun _ => hS) ?_
      refine x_end (by kernel_rfl) ?_
      clear hS
      cases hs
      exact ⟨_, fr_ovl 71 ⟨rfl, rfl, rfl, rfl, rfl, rfl, rfl, rfl, rfl, rfl, trivial⟩, hMid⟩
    ·rintro a1 w974 ⟨σ, rfl, hCs973⟩
     have h0 := h0.ext hCs973
     have h1 := h1.ext hCs973
     have hv971 := hv971.ext hCs973
     have hC := hC.ext hCs973
     have hO := hO.ext hCs973
     rcases bif_some hs with ⟨hc982, hs⟩ | ⟨hc982, hs⟩
     ·skip
      refine c_condT (congrArg Value.bool hc982) ?_
      refine wp_skip ?_
      refine c_seq ?_
      refine wp_block ?_
      refine x_start [24] Mx rfl ?_
      have hCw983 := Chg.drew w974
      generalize World.drew w974 = w983 at hCw983 ⊢
      have h0 := h0.ext hCw983
      have h1 := h1.ext hCw983
      have hv971 := hv971.ext hCw983
      have hC := hC.ext hCw983
      have hO := hO.ext hCw983
      have hS := Chg.refl [] w983
      refine x_p 0 (.slice a3 n3 c3) rfl (by kernel_rfl)  (fun _ => y_move rfl) (fun _ => hS) ?_
      refine x_p 1 (.int .i64 k669) rfl (by kernel_rfl)  (fun _ => y_move rfl) (fun _ => hS) ?_
      obtain ⟨x984, hx984, hs⟩ := bind_some hs
      obtain ⟨g985, f985, hg985, hk985, hp985, ha985, hf985⟩ := os_idx Sl85 Sz87 hv971 hx984
      have hb985 := own_row (Frz.os Frz.bool) ha985 hf985
      refine x_p 2 (.pointer (some ⟨g985, 0 + Int.toNat k669 * 1, none⟩)) rfl (by kernel_rfl)  (fun _ => hp985 _ _ _ _ _ _ _ _ _ rfl rfl) (fun _ => hS) ?_
      obtain ⟨v986, hl986, hrow986, hv986⟩ := at_load1 Ag87 Sz87 rfl rfl hb985
      obtain ⟨a986, n986, c986, rfl⟩ := rs_sl hv986
      refine x_l 3 (.slice a986 n986 c986) rfl (by kernel_rfl)  (fun w' hw' => y_load rfl (hl986 w' hw')) hS ?_
      refine x_p 4 (.int .i64 s965.1) rfl (by kernel_rfl)  (fun _ => y_move rfl) (fun _ => hS) ?_
      refine x_p 5 (.slice a3 n3 c3) rfl (by kernel_rfl)  (fun _ => y_move rfl) (fun _ => hS) ?_
      refine x_p 6 (.int .i64 k669) rfl (by kernel_rfl)  (fun _ => y_move rfl) (fun _ => hS) ?_
      obtain ⟨x988, hx988, hs⟩ := bind_some hs
      obtain ⟨g989, f989, hg989, hk989, hp989, ha989, hf989⟩ := os_idx Sl85 Sz87 hv971 hx988
      have hb989 := own_row (Frz.os Frz.bool) ha989 hf989
      refine x_p 7 (.pointer (some ⟨g989, 0 + Int.toNat k669 * 1, none⟩)) rfl (by kernel_rfl)  (fun _ => hp989 _ _ _ _ _ _ _ _ _ rfl rfl) (fun _ => hS) ?_
      obtain ⟨v990, hl990, hrow990, hv990⟩ := at_load1 Ag87 Sz87 rfl rfl hb989
      obtain ⟨a990, n990, c990, rfl⟩ := rs_sl hv990
      refine x_l 8 (.slice a990 n990 c990) rfl (by kernel_rfl)  (fun w' hw' => y_load rfl (hl990 w' hw')) hS ?_
      refine x_p 9 (.int .i64 s965.1) rfl (by kernel_rfl)  (fun _ => y_move rfl) (fun _ => hS) ?_
      obtain ⟨x992, hx992, hs⟩ := bind_some hs
      obtain ⟨fr993, hrr993, hfr993, _, _⟩ := os_put hg989 hv971 hx988 hrow990 rfl hO.inM
      obtain ⟨g993, f993, hg993, hk993, hp993, ha993, hf993⟩ := os_idx Sl87 Sz4 (show (RT.os 4 RT.bool).val M w983 (.slice a990 n990 c990) _ fr993 from ⟨[_], rfl, hrr993⟩) hx992
      refine x_p 10 (.pointer (some ⟨g993, 0 + Int.toNat s965.1 * 1, none⟩)) rfl (by kernel_rfl)  (fun _ => hp993 _ _ _ _ _ _ _ _ _ rfl rfl) (fun _ => hS) ?_
      refine x_l 11 (.bool x992) rfl (by kernel_rfl)  (fun w' hw' => y_load rfl ((at_load_bool Ag4 Sz4 ha993) w' hw')) hS ?_
      refine x_p 12 (.bool x992) rfl (by kernel_rfl)  (fun _ => y_move rfl) (fun _ => hS) ?_
      rcases bif_some hs with ⟨hc994, hs⟩ | ⟨hc994, hs⟩
      ·skip
       refine x_pn 13 rfl (by kernel_rfl) (tg := 57) (by kernel_rfl) (congrArg Value.bool hc994) (fun _ => hS) ?_
       refine x_pn 14 rfl (by kernel_rfl) (tg := 57) (by kernel_rfl) (congrArg Value.bool hc994) (fun _ => hS) ?_
       refine x_pn 15 rfl (by kernel_rfl) (tg := 57) (by kernel_rfl) (congrArg Value.bool hc994) (fun _ => hS) ?_
       refine x_pn 16 rfl (by kernel_rfl) (tg := 57) (by kernel_rfl) (congrArg Value.bool hc994) (fun _ => hS) ?_
       refine x_pn 17 rfl (by kernel_rfl) (tg := 57) (by kernel_rfl) (congrArg Value.bool hc994) (fun _ => hS) ?_
       refine x_pn 18 rfl (by kernel_rfl) (tg := 57) (by kernel_rfl) (congrArg Value.bool hc994) (fun _ => hS) ?_
       refine x_pn 19 rfl (by kernel_rfl) (tg := 57) (by kernel_rfl) (congrArg Value.bool hc994) (fun _ => hS) ?_
       refine x_pn 20 rfl (by kernel_rfl) (tg := 57) (by kernel_rfl) (congrArg Value.bool hc994) (fun _ => hS) ?_
       refine x_pn 21 rfl (by kernel_rfl) (tg := 57) (by kernel_rfl) (congrArg Value.bool hc994) (fun _ => hS) ?_
       refine x_p 22 (.bool true) rfl (by kernel_rfl)  (fun _ => y_pick_t (congrArg Value.bool hc994) rfl) (fun _ => hS) ?_
       obtain ⟨x995, hx995, hs⟩ := bind_some hs
       obtain ⟨fr996, hrr996, hfr996, _, _⟩ := os_put hg985 hv971 hx984 hrow986 rfl hO.inM
       obtain ⟨g996, f996, hg996, hk996, hp996, ha996, hf996⟩ := os_idx Sl87 Sz4 (show (RT.os 4 RT.bool).val M w983 (.slice a986 n986 c986) _ fr996 from ⟨[_], rfl, hrr996⟩) hx995
       refine x_p 23 (.pointer (some ⟨g996, 0 + Int.toNat s965.1 * 1, none⟩)) rfl (by kernel_rfl)  (fun _ => hp996 _ _ _ _ _ _ _ _ _ rfl rfl) (fun _ => hS) ?_
       refine x_one (i := 24) (by kernel_rfl) ?_
       obtain ⟨w997, f997, hst997, hC997, hG997, hf997, hv997⟩ := os_store2 (P := Tryz.prog) (c' := [(.bool true)]) hg985 hv971 hx984 hrow986 hg996 hk996 hO.inM ⟨rfl, rfl⟩
       refine xk_skip (w' := w997) (b := true) rfl (ys_store rfl rfl (hst997 _ _ rfl Sz4)) rfl (fun h => nomatch h) ?_
       have h0 := h0.mut hC997 (fun g hg => hO.inM g (hG997 g hg)) (fun _ _ h => nomatch h)
       have h1 := h1.mut hC997 (fun g hg => hO.inM g (hG997 g hg)) (fun _ _ h => nomatch h)
       have hC := hC.step hC997 (fun g hg => hO.inN g (hG997 g hg))
       have hO := hO.grow hC997 hf997 (os_nodup hv997) hv997.fpl
       refine x_end (by kernel_rfl) ?_
       clear hS
       refine c_region ?_
       refine pl_val (.int .i64 s965.1) (y_move rfl) ?_
       refine pl_val (.int .i64 (w64 (s965.1 + 1))) (y_add rfl rfl) ?_
       refine pl_val (.int .i64 (w64 (s965.1 + 1))) (y_assign rfl) ?_
       refine c_nil ?_
       cases hs
       exact ⟨_, f997, fr_ovl 71 ⟨rfl, rfl, rfl, rfl, rfl, rfl, rfl, rfl, rfl, trivial⟩, hC, hO, h0, h1, hv997⟩
      ·skip
       refine x_py 13 (.slice pa1 pn1 pc1) rfl (by kernel_rfl) (tg := 57) (by kernel_rfl) (congrArg Value.bool hc994) (fun _ => y_move rfl) (fun _ => hS) ?_
       refine x_py 14 (.int .i64 k894) rfl (by kernel_rfl) (tg := 57) (by kernel_rfl) (congrArg Value.bool hc994) (fun _ => y_move rfl) (fun _ => hS) ?_
       obtain ⟨x998, hx998, hs⟩ := bind_some hs
       obtain ⟨b999, o999, hp999, ha999⟩ := rs_idx Sl47 Sz3 h1 hx998
       refine x_py 15 (.pointer (some ⟨b999, o999, none⟩)) rfl (by kernel_rfl) (tg := 57) (by kernel_rfl) (congrArg Value.bool hc994) (fun _ => hp999 _ _ _ _ _ _ _ _ _ rfl rfl) (fun _ => hS) ?_
       refine x_ly 16 (.int .i64 x998) rfl (by kernel_rfl) (tg := 57) (by kernel_rfl) (congrArg Value.bool hc994) (fun w' hw' => y_load rfl ((at_load_int Ag3 Sz3 ha999) w' hw')) hS ?_
       refine x_py 17 (.slice pa1 pn1 pc1) rfl (by kernel_rfl) (tg := 57) (by kernel_rfl) (congrArg Value.bool hc994) (fun _ => y_move rfl) (fun _ => hS) ?_
       refine x_py 18 (.int .i64 s965.1) rfl (by kernel_rfl) (tg := 57) (by kernel_rfl) (congrArg Value.bool hc994) (fun _ => y_move rfl) (fun _ => hS) ?_
       obtain ⟨x1000, hx1000, hs⟩ := bind_some hs
       obtain ⟨b1001, o1001, hp1001, ha1001⟩ := rs_idx Sl47 Sz3 h1 hx1000
       refine x_py 19 (.pointer (some ⟨b1001, o1001, none⟩)) rfl (by kernel_rfl) (tg := 57) (by kernel_rfl) (congrArg Value.bool hc994) (fun _ => hp1001 _ _ _ _ _ _ _ _ _ rfl rfl) (fun _ => hS) ?_
       refine x_ly 20 (.int .i64 x1000) rfl (by kernel_rfl) (tg := 57) (by kernel_rfl) (congrArg Value.bool hc994) (fun w' hw' => y_load rfl ((at_load_int Ag3 Sz3 ha1001) w' hw')) hS ?_
       refine x_py 21 (.bool (x998 == x1000)) rfl (by kernel_rfl) (tg := 57) (by kernel_rfl) (congrArg Value.bool hc994) (fun _ => y_eql rfl rfl) (fun _ => hS) ?_
       refine x_p 22 (.bool (x998 == x1000)) rfl (by kernel_rfl)  (fun _ => y_pick_f (congrArg Value.bool hc994) rfl) (fun _ => hS) ?_
       obtain ⟨x1002, hx1002, hs⟩ := bind_some hs
       obtain ⟨fr1003, hrr1003, hfr1003, _, _⟩ := os_put hg985 hv971 hx984 hrow986 rfl hO.inM
       obtain ⟨g1003, f1003, hg1003, hk1003, hp1003, ha1003, hf1003⟩ := os_idx Sl87 Sz4 (show (RT.os 4 RT.bool).val M w983 (.slice a986 n986 c986) _ fr1003 from ⟨[_], rfl, hrr1003⟩) hx1002
       refine x_p 23 (.pointer (some ⟨g1003, 0 + Int.toNat s965.1 * 1, none⟩)) rfl (by kernel_rfl)  (fun _ => hp1003 _ _ _ _ _ _ _ _ _ rfl rfl) (fun _ => hS) ?_
       refine x_one (i := 24) (by kernel_rfl) ?_
       obtain ⟨w1004, f1004, hst1004, hC1004, hG1004, hf1004, hv1004⟩ := os_store2 (P := Tryz.prog) (c' := [(.bool (x998 == x1000))]) hg985 hv971 hx984 hrow986 hg1003 hk1003 hO.inM ⟨rfl, rfl⟩
       refine xk_skip (w' := w1004) (b := true) rfl (ys_store rfl rfl (hst1004 _ _ rfl Sz4)) rfl (fun h => nomatch h) ?_
       have h0 := h0.mut hC1004 (fun g hg => hO.inM g (hG1004 g hg)) (fun _ _ h => nomatch h)
       have h1 := h1.mut hC1004 (fun g hg => hO.inM g (hG1004 g hg)) (fun _ _ h => nomatch h)
       have hC := hC.step hC1004 (fun g hg => hO.inN g (hG1004 g hg))
       have hO := hO.grow hC1004 hf1004 (os_nodup hv1004) hv1004.fpl
       refine x_end (by kernel_rfl) ?_
       clear hS
       refine c_region ?_
       refine pl_val (.int .i64 s965.1) (y_move rfl) ?_
       refine pl_val (.int .i64 (w64 (s965.1 + 1))) (y_add rfl rfl) ?_
       refine pl_val (.int .i64 (w64 (s965.1 + 1))) (y_assign rfl) ?_
       refine c_nil ?_
       cases hs
       exact ⟨_, f1004, fr_ovl 71 ⟨rfl, rfl, rfl, rfl, rfl, rfl, rfl, rfl, rfl, trivial⟩, hC, hO, h0, h1, hv1004⟩
     ·skip
      refine c_condF (congrArg Value.bool hc982) ?_
      refine wp_exit ?_
      cases hs
      exact ⟨rfl, _, f971, fr_ovl 71 ⟨rfl, rfl, rfl, rfl, rfl, rfl, rfl, rfl, trivial⟩, hC, hO, h0, h1, hv971⟩
   ·skip
    exact ⟨_, f898, fr_ovl 71 ⟨rfl, rfl, rfl, rfl, rfl, rfl, rfl, rfl, rfl, trivial⟩, hC, hO, h0, h1, hv898⟩
   ·cases o969 with
    | nx _ => exact True.intro
    | rt r_ =>
     have hs := after_rt hs
     intro a1 w1 hK
     cases hs
     exact hK
    | br s965 =>
     have hs := after_br hs
     rintro a1 w966 ⟨σ, f972, rfl, hC, hO, h0, h1, hv972⟩
     refine c_region ?_
     refine pl_val (.int .i64 k894) (y_move rfl) ?_
     refine pl_val (.int .i64 (w64 (k894 + 1))) (y_add rfl rfl) ?_
     refine pl_val (.int .i64 (w64 (k894 + 1))) (y_assign rfl) ?_
     refine c_nil ?_
     cases hs
     exact ⟨_, f972, fr_ovl 71 ⟨rfl, rfl, rfl, rfl, rfl, congrArg (Value.int .i64) hw, rfl, rfl, trivial⟩, hC, hO, h0, h1, hv972⟩
  ·skip
   exact ⟨_, f680, fr_ovl 71 ⟨rfl, rfl, rfl, rfl, rfl, rfl, rfl, rfl, trivial⟩, hC, hO, h0, h1, hv680⟩
  ·cases o896 with
   | nx _ => exact True.intro
   | rt r_ =>
    have hs := after_rt hs
    intro a1 w1 hK
    cases hs
    exact hK
   | br s892 =>
    have hs := after_br hs
    rintro a1 w893 ⟨σ, f899, rfl, hC, hO, h0, h1, hv899⟩
    refine c_region ?_
    refine pl_val (.int .i64 (w64 (k669 + 1))) (y_add rfl rfl) ?_
    refine pl_val (.int .i64 (w64 (k669 + 1))) (y_move rfl) ?_
    refine c_nil ?_
    cases hs
    exact ⟨_, f899, fr_ovl 71 ⟨rfl, rfl, rfl, rfl, rfl, congrArg (Value.int .i64) hw, trivial⟩, hC, hO, h0, h1, hv899⟩
 ·skip
  exact ⟨_, f3, fr_ovl 71 ⟨rfl, rfl, rfl, rfl, rfl, rfl, trivial⟩, hC, hO, h0, h1, hv3⟩
 ·cases o671 with
  | nx _ => exact True.intro
  | rt r_ =>
   have hs := after_rt hs
   intro a1 w1 hK
   cases hs
   exact hK
  | br s667 =>
   have hs := after_br hs
   rintro a1 w668 ⟨σ, f674, rfl, hC, hO, h0, h1, hv674⟩
   refine c_seq (c_region ?_)
   refine pl_val (.slice a3 n3 c3) (y_move rfl) ?_
   refine pl_val (.slice a3 n3 c3) (y_assign rfl) ?_
   refine c_nil ?_
   refine wp_ret ?_
   cases hs
   exact ⟨_, a3, n3, c3, f674, fr_ovl 71 ⟨rfl, trivial⟩, hC, hv674, hO.top⟩

theorem Bd76 : Bodied Tryz.prog 76 := bodied Tryz.func76 (by kernel_rfl) rfl

def k_impl_unpermuted (M : Nat → Prop) (w0 : World) (r : (List Int) × Bool) (a : Act) (w : World) : Prop :=
  ∃ (σ : Nat → Value) (ra0 : Option Addr) (rn0 rc0 : Nat) (rf0 : List Nat), a = fr 48 (ovl σ [(4, (.slice ra0 rn0 rc0)), (5, (.bool r.2))]) ∧ Chg [] w0 w ∧ (RT.os 3 (RT.int .i64)).val M w (.slice ra0 rn0 rc0) r.1 rf0 ∧ Own (Nw w0 []) (fun _ => True) w (rf0 ++ ([]))
def s_impl_unpermuted (p : List Int) (q : List Int) : Option ((List Int) × Bool) :=
  (s_impl_productTable p q).bind fun r4 =>
  (s_impl_productTable q p).bind fun r7 =>
  (forC (S := Unit) (R := (List Int) × Bool) (fun k51 s49 =>
  (idx r4 k51).bind fun x55 =>
  (forC (S := Unit) (R := (List Int) × Bool) (fun k76 s74 =>
  (idx x55 k76).bind fun x80 =>
  ((bif x80 then (idx r7 k51).bind fun x86 =>
  (idx x86 k76).bind fun x90 =>
  some (!x90) else some false)).bind fun s82 =>
  (bif s82 then some (.rt ([k51, k76], true)) else some (.nx ()))) 0 (x55.length : Int) ()).bind fun o78 => after o78 (fun r_ => some (.rt r_)) (fun s74 =>
  some (.nx ()))) 0 (r4.length : Int) ()).bind fun o53 => after o53 (fun r_ => some r_) (fun s49 =>
  some ([], false))
set_option maxHeartbeats 4000000 in
theorem c_impl_unpermuted {M : Nat → Prop} {w : World} {pa0 : Option Addr} {pn0 pc0 : Nat} {pa1 : Option Addr} {pn1 pc1 : Nat} (p : List Int) (q : List Int) (h0 : (RT.rs (RT.int .i64)).val M w (.slice pa0 pn0 pc0) p ([])) (h1 : (RT.rs (RT.int .i64)).val M w (.slice pa1 pn1 pc1) q ([])) (hM : ∀ g, w.heap.size ≤ g → M g) {r : (List Int) × Bool} (hs : s_impl_unpermuted p q = some r) :
    Gives Tryz.prog 56 [(.slice pa0 pn0 pc0), (.slice pa1 pn1 pc1)] w (fun v w' => ∃ (ra0 : Option Addr) (rn0 rc0 : Nat) (rf0 : List Nat), v = (.tuple #[(.slice ra0 rn0 rc0), (.bool r.2)]) ∧ Chg [] w w' ∧ (RT.os 3 (RT.int .i64)).val M w' (.slice ra0 rn0 rc0) r.1 rf0 ∧ Own (Nw w []) (fun _ => True) w' (rf0 ++ ([]))) := by
 refine calls_fr Tryz.func56 rfl Tryz.ntmps56 (Nat.le_of_ble_eq_true rfl) ?_
 have hO := Own.start (N := Nw w []) hM Nw.fut
 have hC := Chg.refl [] w
 unfold s_impl_unpermuted at hs
 refine wp_mono (Q := KPost (k_impl_unpermuted M w r)) ?_ (fun e a w1 h => ?_)
 rotate_left
 ·cases e
  case ret =>
   obtain ⟨σ, ra0, rn0, rc0, rf0, rfl, hrest⟩ := h
   exact ret2x Tryz.results56 (res_tmp rfl) (res_tmp rfl) ⟨ra0, rn0, rc0, rf0, rfl, hrest⟩
  all_goals exact (h : False).elim
 refine c_seq (c_region ?_)
 refine pl_val (.slice none 0 0) (y_assign rfl) ?_
 refine pl_val (.bool false) (y_assign rfl) ?_
 refine c_nil ?_
 refine c_seq (c_region ?_)
 refine pl_val (.slice pa0 pn0 pc0) (y_move rfl) ?_
 refine pl_val (.slice pa1 pn1 pc1) (y_move rfl) ?_
 obtain ⟨r4, hr4, hs⟩ := bind_some hs
 refine pl_call Bd76 rfl (c_impl_productTable (M := M) p q h0 h1 hO.fut hr4) ?_
 rintro _ w3 ⟨a3x0, n3x0, c3x0, f3x0, rfl, hC3, hv3x0, hOc3⟩
 have h0 := h0.ext hC3
 have h1 := h1.ext hC3
 have hC := hC.ext hC3
 have hO := Own.join0 hO hC3 hOc3
 have hO := hO.perm (R := f3x0 ++ ([])) (by simp)
 refine pl_val (.slice pa1 pn1 pc1) (y_move rfl) ?_
 refine pl_val (.slice pa0 pn0 pc0) (y_move rfl) ?_
 obtain ⟨r7, hr7, hs⟩ := bind_some hs
 refine pl_call Bd76 rfl (c_impl_productTable (M := M) q p h1 h0 hO.fut hr7) ?_
 rintro _ w6 ⟨a6x0, n6x0, c6x0, f6x0, rfl, hC6, hv6x0, hOc6⟩
 have h0 := h0.ext hC6
 have h1 := h1.ext hC6
 have hv3x0 := hv3x0.ext hC6
 have hC := hC.ext hC6
 have hO := Own.join0 hO hC6 hOc6
 have hO := hO.perm (R := f6x0 ++ (f3x0 ++ ([]))) (by simp)
 refine pl_val (.slice a3x0 n3x0 c3x0) (y_assign rfl) ?_
 refine pl_val (.slice a6x0 n6x0 c6x0) (y_assign rfl) ?_
 refine c_nil ?_
 refine c_seq ?_
 refine c_seq (c_region ?_)
 refine pl_val (.slice a3x0 n3x0 c3x0) (y_move rfl) ?_
 refine pl_val (.int .i64 (r4.length : Int)) (y_len' Sl85 (os_len hv3x0) rfl) ?_
 refine pl_val (.int .i64 0) (y_move rfl) ?_
 refine c_nil ?_
 obtain ⟨o53, hl54, hs⟩ := bind_some hs
 refine wp_block ?_
 refine wp_forC (id := 0) (r4.length : Int) (I := fun k51 s49 a w50 => ∃ (σ : Nat → Value), a = fr 48 (ovl σ [(7, (.slice a6x0 n6x0 c6x0)), (18, (.slice a3x0 n3x0 c3x0)), (19, (.int .i64 (r4.length : Int))), (20, (.int .i64 k51))]) ∧ Chg [] w w50 ∧ Own (Nw w []) M w50 (f6x0 ++ (f3x0 ++ [])) ∧ (RT.os 87 (RT.os 4 RT.bool)).val M w50 (.slice a3x0 n3x0 c3x0) r4 f3x0 ∧ (RT.os 87 (RT.os 4 RT.bool)).val M w50 (.slice a6x0 n6x0 c6x0) r7 f6x0) (J := fun s49 a w50 => ∃ (σ : Nat → Value), a = fr 48 (ovl σ []) ∧ Chg [] w w50 ∧ Own (Nw w []) M w50 (f6x0 ++ (f3x0 ++ [])) ∧ (RT.os 87 (RT.os 4 RT.bool)).val M w50 (.slice a3x0 n3x0 c3x0) r4 f3x0 ∧ (RT.os 87 (RT.os 4 RT.bool)).val M w50 (.slice a6x0 n6x0 c6x0) r7 f6x0) (K := (k_impl_unpermuted M w)) ?_ ?_ 0 () o53 _ _ ?_ hl54 ?_
 ·rintro k51 s49 a w50 ⟨σ, rfl, hC, hO, hv3x0, hv6x0⟩ hlt
  refine c_seq (c_region ?_)
  refine pl_val (.bool (decide (k51 < (r4.length : Int)))) (y_lss rfl rfl) ?_
  refine c_nil ?_
  refine c_seq ?_
  refine c_condF (congrArg Value.bool (decide_eq_false hlt)) ?_
  refine wp_exit ?_
  have hO := hO.fr1
  have hO := hO.fr1
  exact ⟨rfl, _, fr_ovl 48 trivial, hC, hO, hv3x0, hv6x0⟩
 ·rintro k51 s49 o53 a w50 ⟨σ, rfl, hC, hO, hv3x0, hv6x0⟩ hlt hw hs
  refine c_seq (c_region ?_)
  refine pl_val (.bool (decide (k51 < (r4.length : Int)))) (y_lss rfl rfl) ?_
  refine c_nil ?_
  refine c_seq ?_
  refine c_condT (congrArg Value.bool (decide_eq_true hlt)) ?_
  refine wp_skip ?_
  refine c_seq ?_
  refine wp_block ?_
  refine c_seq (c_region ?_)
  refine pl_val (.int .i64 k51) (y_move rfl) ?_
  obtain ⟨x55, hx55, hs⟩ := bind_some hs
  obtain ⟨g56, f56, hg56, hk56, hp56, ha56, hf56⟩ := os_idx Sl85 Sz87 hv3x0 hx55
  have hb56 := own_row (Frz.os Frz.bool) ha56 hf56
  refine pl_val (.pointer (some ⟨g56, 0 + Int.toNat k51 * 1, none⟩)) (hp56 _ _ _ _ _ _ _ _ _ rfl rfl) ?_
  obtain ⟨v57, hl57, hrow57, hv57⟩ := at_load1 Ag87 Sz87 rfl rfl hb56
  obtain ⟨a57, n57, c57, rfl⟩ := rs_sl hv57
  refine pl_val (.slice a57 n57 c57) (y_load rfl (hl57 _ (Chg.refl _ _))) ?_
  refine pl_val (.int .i64 k51) (y_assign rfl) ?_
  refine pl_val (.slice a57 n57 c57) (y_assign rfl) ?_
  refine c_nil ?_
  refine c_seq (c_region ?_)
  refine pl_val (.slice a57 n57 c57) (y_move rfl) ?_
  refine pl_val (.int .i64 (x55.length : Int)) (y_len' Sl87 (rs_len hv57) rfl) ?_
  refine pl_val (.int .i64 0) (y_move rfl) ?_
  refine c_nil ?_
  obtain ⟨o78, hl79, hs⟩ := bind_some hs
  refine wp_block ?_
  refine wp_forC (id := 2) (x55.length : Int) (I := fun k76 s74 a w75 => ∃ (σ : Nat → Value), a = fr 48 (ovl σ [(7, (.slice a6x0 n6x0 c6x0)), (8, (.int .i64 k51)), (18, (.slice a3x0 n3x0 c3x0)), (19, (.int .i64 (r4.length : Int))), (20, (.int .i64 k51)), (25, (.slice a57 n57 c57)), (26, (.int .i64 (x55.length : Int))), (27, (.int .i64 k76))]) ∧ Chg [] w w75 ∧ Own (Nw w []) M w75 (f6x0 ++ (f3x0 ++ [])) ∧ (RT.os 87 (RT.os 4 RT.bool)).val M w75 (.slice a3x0 n3x0 c3x0) r4 f3x0 ∧ (RT.os 87 (RT.os 4 RT.bool)).val M w75 (.slice a6x0 n6x0 c6x0) r7 f6x0 ∧ (RT.rs RT.bool).val (Less M f3x0) w75 (.slice a57 n57 c57) x55 ([])) (J := fun s74 a w75 => ∃ (σ : Nat → Value), a = fr 48 (ovl σ [(7, (.slice a6x0 n6x0 c6x0)), (18, (.slice a3x0 n3x0 c3x0)), (19, (.int .i64 (r4.length : Int))), (20, (.int .i64 k51))]) ∧ Chg [] w w75 ∧ Own (Nw w []) M w75 (f6x0 ++ (f3x0 ++ [])) ∧ (RT.os 87 (RT.os 4 RT.bool)).val M w75 (.slice a3x0 n3x0 c3x0) r4 f3x0 ∧ (RT.os 87 (RT.os 4 RT.bool)).val M w75 (.slice a6x0 n6x0 c6x0) r7 f6x0 ∧ (RT.rs RT.bool).val (Less M f3x0) w75 (.slice a57 n57 c57) x55 ([])) (K := (k_impl_unpermuted M w)) ?_ ?_ 0 () o78 _ _ ?_ hl79 ?_
  ·rintro k76 s74 a w75 ⟨σ, rfl, hC, hO, hv3x0, hv6x0, hv57⟩ hlt
   refine c_seq (c_region ?_)
   refine pl_val (.bool (decide (k76 < (x55.length : Int)))) (y_lss rfl rfl) ?_
   refine c_nil ?_
   refine c_seq ?_
   refine c_condF (congrArg Value.bool (decide_eq_false hlt)) ?_
   refine wp_exit ?_
   have hO := hO.fr1
   have hO := hO.fr1
   exact ⟨rfl, _, fr_ovl 48 ⟨rfl, rfl, rfl, rfl, trivial⟩, hC, hO, hv3x0, hv6x0, hv57⟩
  ·rintro k76 s74 o78 a w75 ⟨σ, rfl, hC, hO, hv3x0, hv6x0, hv57⟩ hlt hw hs
   refine c_seq (c_region ?_)
   refine pl_val (.bool (decide (k76 < (x55.length : Int)))) (y_lss rfl rfl) ?_
   refine c_nil ?_
   refine c_seq ?_
   refine c_condT (congrArg Value.bool (decide_eq_true hlt)) ?_
   refine wp_skip ?_
   refine c_seq ?_
   refine wp_block ?_
   refine c_seq (c_region ?_)
   refine pl_val (.int .i64 k76) (y_move rfl) ?_
   obtain ⟨x80, hx80, hs⟩ := bind_some hs
   obtain ⟨b81, o81, hp81, ha81⟩ := rs_idx Sl87 Sz4 hv57 hx80
   refine pl_val (.pointer (some ⟨b81, o81, none⟩)) (hp81 _ _ _ _ _ _ _ _ _ rfl rfl) ?_
   refine pl_val (.bool x80) (y_load rfl ((at_load_bool Ag4 Sz4 ha81) _ (Chg.refl _ _))) ?_
   refine pl_val (.int .i64 k76) (y_assign rfl) ?_
   refine pl_val (.bool x80) (y_assign rfl) ?_
   refine c_nil ?_
   refine c_seq ?_
   obtain ⟨s82, hm84, hs⟩ := bind_some hs
   refine c_mid (I := fun a w83 => ∃ (σ : Nat → Value), a = fr 48 (ovl σ [(7, (.slice a6x0 n6x0 c6x0)), (8, (.int .i64 k51)), (10, (.int .i64 k76)), (18, (.slice a3x0 n3x0 c3x0)), (19, (.int .i64 (r4.length : Int))), (20, (.int .i64 k51)), (25, (.slice a57 n57 c57)), (26, (.int .i64 (x55.length : Int))), (27, (.int .i64 k76)), (42, (.bool s82))]) ∧ Chg [] w75 w83) ?_ ?_
   ·replace hs := hm84
    have hMid := Chg.refl [] w75
    refine c_region ?_
    refine pl_val (.bool x80) (y_move rfl) ?_
    refine pl_val (.bool x80) (y_move rfl) ?_
    rcases bif_some hs with ⟨hc85, hs⟩ | ⟨hc85, hs⟩
    ·skip
     refine pl_yes (.slice a6x0 n6x0 c6x0) (tg := 33) (by kernel_rfl) (congrArg Value.bool hc85) (y_move rfl) ?_
     refine pl_yes (.int .i64 k51) (tg := 33) (by kernel_rfl) (congrArg Value.bool hc85) (y_move rfl) ?_
     obtain ⟨x86, hx86, hs⟩ := bind_some hs
     obtain ⟨g87, f87, hg87, hk87, hp87, ha87, hf87⟩ := os_idx Sl85 Sz87 hv6x0 hx86
     have hb87 := own_row (Frz.os Frz.bool) ha87 hf87
     refine pl_yes (.pointer (some ⟨g87, 0 + Int.toNat k51 * 1, none⟩)) (tg := 33) (by kernel_rfl) (congrArg Value.bool hc85) (hp87 _ _ _ _ _ _ _ _ _ rfl rfl) ?_
     obtain ⟨v88, hl88, hrow88, hv88⟩ := at_load1 Ag87 Sz87 rfl rfl hb87
     obtain ⟨a88, n88, c88, rfl⟩ := rs_sl hv88
     refine pl_yes (.slice a88 n88 c88) (tg := 33) (by kernel_rfl) (congrArg Value.bool hc85) (y_load rfl (hl88 _ (Chg.refl _ _))) ?_
     refine pl_yes (.int .i64 k76) (tg := 33) (by kernel_rfl) (congrArg Value.bool hc85) (y_move rfl) ?_
     obtain ⟨x90, hx90, hs⟩ := bind_some hs
     obtain ⟨fr91, hrr91, hfr91, _, _⟩ := os_put hg87 hv6x0 hx86 hrow88 rfl hO.inM
     obtain ⟨g91, f91, hg91, hk91, hp91, ha91, hf91⟩ := os_idx Sl87 Sz4 (show (RT.os 4 RT.bool).val M w75 (.slice a88 n88 c88) _ fr91 from ⟨[_], rfl, hrr91⟩) hx90
     refine pl_yes (.pointer (some ⟨g91, 0 + Int.toNat k76 * 1, none⟩)) (tg := 33) (by kernel_rfl) (congrArg Value.bool hc85) (hp91 _ _ _ _ _ _ _ _ _ rfl rfl) ?_
     refine pl_yes (.bool x90) (tg := 33) (by kernel_rfl) (congrArg Value.bool hc85) (y_load rfl ((at_load_bool Ag4 Sz4 ha91) _ (Chg.refl _ _))) ?_
     refine pl_yes (.bool (!x90)) (tg := 33) (by kernel_rfl) (congrArg Value.bool hc85) (y_not rfl) ?_
     refine pl_val (.bool (!x90)) (y_pick_t (congrArg Value.bool hc85) rfl) ?_
     refine c_nil ?_
     cases hs
     exact ⟨_, fr_ovl 48 ⟨rfl, rfl, rfl, rfl, rfl, rfl, rfl, rfl, rfl, rfl, trivial⟩, hMid⟩
    ·skip
     refine pl_not (tg := 33) (by kernel_rfl) (congrArg Value.bool hc85) ?_
     refine pl_not (tg := 33) (by kernel_rfl) (congrArg Value.bool hc85) ?_
     refine pl_not (tg := 33) (by kernel_rfl) (congrArg Value.bool hc85) ?_
     refine pl_not (tg := 33) (by kernel_rfl) (congrArg Value.bool hc85) ?_
     refine pl_not (tg := 33) (by kernel_rfl) (congrArg Value.bool hc85) ?_
     refine pl_not (tg := 33) (by kernel_rfl) (congrArg Value.bool hc85) ?_
     refine pl_not (tg := 33) (by kernel_rfl) (congrArg Value.bool hc85) ?_
     refine pl_not (tg := 33) (by kernel_rfl) (congrArg Value.bool hc85) ?_
     refine pl_val (.bool false) (y_pick_f (congrArg Value.bool hc85) rfl) ?_
     refine c_nil ?_
     cases hs
     exact ⟨_, fr_ovl 48 ⟨rfl, rfl, rfl, rfl, rfl, rfl, rfl, rfl, rfl, rfl, trivial⟩, hMid⟩
   ·rintro a1 w83 ⟨σ, rfl, hCs82⟩
    have hv3x0 := hv3x0.ext hCs82
    have hv6x0 := hv6x0.ext hCs82
    have hv57 := hv57.ext hCs82
    have hC := hC.ext hCs82
    have hO := hO.ext hCs82
    rcases bif_some hs with ⟨hc92, hs⟩ | ⟨hc92, hs⟩
    ·skip
     refine c_condT (congrArg Value.bool hc92) ?_
     refine c_seq (c_region ?_)
     refine pl_val (.int .i64 k51) (y_move rfl) ?_
     refine pl_val (.int .i64 k76) (y_move rfl) ?_
     obtain ⟨w93, g93, ew93, eg93, hC93, hb93⟩ := new_block w83 [(.int .i64 k51), (.int .i64 k76)] 3
     refine pl_val (w' := w93) (.slice (some ⟨g93, 0, none⟩) 2 2) (y_bslice rfl (by rw [ew93, eg93]; kernel_rfl)) ?_
     have hv3x0 := hv3x0.ext hC93
     have hv6x0 := hv6x0.ext hC93
     have hv57 := hv57.ext hC93
     have hC := hC.ext hC93
     have hO := hO.new1 hC93 eg93 hb93.lt
     have hv93 := os_of_box (r := (RT.int .i64)) (M := M) (css := [[(.int .i64 k51)], [(.int .i64 k76)]]) (fps := [([] : List Nat), ([] : List Nat)]) (xs := ([k51, k76] : List Int)) hb93 ⟨⟨rfl, rfl⟩, ⟨⟨rfl, rfl⟩, trivial⟩⟩ (Nat.le_of_ble_eq_true rfl) (List.nodup_cons.2 ⟨(fun h => nomatch h), List.nodup_nil⟩)
     have hv93 : (RT.os 3 (RT.int .i64)).val M w93 (.slice (some ⟨g93, 0, none⟩) 2 2) [k51, k76] [g93] := hv93
     refine pl_val (.slice (some ⟨g93, 0, none⟩) 2 2) (y_assign rfl) ?_
     refine pl_val (.bool true) (y_assign rfl) ?_
     refine c_nil ?_
     refine wp_ret ?_
     cases hs
     have hO := hO.fr1
     have hO := hO.drop
     have hO := hO.fr1
     have hO := hO.drop
     exact ⟨_, (some ⟨g93, 0, none⟩), 2, 2, ([g93]), fr_ovl 48 ⟨rfl, rfl, trivial⟩, hC, hv93, hO.top⟩
    ·skip
     refine c_condF (congrArg Value.bool hc92) ?_
     refine wp_skip ?_
     refine c_region ?_
     refine pl_val (.int .i64 (w64 (k76 + 1))) (y_add rfl rfl) ?_
     refine pl_val (.int .i64 (w64 (k76 + 1))) (y_move rfl) ?_
     refine c_nil ?_
     cases hs
     have hO := hO.fr1
     have hO := hO.fr1
     exact ⟨_, fr_ovl 48 ⟨rfl, rfl, rfl, rfl, rfl, rfl, rfl, congrArg (Value.int .i64) hw, trivial⟩, hC, hO, hv3x0, hv6x0, hv57⟩
  ·skip
   have hO := hO.fr1
   have hO := hO.fr1
   exact ⟨_, fr_ovl 48 ⟨rfl, rfl, rfl, rfl, rfl, rfl, rfl, rfl, trivial⟩, hC, hO, hv3x0, hv6x0, hv57⟩
  ·cases o78 with
   | nx _ => exact True.intro
   | rt r_ =>
    have hs := after_rt hs
    intro a1 w1 hK
    cases hs
    exact hK
   | br s74 =>
    have hs := after_br hs
    rintro a1 w75 ⟨σ, rfl, hC, hO, hv3x0, hv6x0, hv57⟩
    refine c_region ?_
    refine pl_val (.int .i64 (w64 (k51 + 1))) (y_add rfl rfl) ?_
    refine pl_val (.int .i64 (w64 (k51 + 1))) (y_move rfl) ?_
    refine c_nil ?_
    cases hs
    have hO := hO.fr1
    have hO := hO.fr1
    exact ⟨_, fr_ovl 48 ⟨rfl, rfl, rfl, congrArg (Value.int .i64) hw, trivial⟩, hC, hO, hv3x0, hv6x0⟩
 ·skip
  have hO := hO.fr1
  have hO := hO.fr1
  exact ⟨_, fr_ovl 48 ⟨rfl, rfl, rfl, rfl, trivial⟩, hC, hO, hv3x0, hv6x0⟩
 ·cases o53 with
  | nx _ => exact True.intro
  | rt r_ =>
   have hs := after_rt hs
   intro a1 w1 hK
   cases hs
   exact hK
  | br s49 =>
   have hs := after_br hs
   rintro a1 w50 ⟨σ, rfl, hC, hO, hv3x0, hv6x0⟩
   refine c_seq (c_region ?_)
   refine pl_val (.slice none 0 0) (y_assign rfl) ?_
   refine pl_val (.bool false) (y_assign rfl) ?_
   refine c_nil ?_
   refine wp_ret ?_
   cases hs
   have hO := hO.drop
   have hO := hO.drop
   have hO := hO.nil
   exact ⟨_, none, 0, 0, [], fr_ovl 48 ⟨rfl, rfl, trivial⟩, hC, os_nil, hO.top⟩

theorem Bd56 : Bodied Tryz.prog 56 := bodied Tryz.func56 (by kernel_rfl) rfl

def k_impl_permute (M : Nat → Prop) (w0 : World) (r : Bool) (a : Act) (w : World) : Prop :=
  ∃ (σ : Nat → Value) , a = fr 15 (ovl σ [(4, (.bool r))]) ∧ Chg [] w0 w
def s_impl_permute (p : List Int) (q : List Int) : Option (Bool) :=
  (s_impl_unpermuted p q).bind fun r4 =>
  some (!r4.2)
set_option maxHeartbeats 4000000 in
theorem c_impl_permute {M : Nat → Prop} {w : World} {pa0 : Option Addr} {pn0 pc0 : Nat} {pa1 : Option Addr} {pn1 pc1 : Nat} (p : List Int) (q : List Int) (h0 : (RT.rs (RT.int .i64)).val M w (.slice pa0 pn0 pc0) p ([])) (h1 : (RT.rs (RT.int .i64)).val M w (.slice pa1 pn1 pc1) q ([])) (hM : ∀ g, w.heap.size ≤ g → M g) {r : Bool} (hs : s_impl_permute p q = some r) :
    Gives Tryz.prog 29 [(.slice pa0 pn0 pc0), (.slice pa1 pn1 pc1)] w (fun v w' => v = (.bool r) ∧ Chg [] w w') := by
 refine calls_fr Tryz.func29 rfl Tryz.ntmps29 (Nat.le_of_ble_eq_true rfl) ?_
 have hO := Own.start (N := Nw w []) hM Nw.fut
 have hC := Chg.refl [] w
 unfold s_impl_permute at hs
 refine wp_mono (Q := KPost (k_impl_permute M w r)) ?_ (fun e a w1 h => ?_)
 rotate_left
 ·cases e
  case ret =>
   obtain ⟨σ, rfl, hrest⟩ := h
   exact ret1x Tryz.results29 (res_tmp rfl) ⟨rfl, hrest⟩
  all_goals exact (h : False).elim
 refine c_seq (c_region ?_)
 refine pl_val (.bool false) (y_assign rfl) ?_
 refine c_nil ?_
 refine c_seq (c_region ?_)
 refine pl_val (.slice pa0 pn0 pc0) (y_move rfl) ?_
 refine pl_val (.slice pa1 pn1 pc1) (y_move rfl) ?_
 obtain ⟨r4, hr4, hs⟩ := bind_some hs
 refine pl_call Bd56 rfl (c_impl_unpermuted (M := M) p q h0 h1 hO.fut hr4) ?_
 rintro _ w3 ⟨a3x0, n3x0, c3x0, f3x0, rfl, hC3, hv3x0, hOc3⟩
 have h0 := h0.ext hC3
 have h1 := h1.ext hC3
 have hC := hC.ext hC3
 have hO := Own.join0 hO hC3 hOc3
 have hO := hO.perm (R := f3x0 ++ ([])) (by simp)
 refine pl_val (.tuple #[(.slice a3x0 n3x0 c3x0), (.bool r4.2)]) (y_move rfl) ?_
 refine pl_val (.slice a3x0 n3x0 c3x0) (y_extract rfl (by kernel_rfl)) ?_
 refine pl_val (.bool r4.2) (y_extract rfl (by kernel_rfl)) ?_
 refine pl_val (.slice a3x0 n3x0 c3x0) (y_assign rfl) ?_
 refine pl_val (.bool r4.2) (y_assign rfl) ?_
 refine c_nil ?_
 refine c_seq (c_region ?_)
 refine pl_val (.bool r4.2) (y_move rfl) ?_
 refine pl_val (.bool (!r4.2)) (y_not rfl) ?_
 refine pl_val (.bool (!r4.2)) (y_assign rfl) ?_
 refine c_nil ?_
 refine wp_ret ?_
 cases hs
 exact ⟨_, fr_ovl 15 ⟨rfl, trivial⟩, hC⟩

def k_impl_cloneRows (M : Nat → Prop) (w0 : World) (r : (List (List Int))) (a : Act) (w : World) : Prop :=
  ∃ (σ : Nat → Value) (ra0 : Option Addr) (rn0 rc0 : Nat) (rf0 : List Nat), a = fr 20 (ovl σ [(2, (.slice ra0 rn0 rc0))]) ∧ Chg [] w0 w ∧ (RT.os 47 (RT.os 3 (RT.int .i64))).val M w (.slice ra0 rn0 rc0) r rf0 ∧ Own (Nw w0 []) (fun _ => True) w (rf0 ++ ([]))
def s_impl_cloneRows (rows : List (List Int)) : Option ((List (List Int))) :=
  (forR (S := (List (List Int))) (R := (List (List Int))) (fun _ x20 s17 =>
  (s_impl_clone x20).bind fun r31 =>
  (app s17 ([r31])).bind fun y36 =>
  some (.nx y36)) 0 rows ([])).bind fun o21 => after o21 (fun r_ => some r_) (fun s17 =>
  some s17)
set_option maxHeartbeats 4000000 in
theorem c_impl_cloneRows {M : Nat → Prop} {w : World} {pa0 : Option Addr} {pn0 pc0 : Nat} (rows : List (List Int)) (h0 : (RT.rs (RT.rs (RT.int .i64))).val M w (.slice pa0 pn0 pc0) rows ([])) (hM : ∀ g, w.heap.size ≤ g → M g) {r : (List (List Int))} (hs : s_impl_cloneRows rows = some r) :
    Gives Tryz.prog 30 [(.slice pa0 pn0 pc0)] w (fun v w' => ∃ (ra0 : Option Addr) (rn0 rc0 : Nat) (rf0 : List Nat), v = (.slice ra0 rn0 rc0) ∧ Chg [] w w' ∧ (RT.os 47 (RT.os 3 (RT.int .i64))).val M w' (.slice ra0 rn0 rc0) r rf0 ∧ Own (Nw w []) (fun _ => True) w' (rf0 ++ ([]))) := by
 refine calls_fr Tryz.func30 rfl Tryz.ntmps30 (Nat.le_of_ble_eq_true rfl) ?_
 have hO := Own.start (N := Nw w []) hM Nw.fut
 have hC := Chg.refl [] w
 unfold s_impl_cloneRows at hs
 refine wp_mono (Q := KPost (k_impl_cloneRows M w r)) ?_ (fun e a w1 h => ?_)
 rotate_left
 ·cases e
  case ret =>
   obtain ⟨σ, ra0, rn0, rc0, rf0, rfl, hrest⟩ := h
   exact ret1x Tryz.results30 (res_tmp rfl) ⟨ra0, rn0, rc0, rf0, rfl, hrest⟩
  all_goals exact (h : False).elim
 refine c_seq (c_region ?_)
 refine pl_val (.slice none 0 0) (y_assign rfl) ?_
 refine c_nil ?_
 refine c_seq (c_region ?_)
 obtain ⟨w2, g2, ew2, eg2, hC2, hb2⟩ := new_block w [] 47
 refine pl_val (w' := w2) (.slice (some ⟨g2, 0, none⟩) 0 0) (y_bslice rfl (by rw [ew2, eg2]; kernel_rfl)) ?_
 have h0 := h0.ext hC2
 have hC := hC.ext hC2
 have hO := hO.new1 hC2 eg2 hb2.lt
 have hv2 := os_of_box (r := (RT.os 3 (RT.int .i64))) (M := M) (css := []) (fps := []) (xs := ([] : List (List Int))) hb2 trivial (Nat.zero_le _) (List.nodup_cons.2 ⟨(fun h => nomatch h), List.nodup_nil⟩)
 have hv2 : (RT.os 47 (RT.os 3 (RT.int .i64))).val M w2 (.slice (some ⟨g2, 0, none⟩) 0 0) [] [g2] := hv2
 refine pl_val (.slice (some ⟨g2, 0, none⟩) 0 0) (y_assign rfl) ?_
 refine c_nil ?_
 refine c_seq ?_
 refine c_seq (c_region ?_)
 refine pl_val (.slice pa0 pn0 pc0) (y_move rfl) ?_
 refine pl_val (.int .i64 (rows.length : Int)) (y_len' Sl43 (rs_len h0) rfl) ?_
 refine pl_val (.int .i64 0) (y_move rfl) ?_
 refine c_nil ?_
 obtain ⟨o21, hl22, hs⟩ := bind_some hs
 refine wp_block ?_
 refine wp_forR (id := 0) (I := fun i_ xs_ s17 a w18 => ∃ k19 : Nat, i_ = (k19 : Int) ∧ List.drop k19 rows = xs_ ∧ (∃ (σ : Nat → Value) (a23 : Option Addr) (n23 : Nat) (c23 : Nat) (f23 : List Nat), a = fr 20 (ovl σ [(3, (.slice a23 n23 c23)), (7, (.slice pa0 pn0 pc0)), (8, (.int .i64 (rows.length : Int))), (9, (.int .i64 (k19 : Int)))]) ∧ Chg [] w w18 ∧ Own (Nw w []) M w18 (f23 ++ []) ∧ (RT.rs (RT.rs (RT.int .i64))).val M w18 (.slice pa0 pn0 pc0) rows ([]) ∧ (RT.os 47 (RT.os 3 (RT.int .i64))).val M w18 (.slice a23 n23 c23) s17 f23)) (J := fun s17 a w18 => ∃ (σ : Nat → Value) (a25 : Option Addr) (n25 : Nat) (c25 : Nat) (f25 : List Nat), a = fr 20 (ovl σ [(3, (.slice a25 n25 c25))]) ∧ Chg [] w w18 ∧ Own (Nw w []) M w18 (f25 ++ []) ∧ (RT.rs (RT.rs (RT.int .i64))).val M w18 (.slice pa0 pn0 pc0) rows ([]) ∧ (RT.os 47 (RT.os 3 (RT.int .i64))).val M w18 (.slice a25 n25 c25) s17 f25) (K := (k_impl_cloneRows M w)) ?_ ?_ rows 0 ([]) o21 _ _ ?_ hl22 ?_
 ·rintro _ s17 a w18 ⟨k19, rfl, hd, σ, a23, n23, c23, f23, rfl, hC, hO, h0, hv23⟩
  have hlt := drop_nil_ge hd
  refine c_seq (c_region ?_)
  refine pl_val (.bool (decide ((k19 : Int) < (rows.length : Int)))) (y_lss rfl rfl) ?_
  refine c_nil ?_
  refine c_seq ?_
  refine c_condF (congrArg Value.bool (decide_eq_false hlt)) ?_
  refine wp_exit ?_
  exact ⟨rfl, _, a23, n23, c23, f23, fr_ovl 20 ⟨rfl, trivial⟩, hC, hO, h0, hv23⟩
 ·rintro _ x20 xs_ s17 o21 a w18 ⟨k19, rfl, hd, σ, a23, n23, c23, f23, rfl, hC, hO, h0, hv23⟩ hs
  have hlt := drop_cons_lt hd
  have hxk19 := drop_cons_idx hd
  refine c_seq (c_region ?_)
  refine pl_val (.bool (decide ((k19 : Int) < (rows.length : Int)))) (y_lss rfl rfl) ?_
  refine c_nil ?_
  refine c_seq ?_
  refine c_condT (congrArg Value.bool (decide_eq_true hlt)) ?_
  refine wp_skip ?_
  refine c_seq ?_
  refine wp_block ?_
  refine c_seq (c_region ?_)
  obtain ⟨b27, o27, hp27, ha27⟩ := rs_idx Sl43 Sz47 h0 hxk19
  refine pl_val (.pointer (some ⟨b27, o27, none⟩)) (hp27 _ _ _ _ _ _ _ _ _ rfl rfl) ?_
  obtain ⟨v28, hl28, hv28⟩ := at_load Ag47 Sz47 (fun _ => rfl) ha27
  obtain ⟨a28, n28, c28, rfl⟩ := rs_sl hv28
  refine pl_val (.slice a28 n28 c28) (y_load rfl (hl28 _ (Chg.refl _ _))) ?_
  refine pl_val (.slice a28 n28 c28) (y_assign rfl) ?_
  refine c_nil ?_
  refine c_region ?_
  refine pl_val (.slice a23 n23 c23) (y_move rfl) ?_
  refine pl_val (.slice a28 n28 c28) (y_move rfl) ?_
  obtain ⟨r31, hr31, hs⟩ := bind_some hs
  refine pl_call Bd57 rfl (c_impl_clone (M := M) x20 hv28 hO.fut hr31) ?_
  rintro _ w30 ⟨a30x0, n30x0, c30x0, f30x0, rfl, hC30, hv30x0, hOc30⟩
  have h0 := h0.ext hC30
  have hv23 := hv23.ext hC30
  have hv28 := hv28.ext hC30
  have hC := hC.ext hC30
  have hO := Own.join0 hO hC30 hOc30
  have hO := hO.perm (R := f30x0 ++ (f23 ++ ([]))) (by simp)
  obtain ⟨w33, g33, ew33, eg33, hC33, hb33⟩ := new_block w30 [(.slice a30x0 n30x0 c30x0)] 47
  refine pl_val (w' := w33) (.slice (some ⟨g33, 0, none⟩) 1 1) (y_bslice rfl (by rw [ew33, eg33]; kernel_rfl)) ?_
  have h0 := h0.ext hC33
  have hv23 := hv23.ext hC33
  have hv28 := hv28.ext hC33
  have hv30x0 := hv30x0.ext hC33
  have hC := hC.ext hC33
  have hO := hO.new1 hC33 eg33 hb33.lt
  have hO := hO.perm (R := (g33 :: ((f30x0) ++ ([]))) ++ (f23 ++ ([]))) (by simp)
  have hnd33 := hO.nd
  have hv33 := os_of_box (r := (RT.os 3 (RT.int .i64))) (M := M) (css := [[(.slice a30x0 n30x0 c30x0)]]) (fps := [(f30x0 : List Nat)]) (xs := ([r31] : List (List Int))) hb33 ⟨(os_unval hv30x0), trivial⟩ (Nat.le_of_ble_eq_true rfl) hnd33
  have hv33 : (RT.os 47 (RT.os 3 (RT.int .i64))).val M w33 (.slice (some ⟨g33, 0, none⟩) 1 1) [r31] (g33 :: ((f30x0) ++ ([]))) := hv33
  obtain ⟨y36, hy36, hs⟩ := bind_some hs
  have hO := hO.fr1
  obtain ⟨a35, n35, c35, w35, f35, hr35, hC35, hf35, hv35⟩ := app_os Rw43 hy36 hv23 hv33 hO.inM (fun g hg hq => hO.apart g hq (mem_l hg))
  have hG35 := os_block hv23
  refine pl_val (w' := w35) (.slice a35 n35 c35) (y_append rfl rfl (hr35 _)) ?_
  have hO := hO.fr1
  have hO := hO.fr1
  have h0 := h0.mut hC35 (fun g hg => hO.inM g (hG35 g hg)) (fun _ _ h => nomatch h)
  have hv28 := hv28.mut hC35 (fun g hg => hO.inM g (hG35 g hg)) (fun _ _ h => nomatch h)
  have hC := hC.step hC35 (fun g hg => hO.inN g (hG35 g hg))
  have hO := hO.eat hC35 hf35 (os_nodup hv35) hv35.fpl
  refine pl_val (.slice a35 n35 c35) (y_assign rfl) ?_
  refine c_nil ?_
  refine c_region ?_
  refine pl_val (.int .i64 (w64 ((k19 : Int) + 1))) (y_add rfl rfl) ?_
  refine pl_val (.int .i64 (w64 ((k19 : Int) + 1))) (y_move rfl) ?_
  refine c_nil ?_
  cases hs
  exact ⟨_, rfl, drop_cons_next hd, _, a35, n35, c35, f35, fr_ovl 20 ⟨rfl, rfl, rfl, congrArg (Value.int .i64) (w64_succ hlt (Int.natCast_nonneg _) (rs_max h0)), trivial⟩, hC, hO, h0, hv35⟩
 ·skip
  exact ⟨0, rfl, rfl, _, (some ⟨g2, 0, none⟩), 0, 0, ([g2]), fr_ovl 20 ⟨rfl, rfl, rfl, rfl, trivial⟩, hC, hO, h0, hv2⟩
 ·cases o21 with
  | nx _ => exact True.intro
  | rt r_ =>
   have hs := after_rt hs
   intro a1 w1 hK
   cases hs
   exact hK
  | br s17 =>
   have hs := after_br hs
   rintro a1 w18 ⟨σ, a25, n25, c25, f25, rfl, hC, hO, h0, hv25⟩
   refine c_seq (c_region ?_)
   refine pl_val (.slice a25 n25 c25) (y_move rfl) ?_
   refine pl_val (.slice a25 n25 c25) (y_assign rfl) ?_
   refine c_nil ?_
   refine wp_ret ?_
   cases hs
   exact ⟨_, a25, n25, c25, f25, fr_ovl 20 ⟨rfl, trivial⟩, hC, hv25, hO.top⟩

theorem Bd27 : Bodied Tryz.prog 27 := bodied Tryz.func27 (by kernel_rfl) rfl

theorem Bd28 : Bodied Tryz.prog 28 := bodied Tryz.func28 (by kernel_rfl) rfl

theorem Bd29 : Bodied Tryz.prog 29 := bodied Tryz.func29 (by kernel_rfl) rfl

theorem Bd30 : Bodied Tryz.prog 30 := bodied Tryz.func30 (by kernel_rfl) rfl

def k_impl_DirectPairs (M : Nat → Prop) (w0 : World) (r : (List (List (List Int))) × Bool) (a : Act) (w : World) : Prop :=
  ∃ (σ : Nat → Value) (ra0 : Option Addr) (rn0 rc0 : Nat) (rf0 : List Nat), a = fr 50 (ovl σ [(2, (.slice ra0 rn0 rc0)), (3, (.bool r.2))]) ∧ Chg [] w0 w ∧ (RT.os 43 (RT.os 47 (RT.os 3 (RT.int .i64)))).val M w (.slice ra0 rn0 rc0) r.1 rf0 ∧ Own (Nw w0 []) (fun _ => True) w (rf0 ++ ([]))
def s_impl_DirectPairs (a_ : Int × (List (Int × (List Int)))) : Option ((List (List (List Int))) × Bool) :=
  (s_impl_fewCongruences (a_.1, a_.2)).bind fun r4 =>
  (bif (!r4.2) then some ([], false) else (forR (S := (List (List (List Int)))) (R := (List (List (List Int))) × Bool) (fun _ x76 s73 =>
  (forR (S := (List (List (List Int)))) (R := (List (List (List Int))) × Bool) (fun _ x113 s110 =>
  ((s_impl_areComplements x76 x113).bind fun r127 =>
  (bif r127 then (s_impl_permute x76 x113).bind fun r130 =>
  some r130 else some false)).bind fun s123 =>
  (bif s123 then (s_impl_cloneRows ([x76, x113])).bind fun r135 =>
  (app s110 ([r135])).bind fun y140 =>
  some (.nx y140) else some (.nx s110))) 0 r4.1 s73).bind fun o114 => after o114 (fun r_ => some (.rt r_)) (fun s110 =>
  some (.nx s110))) 0 r4.1 ([])).bind fun o77 => after o77 (fun r_ => some r_) (fun s73 =>
  some (s73, true)))
set_option maxHeartbeats 4000000 in
theorem c_impl_DirectPairs {M : Nat → Prop} {w : World} {pa0 : Option Addr} {pn0 pc0 : Nat} (a_ : Int × (List (Int × (List Int)))) (h0 : (RT.rs (RT.pr (RT.int .i64) (RT.rs (RT.int .i64)))).val M w (.slice pa0 pn0 pc0) a_.2 ([])) (hM : ∀ g, w.heap.size ≤ g → M g) {r : (List (List (List Int))) × Bool} (hs : s_impl_DirectPairs a_ = some r) :
    Gives Tryz.prog 11 [(.agg #[(.int .i64 a_.1), (.slice pa0 pn0 pc0)])] w (fun v w' => ∃ (ra0 : Option Addr) (rn0 rc0 : Nat) (rf0 : List Nat), v = (.tuple #[(.slice ra0 rn0 rc0), (.bool r.2)]) ∧ Chg [] w w' ∧ (RT.os 43 (RT.os 47 (RT.os 3 (RT.int .i64)))).val M w' (.slice ra0 rn0 rc0) r.1 rf0 ∧ Own (Nw w []) (fun _ => True) w' (rf0 ++ ([]))) := by
 refine calls_fr Tryz.func11 rfl Tryz.ntmps11 (Nat.le_of_ble_eq_true rfl) ?_
 have hO := Own.start (N := Nw w []) hM Nw.fut
 have hC := Chg.refl [] w
 unfold s_impl_DirectPairs at hs
 refine wp_mono (Q := KPost (k_impl_DirectPairs M w r)) ?_ (fun e a w1 h => ?_)
 rotate_left
 ·cases e
  case ret =>
   obtain ⟨σ, ra0, rn0, rc0, rf0, rfl, hrest⟩ := h
   exact ret2x Tryz.results11 (res_tmp rfl) (res_tmp rfl) ⟨ra0, rn0, rc0, rf0, rfl, hrest⟩
  all_goals exact (h : False).elim
 refine c_seq (c_region ?_)
 obtain ⟨w2, g2, ew2, eg2, hC2, hb2⟩ := new_block w [(.int .i64 a_.1), (.slice pa0 pn0 pc0)] 30
 refine pl_val (w' := w2) (.pointer (some ⟨g2, 0, none⟩)) (y_box rfl (by rw [ew2, eg2]; kernel_rfl)) ?_
 have h0 := h0.ext hC2
 have hC := hC.ext hC2
 have hO := hO.new1 hC2 eg2 hb2.lt
 refine pl_val (.slice none 0 0) (y_assign rfl) ?_
 refine pl_val (.bool false) (y_assign rfl) ?_
 refine c_nil ?_
 refine c_seq (c_region ?_)
 refine pl_val (.agg #[(.int .i64 a_.1), (.slice pa0 pn0 pc0)]) (y_load rfl ((box_load Ag30 Sz30 hb2 [] [(.int .i64 a_.1), (.slice pa0 pn0 pc0)] [] rfl rfl (fun h => nomatch h)) _ (Chg.refl _ _))) ?_
 obtain ⟨r4, hr4, hs⟩ := bind_some hs
 refine pl_call Bd27 rfl (c_impl_fewCongruences (M := M) (a_.1, a_.2) h0 hO.fut hr4) ?_
 rintro _ w3 ⟨a3x0, n3x0, c3x0, f3x0, rfl, hC3, hv3x0, hOc3⟩
 have h0 := h0.ext hC3
 have hb2 := hb2.chg hC3 (fun h => nomatch h)
 have hC := hC.ext hC3
 have hO := Own.join0 hO hC3 hOc3
 have hO := hO.perm (R := f3x0 ++ (([g2]) ++ ([]))) (by simp)
 obtain ⟨M6, eM6, hs6, hk6, hO, hv6⟩ := frz_own (Frz.os (Frz.os Frz.int)) hv3x0 hO
 have h0 := h0.sub (M' := M6) hs6
 have hK := hk6
 refine pl_val (.tuple #[(.slice a3x0 n3x0 c3x0), (.bool r4.2)]) (y_move rfl) ?_
 refine pl_val (.slice a3x0 n3x0 c3x0) (y_extract rfl (by kernel_rfl)) ?_
 refine pl_val (.bool r4.2) (y_extract rfl (by kernel_rfl)) ?_
 refine pl_val (.slice a3x0 n3x0 c3x0) (y_assign rfl) ?_
 refine pl_val (.bool r4.2) (y_assign rfl) ?_
 refine c_nil ?_
 refine c_seq ?_
 refine c_seq (c_region ?_)
 refine pl_val (.bool r4.2) (y_move rfl) ?_
 refine pl_val (.bool (!r4.2)) (y_not rfl) ?_
 refine c_nil ?_
 rcases bif_some hs with ⟨hc7, hs⟩ | ⟨hc7, hs⟩
 ·skip
  refine c_condT (congrArg Value.bool hc7) ?_
  refine c_seq (c_region ?_)
  obtain ⟨w8, g8, ew8, eg8, hC8, hb8⟩ := new_block w3 [] 43
  refine pl_val (w' := w8) (.slice (some ⟨g8, 0, none⟩) 0 0) (y_bslice rfl (by rw [ew8, eg8]; kernel_rfl)) ?_
  have hb2 := hb2.chg hC8 (fun h => nomatch h)
  have hv6 := hv6.ext hC8
  have hC := hC.ext hC8
  have hO := hO.new1 hC8 eg8 hb8.lt
  have hv8 := os_of_box (r := (RT.os 47 (RT.os 3 (RT.int .i64)))) (M := M6) (css := []) (fps := []) (xs := ([] : List (List (List Int)))) hb8 trivial (Nat.zero_le _) (List.nodup_cons.2 ⟨(fun h => nomatch h), List.nodup_nil⟩)
  have hv8 : (RT.os 43 (RT.os 47 (RT.os 3 (RT.int .i64)))).val M6 w8 (.slice (some ⟨g8, 0, none⟩) 0 0) [] [g8] := hv8
  refine pl_val (.slice (some ⟨g8, 0, none⟩) 0 0) (y_assign rfl) ?_
  refine pl_val (.bool false) (y_assign rfl) ?_
  refine c_nil ?_
  refine wp_ret ?_
  cases hs
  have hO := hO.fr1
  have hO := hO.drop
  exact ⟨_, (some ⟨g8, 0, none⟩), 0, 0, ([g8]), fr_ovl 50 ⟨rfl, rfl, trivial⟩, hC, (hv8.free (Free.os (Free.os (Free.os Free.int)))), hO.top⟩
 ·skip
  refine c_condF (congrArg Value.bool hc7) ?_
  refine wp_skip ?_
  refine c_seq (c_region ?_)
  obtain ⟨w10, g10, ew10, eg10, hC10, hb10⟩ := new_block w3 [] 43
  refine pl_val (w' := w10) (.slice (some ⟨g10, 0, none⟩) 0 0) (y_bslice rfl (by rw [ew10, eg10]; kernel_rfl)) ?_
  have hb2 := hb2.chg hC10 (fun h => nomatch h)
  have hv6 := hv6.ext hC10
  have hC := hC.ext hC10
  have hO := hO.new1 hC10 eg10 hb10.lt
  have hv10 := os_of_box (r := (RT.os 47 (RT.os 3 (RT.int .i64)))) (M := M6) (css := []) (fps := []) (xs := ([] : List (List (List Int)))) hb10 trivial (Nat.zero_le _) (List.nodup_cons.2 ⟨(fun h => nomatch h), List.nodup_nil⟩)
  have hv10 : (RT.os 43 (RT.os 47 (RT.os 3 (RT.int .i64)))).val M6 w10 (.slice (some ⟨g10, 0, none⟩) 0 0) [] [g10] := hv10
  refine pl_val (.slice (some ⟨g10, 0, none⟩) 0 0) (y_assign rfl) ?_
  refine c_nil ?_
  refine c_seq ?_
  refine c_seq (c_region ?_)
  refine pl_val (.slice a3x0 n3x0 c3x0) (y_move rfl) ?_
  refine pl_val (.int .i64 (r4.1.length : Int)) (y_len' Sl43 (rs_len hv6) rfl) ?_
  refine pl_val (.int .i64 0) (y_move rfl) ?_
  refine c_nil ?_
  have hO := hO.fr1
  have hO := hO.drop
  obtain ⟨o77, hl78, hs⟩ := bind_some hs
  refine wp_block ?_
  refine wp_forR (id := 0) (I := fun i_ xs_ s73 a w74 => ∃ k75 : Nat, i_ = (k75 : Int) ∧ List.drop k75 r4.1 = xs_ ∧ (∃ (σ : Nat → Value) (a79 : Option Addr) (n79 : Nat) (c79 : Nat) (f79 : List Nat), a = fr 50 (ovl σ [(4, (.slice a3x0 n3x0 c3x0)), (6, (.slice a79 n79 c79)), (20, (.slice a3x0 n3x0 c3x0)), (21, (.int .i64 (r4.1.length : Int))), (22, (.int .i64 (k75 : Int)))]) ∧ Chg [] w w74 ∧ Own (Nw w []) M6 w74 (f79 ++ []) ∧ (RT.rs (RT.rs (RT.int .i64))).val M6 w74 (.slice a3x0 n3x0 c3x0) r4.1 ([]) ∧ (RT.os 43 (RT.os 47 (RT.os 3 (RT.int .i64)))).val M6 w74 (.slice a79 n79 c79) s73 f79)) (J := fun s73 a w74 => ∃ (σ : Nat → Value) (a81 : Option Addr) (n81 : Nat) (c81 : Nat) (f81 : List Nat), a = fr 50 (ovl σ [(6, (.slice a81 n81 c81))]) ∧ Chg [] w w74 ∧ Own (Nw w []) M6 w74 (f81 ++ []) ∧ (RT.rs (RT.rs (RT.int .i64))).val M6 w74 (.slice a3x0 n3x0 c3x0) r4.1 ([]) ∧ (RT.os 43 (RT.os 47 (RT.os 3 (RT.int .i64)))).val M6 w74 (.slice a81 n81 c81) s73 f81) (K := (k_impl_DirectPairs M w)) ?_ ?_ r4.1 0 ([]) o77 _ _ ?_ hl78 ?_
  ·rintro _ s73 a w74 ⟨k75, rfl, hd, σ, a79, n79, c79, f79, rfl, hC, hO, hv6, hv79⟩
   have hlt := drop_nil_ge hd
   refine c_seq (c_region ?_)
   refine pl_val (.bool (decide ((k75 : Int) < (r4.1.length : Int)))) (y_lss rfl rfl) ?_
   refine c_nil ?_
   refine c_seq ?_
   refine c_condF (congrArg Value.bool (decide_eq_false hlt)) ?_
   refine wp_exit ?_
   exact ⟨rfl, _, a79, n79, c79, f79, fr_ovl 50 ⟨rfl, trivial⟩, hC, hO, hv6, hv79⟩
  ·rintro _ x76 xs_ s73 o77 a w74 ⟨k75, rfl, hd, σ, a79, n79, c79, f79, rfl, hC, hO, hv6, hv79⟩ hs
   have hlt := drop_cons_lt hd
   have hxk75 := drop_cons_idx hd
   refine c_seq (c_region ?_)
   refine pl_val (.bool (decide ((k75 : Int) < (r4.1.length : Int)))) (y_lss rfl rfl) ?_
   refine c_nil ?_
   refine c_seq ?_
   refine c_condT (congrArg Value.bool (decide_eq_true hlt)) ?_
   refine wp_skip ?_
   refine c_seq ?_
   refine wp_block ?_
   refine c_seq (c_region ?_)
   obtain ⟨b83, o83, hp83, ha83⟩ := rs_idx Sl43 Sz47 hv6 hxk75
   refine pl_val (.pointer (some ⟨b83, o83, none⟩)) (hp83 _ _ _ _ _ _ _ _ _ rfl rfl) ?_
   obtain ⟨v84, hl84, hv84⟩ := at_load Ag47 Sz47 (fun _ => rfl) ha83
   obtain ⟨a84, n84, c84, rfl⟩ := rs_sl hv84
   refine pl_val (.slice a84 n84 c84) (y_load rfl (hl84 _ (Chg.refl _ _))) ?_
   refine pl_val (.slice a84 n84 c84) (y_assign rfl) ?_
   refine c_nil ?_
   refine c_seq (c_region ?_)
   refine pl_val (.slice a3x0 n3x0 c3x0) (y_move rfl) ?_
   refine pl_val (.int .i64 (r4.1.length : Int)) (y_len' Sl43 (rs_len hv6) rfl) ?_
   refine pl_val (.int .i64 0) (y_move rfl) ?_
   refine c_nil ?_
   obtain ⟨o114, hl115, hs⟩ := bind_some hs
   refine wp_block ?_
   refine wp_forR (id := 2) (I := fun i_ xs_ s110 a w111 => ∃ k112 : Nat, i_ = (k112 : Int) ∧ List.drop k112 r4.1 = xs_ ∧ (∃ (σ : Nat → Value) (a116 : Option Addr) (n116 : Nat) (c116 : Nat) (f116 : List Nat), a = fr 50 (ovl σ [(4, (.slice a3x0 n3x0 c3x0)), (6, (.slice a116 n116 c116)), (8, (.slice a84 n84 c84)), (20, (.slice a3x0 n3x0 c3x0)), (21, (.int .i64 (r4.1.length : Int))), (22, (.int .i64 (k75 : Int))), (26, (.slice a3x0 n3x0 c3x0)), (27, (.int .i64 (r4.1.length : Int))), (28, (.int .i64 (k112 : Int)))]) ∧ Chg [] w w111 ∧ Own (Nw w []) M6 w111 (f116 ++ []) ∧ (RT.rs (RT.rs (RT.int .i64))).val M6 w111 (.slice a3x0 n3x0 c3x0) r4.1 ([]) ∧ (RT.rs (RT.int .i64)).val M6 w111 (.slice a84 n84 c84) x76 ([]) ∧ (RT.os 43 (RT.os 47 (RT.os 3 (RT.int .i64)))).val M6 w111 (.slice a116 n116 c116) s110 f116)) (J := fun s110 a w111 => ∃ (σ : Nat → Value) (a118 : Option Addr) (n118 : Nat) (c118 : Nat) (f118 : List Nat), a = fr 50 (ovl σ [(4, (.slice a3x0 n3x0 c3x0)), (6, (.slice a118 n118 c118)), (20, (.slice a3x0 n3x0 c3x0)), (21, (.int .i64 (r4.1.length : Int))), (22, (.int .i64 (k75 : Int)))]) ∧ Chg [] w w111 ∧ Own (Nw w []) M6 w111 (f118 ++ []) ∧ (RT.rs (RT.rs (RT.int .i64))).val M6 w111 (.slice a3x0 n3x0 c3x0) r4.1 ([]) ∧ (RT.rs (RT.int .i64)).val M6 w111 (.slice a84 n84 c84) x76 ([]) ∧ (RT.os 43 (RT.os 47 (RT.os 3 (RT.int .i64)))).val M6 w111 (.slice a118 n118 c118) s110 f118) (K := (k_impl_DirectPairs M w)) ?_ ?_ r4.1 0 s73 o114 _ _ ?_ hl115 ?_
   ·rintro _ s110 a w111 ⟨k112, rfl, hd, σ, a116, n116, c116, f116, rfl, hC, hO, hv6, hv84, hv116⟩
    have hlt := drop_nil_ge hd
    refine c_seq (c_region ?_)
    refine pl_val (.bool (decide ((k112 : Int) < (r4.1.length : Int)))) (y_lss rfl rfl) ?_
    refine c_nil ?_
    refine c_seq ?_
    refine c_condF (congrArg Value.bool (decide_eq_false hlt)) ?_
    refine wp_exit ?_
    exact ⟨rfl, _, a116, n116, c116, f116, fr_ovl 50 ⟨rfl, rfl, rfl, rfl, rfl, trivial⟩, hC, hO, hv6, hv84, hv116⟩
   ·rintro _ x113 xs_ s110 o114 a w111 ⟨k112, rfl, hd, σ, a116, n116, c116, f116, rfl, hC, hO, hv6, hv84, hv116⟩ hs
    have hlt := drop_cons_lt hd
    have hxk112 := drop_cons_idx hd
    refine c_seq (c_region ?_)
    refine pl_val (.bool (decide ((k112 : Int) < (r4.1.length : Int)))) (y_lss rfl rfl) ?_
    refine c_nil ?_
    refine c_seq ?_
    refine c_condT (congrArg Value.bool (decide_eq_true hlt)) ?_
    refine wp_skip ?_
    refine c_seq ?_
    refine wp_block ?_
    refine c_seq (c_region ?_)
    obtain ⟨b120, o120, hp120, ha120⟩ := rs_idx Sl43 Sz47 hv6 hxk112
    refine pl_val (.pointer (some ⟨b120, o120, none⟩)) (hp120 _ _ _ _ _ _ _ _ _ rfl rfl) ?_
    obtain ⟨v121, hl121, hv121⟩ := at_load Ag47 Sz47 (fun _ => rfl) ha120
    obtain ⟨a121, n121, c121, rfl⟩ := rs_sl hv121
    refine pl_val (.slice a121 n121 c121) (y_load rfl (hl121 _ (Chg.refl _ _))) ?_
    refine pl_val (.slice a121 n121 c121) (y_assign rfl) ?_
    refine c_nil ?_
    refine c_seq ?_
    obtain ⟨s123, hm125, hs⟩ := bind_some hs
    refine c_mid (I := fun a w124 => ∃ (σ : Nat → Value), a = fr 50 (ovl σ [(4, (.slice a3x0 n3x0 c3x0)), (6, (.slice a116 n116 c116)), (8, (.slice a84 n84 c84)), (10, (.slice a121 n121 c121)), (20, (.slice a3x0 n3x0 c3x0)), (21, (.int .i64 (r4.1.length : Int))), (22, (.int .i64 (k75 : Int))), (26, (.slice a3x0 n3x0 c3x0)), (27, (.int .i64 (r4.1.length : Int))), (28, (.int .i64 (k112 : Int))), (39, (.bool s123))]) ∧ Chg [] w111 w124) ?_ ?_
    ·replace hs := hm125
     have hMid := Chg.refl [] w111
     refine c_region ?_
     refine pl_val (.slice a84 n84 c84) (y_move rfl) ?_
     refine pl_val (.slice a121 n121 c121) (y_move rfl) ?_
     obtain ⟨r127, hr127, hs⟩ := bind_some hs
     refine pl_call Bd28 rfl (c_impl_areComplements (M := M6) x76 x113 hv84 hv121 hO.fut hr127) ?_
     rintro _ w126 ⟨rfl, hC126⟩
     have hv6 := hv6.ext hC126
     have hv84 := hv84.ext hC126
     have hv116 := hv116.ext hC126
     have hv121 := hv121.ext hC126
     have hMid := hMid.ext hC126
     have hC := hC.ext hC126
     have hO := hO.ext hC126
     refine pl_val (.bool r127) (y_move rfl) ?_
     rcases bif_some hs with ⟨hc128, hs⟩ | ⟨hc128, hs⟩
     ·skip
      refine pl_yes (.slice a84 n84 c84) (tg := 35) (by kernel_rfl) (congrArg Value.bool hc128) (y_move rfl) ?_
      refine pl_yes (.slice a121 n121 c121) (tg := 35) (by kernel_rfl) (congrArg Value.bool hc128) (y_move rfl) ?_
      obtain ⟨r130, hr130, hs⟩ := bind_some hs
      refine pl_cally (tg := 35) (by kernel_rfl) (congrArg Value.bool hc128) Bd29 rfl (c_impl_permute (M := M6) x76 x113 hv84 hv121 hO.fut hr130) ?_
      rintro _ w129 ⟨rfl, hC129⟩
      have hv6 := hv6.ext hC129
      have hv84 := hv84.ext hC129
      have hv116 := hv116.ext hC129
      have hv121 := hv121.ext hC129
      have hMid := hMid.ext hC129
      have hC := hC.ext hC129
      have hO := hO.ext hC129
      refine pl_val (.bool r130) (y_pick_t (congrArg Value.bool hc128) rfl) ?_
      refine c_nil ?_
      cases hs
      exact ⟨_, fr_ovl 50 ⟨rfl, rfl, rfl, rfl, rfl, rfl, rfl, rfl, rfl, rfl, rfl, trivial⟩, hMid⟩
     ·skip
      refine pl_not (tg := 35) (by kernel_rfl) (congrArg Value.bool hc128) ?_
      refine pl_not (tg := 35) (by kernel_rfl) (congrArg Value.bool hc128) ?_
      refine pl_not (tg := 35) (by kernel_rfl) (congrArg Value.bool hc128) ?_
      refine pl_val (.bool false) (y_pick_f (congrArg Value.bool hc128) rfl) ?_
      refine c_nil ?_
      cases hs
      exact ⟨_, fr_ovl 50 ⟨rfl, rfl, rfl, rfl, rfl, rfl, rfl, rfl, rfl, rfl, rfl, trivial⟩, hMid⟩
    ·rintro a1 w124 ⟨σ, rfl, hCs123⟩
     have hv6 := hv6.ext hCs123
     have hv84 := hv84.ext hCs123
     have hv116 := hv116.ext hCs123
     have hv121 := hv121.ext hCs123
     have hC := hC.ext hCs123
     have hO := hO.ext hCs123
     rcases bif_some hs with ⟨hc131, hs⟩ | ⟨hc131, hs⟩
     ·skip
      refine c_condT (congrArg Value.bool hc131) ?_
      refine c_region ?_
      refine pl_val (.slice a116 n116 c116) (y_move rfl) ?_
      refine pl_val (.slice a84 n84 c84) (y_move rfl) ?_
      refine pl_val (.slice a121 n121 c121) (y_move rfl) ?_
      obtain ⟨w132, g132, ew132, eg132, hC132, hb132⟩ := new_block w124 [(.slice a84 n84 c84), (.slice a121 n121 c121)] 47
      refine pl_val (w' := w132) (.slice (some ⟨g132, 0, none⟩) 2 2) (y_bslice rfl (by rw [ew132, eg132]; kernel_rfl)) ?_
      have hv6 := hv6.ext hC132
      have hv84 := hv84.ext hC132
      have hv116 := hv116.ext hC132
      have hv121 := hv121.ext hC132
      have hC := hC.ext hC132
      have hO := hO.new1 hC132 eg132 hb132.lt
      have hv132 := os_of_box (r := (RT.rs (RT.int .i64))) (M := M6) (css := [[(.slice a84 n84 c84)], [(.slice a121 n121 c121)]]) (fps := [([] : List Nat), ([] : List Nat)]) (xs := ([x76, x113] : List (List Int))) hb132 ⟨(rs_unval hv84), ⟨(rs_unval hv121), trivial⟩⟩ (Nat.le_of_ble_eq_true rfl) (List.nodup_cons.2 ⟨(fun h => nomatch h), List.nodup_nil⟩)
      have hv132 : (RT.os 47 (RT.rs (RT.int .i64))).val M6 w132 (.slice (some ⟨g132, 0, none⟩) 2 2) [x76, x113] [g132] := hv132
      obtain ⟨r135, hr135, hs⟩ := bind_some hs
      refine pl_call Bd30 rfl (c_impl_cloneRows (M := (Less M6 ([g132]))) ([x76, x113]) (((Frz.os (Frz.rs Frz.int))).val hv132 Less.sub Less.not) hO.less.fut hr135) ?_
      rintro _ w134 ⟨a134x0, n134x0, c134x0, f134x0, rfl, hC134, hv134x0, hOc134⟩
      have hv6 := hv6.ext hC134
      have hv84 := hv84.ext hC134
      have hv116 := hv116.ext hC134
      have hv121 := hv121.ext hC134
      have hv132 := hv132.ext hC134
      have hC := hC.ext hC134
      have hO := Own.join0 hO hC134 hOc134
      have hO := hO.perm (R := f134x0 ++ (([g132]) ++ (f116 ++ ([])))) (by simp)
      have hv134x0 := hv134x0.free (M' := M6) (Free.os (Free.os Free.int))
      obtain ⟨w137, g137, ew137, eg137, hC137, hb137⟩ := new_block w134 [(.slice a134x0 n134x0 c134x0)] 43
      refine pl_val (w' := w137) (.slice (some ⟨g137, 0, none⟩) 1 1) (y_bslice rfl (by rw [ew137, eg137]; kernel_rfl)) ?_
      have hv6 := hv6.ext hC137
      have hv84 := hv84.ext hC137
      have hv116 := hv116.ext hC137
      have hv121 := hv121.ext hC137
      have hv132 := hv132.ext hC137
      have hv134x0 := hv134x0.ext hC137
      have hC := hC.ext hC137
      have hO := hO.new1 hC137 eg137 hb137.lt
      have hO := hO.perm (R := (g137 :: ((f134x0) ++ ([]))) ++ (([g132]) ++ (f116 ++ ([])))) (by simp)
      have hnd137 := hO.nd
      have hv137 := os_of_box (r := (RT.os 47 (RT.os 3 (RT.int .i64)))) (M := M6) (css := [[(.slice a134x0 n134x0 c134x0)]]) (fps := [(f134x0 : List Nat)]) (xs := ([r135] : List (List (List Int)))) hb137 ⟨(os_unval hv134x0), trivial⟩ (Nat.le_of_ble_eq_true rfl) hnd137
      have hv137 : (RT.os 43 (RT.os 47 (RT.os 3 (RT.int .i64)))).val M6 w137 (.slice (some ⟨g137, 0, none⟩) 1 1) [r135] (g137 :: ((f134x0) ++ ([]))) := hv137
      obtain ⟨y140, hy140, hs⟩ := bind_some hs
      have hO := hO.fr2
      obtain ⟨a139, n139, c139, w139, f139, hr139, hC139, hf139, hv139⟩ := app_os Rw34 hy140 hv116 hv137 hO.inM (fun g hg hq => hO.apart g hq (mem_l hg))
      have hG139 := os_block hv116
      refine pl_val (w' := w139) (.slice a139 n139 c139) (y_append rfl rfl (hr139 _)) ?_
      have hO := hO.fr1
      have hO := hO.fr1
      have hv6 := hv6.mut hC139 (fun g hg => hO.inM g (hG139 g hg)) (fun _ _ h => nomatch h)
      have hv84 := hv84.mut hC139 (fun g hg => hO.inM g (hG139 g hg)) (fun _ _ h => nomatch h)
      have hv121 := hv121.mut hC139 (fun g hg => hO.inM g (hG139 g hg)) (fun _ _ h => nomatch h)
      have hv132 := hv132.mut hC139 (fun g hg => hO.inM g (hG139 g hg)) (fun g hg e => hO.apart g (hG139 g hg) (mem_r (mem_l (e))))
      have hC := hC.step hC139 (fun g hg => hO.inN g (hG139 g hg))
      have hO := hO.eat hC139 hf139 (os_nodup hv139) hv139.fpl
      refine pl_val (.slice a139 n139 c139) (y_assign rfl) ?_
      refine c_nil ?_
      refine c_region ?_
      refine pl_val (.int .i64 (w64 ((k112 : Int) + 1))) (y_add rfl rfl) ?_
      refine pl_val (.int .i64 (w64 ((k112 : Int) + 1))) (y_move rfl) ?_
      refine c_nil ?_
      cases hs
      have hO := hO.fr1
      have hO := hO.drop
      exact ⟨_, rfl, drop_cons_next hd, _, a139, n139, c139, f139, fr_ovl 50 ⟨rfl, rfl, rfl, rfl, rfl, rfl, rfl, rfl, congrArg (Value.int .i64) (w64_succ hlt (Int.natCast_nonneg _) (rs_max hv6)), trivial⟩, hC, hO, hv6, hv84, hv139⟩
     ·skip
      refine c_condF (congrArg Value.bool hc131) ?_
      refine wp_skip ?_
      refine c_region ?_
      refine pl_val (.int .i64 (w64 ((k112 : Int) + 1))) (y_add rfl rfl) ?_
      refine pl_val (.int .i64 (w64 ((k112 : Int) + 1))) (y_move rfl) ?_
      refine c_nil ?_
      cases hs
      exact ⟨_, rfl, drop_cons_next hd, _, a116, n116, c116, f116, fr_ovl 50 ⟨rfl, rfl, rfl, rfl, rfl, rfl, rfl, rfl, congrArg (Value.int .i64) (w64_succ hlt (Int.natCast_nonneg _) (rs_max hv6)), trivial⟩, hC, hO, hv6, hv84, hv116⟩
   ·skip
    exact ⟨0, rfl, rfl, _, a79, n79, c79, f79, fr_ovl 50 ⟨rfl, rfl, rfl, rfl, rfl, rfl, rfl, rfl, rfl, trivial⟩, hC, hO, hv6, hv84, hv79⟩
   ·cases o114 with
    | nx _ => exact True.intro
    | rt r_ =>
     have hs := after_rt hs
     intro a1 w1 hK
     cases hs
     exact hK
    | br s110 =>
     have hs := after_br hs
     rintro a1 w111 ⟨σ, a118, n118, c118, f118, rfl, hC, hO, hv6, hv84, hv118⟩
     refine c_region ?_
     refine pl_val (.int .i64 (w64 ((k75 : Int) + 1))) (y_add rfl rfl) ?_
     refine pl_val (.int .i64 (w64 ((k75 : Int) + 1))) (y_move rfl) ?_
     refine c_nil ?_
     cases hs
     exact ⟨_, rfl, drop_cons_next hd, _, a118, n118, c118, f118, fr_ovl 50 ⟨rfl, rfl, rfl, rfl, congrArg (Value.int .i64) (w64_succ hlt (Int.natCast_nonneg _) (rs_max hv6)), trivial⟩, hC, hO, hv6, hv118⟩
  ·skip
   exact ⟨0, rfl, rfl, _, (some ⟨g10, 0, none⟩), 0, 0, ([g10]), fr_ovl 50 ⟨rfl, rfl, rfl, rfl, rfl, trivial⟩, hC, hO, hv6, hv10⟩
  ·cases o77 with
   | nx _ => exact True.intro
   | rt r_ =>
    have hs := after_rt hs
    intro a1 w1 hK
    cases hs
    exact hK
   | br s73 =>
    have hs := after_br hs
    rintro a1 w74 ⟨σ, a81, n81, c81, f81, rfl, hC, hO, hv6, hv81⟩
    refine c_seq (c_region ?_)
    refine pl_val (.slice a81 n81 c81) (y_move rfl) ?_
    refine pl_val (.slice a81 n81 c81) (y_assign rfl) ?_
    refine pl_val (.bool true) (y_assign rfl) ?_
    refine c_nil ?_
    refine wp_ret ?_
    cases hs
    exact ⟨_, a81, n81, c81, f81, fr_ovl 50 ⟨rfl, rfl, trivial⟩, hC, (hv81.free (Free.os (Free.os (Free.os Free.int)))), hO.top⟩

def k_laws_eqIntS (M : Nat → Prop) (w0 : World) (r : Bool) (a : Act) (w : World) : Prop :=
  ∃ (σ : Nat → Value) , a = fr 26 (ovl σ [(4, (.bool r))]) ∧ Chg [] w0 w
def s_laws_eqIntS (a_ : List Int) (b : List Int) : Option (Bool) :=
  (bif ((a_.length : Int) != (b.length : Int)) then some false else (forC (S := Unit) (R := Bool) (fun k12 s10 =>
  (idx a_ k12).bind fun x17 =>
  (idx b k12).bind fun x19 =>
  (bif (x17 != x19) then some (.rt false) else some (.nx ()))) 0 (a_.length : Int) ()).bind fun o14 => after o14 (fun r_ => some r_) (fun s10 =>
  some true))
set_option maxHeartbeats 4000000 in
theorem c_laws_eqIntS {M : Nat → Prop} {w : World} {pa0 : Option Addr} {pn0 pc0 : Nat} {pa1 : Option Addr} {pn1 pc1 : Nat} (a_ : List Int) (b : List Int) (h0 : (RT.rs (RT.int .i64)).val M w (.slice pa0 pn0 pc0) a_ ([])) (h1 : (RT.rs (RT.int .i64)).val M w (.slice pa1 pn1 pc1) b ([])) (hM : ∀ g, w.heap.size ≤ g → M g) {r : Bool} (hs : s_laws_eqIntS a_ b = some r) :
    Gives Tryz.prog 58 [(.slice pa0 pn0 pc0), (.slice pa1 pn1 pc1)] w (fun v w' => v = (.bool r) ∧ Chg [] w w') := by
 refine calls_fr Tryz.func58 rfl Tryz.ntmps58 (Nat.le_of_ble_eq_true rfl) ?_
 have hO := Own.start (N := Nw w []) hM Nw.fut
 have hC := Chg.refl [] w
 unfold s_laws_eqIntS at hs
 refine wp_mono (Q := KPost (k_laws_eqIntS M w r)) ?_ (fun e a w1 h => ?_)
 rotate_left
 ·cases e
  case ret =>
   obtain ⟨σ, rfl, hrest⟩ := h
   exact ret1x Tryz.results58 (res_tmp rfl) ⟨rfl, hrest⟩
  all_goals exact (h : False).elim
 refine c_seq (c_region ?_)
 refine pl_val (.bool false) (y_assign rfl) ?_
 refine c_nil ?_
 refine c_seq ?_
 refine c_seq (c_region ?_)
 refine pl_val (.slice pa0 pn0 pc0) (y_move rfl) ?_
 refine pl_val (.int .i64 (a_.length : Int)) (y_len' Sl47 (rs_len h0) rfl) ?_
 refine pl_val (.slice pa1 pn1 pc1) (y_move rfl) ?_
 refine pl_val (.int .i64 (b.length : Int)) (y_len' Sl47 (rs_len h1) rfl) ?_
 refine pl_val (.bool ((a_.length : Int) != (b.length : Int))) (y_neq rfl rfl) ?_
 refine c_nil ?_
 rcases bif_some hs with ⟨hc3, hs⟩ | ⟨hc3, hs⟩
 ·skip
  refine c_condT (congrArg Value.bool hc3) ?_
  refine c_seq (c_region ?_)
  refine pl_val (.bool false) (y_assign rfl) ?_
  refine c_nil ?_
  refine wp_ret ?_
  cases hs
  exact ⟨_, fr_ovl 26 ⟨rfl, trivial⟩, hC⟩
 ·skip
  refine c_condF (congrArg Value.bool hc3) ?_
  refine wp_skip ?_
  refine c_seq ?_
  refine c_seq (c_region ?_)
  refine pl_val (.int .i64 0) (y_assign rfl) ?_
  refine c_nil ?_
  obtain ⟨o14, hl15, hs⟩ := bind_some hs
  refine wp_block ?_
  refine wp_forC (id := 0) (a_.length : Int) (I := fun k12 s10 a w11 => ∃ (σ : Nat → Value), a = fr 26 (ovl σ [(0, (.slice pa0 pn0 pc0)), (1, (.slice pa1 pn1 pc1)), (5, (.int .i64 k12))]) ∧ Chg [] w w11 ∧ Own (Nw w []) M w11 ([]) ∧ (RT.rs (RT.int .i64)).val M w11 (.slice pa0 pn0 pc0) a_ ([]) ∧ (RT.rs (RT.int .i64)).val M w11 (.slice pa1 pn1 pc1) b ([])) (J := fun s10 a w11 => ∃ (σ : Nat → Value), a = fr 26 (ovl σ []) ∧ Chg [] w w11 ∧ Own (Nw w []) M w11 ([]) ∧ (RT.rs (RT.int .i64)).val M w11 (.slice pa0 pn0 pc0) a_ ([]) ∧ (RT.rs (RT.int .i64)).val M w11 (.slice pa1 pn1 pc1) b ([])) (K := (k_laws_eqIntS M w)) ?_ ?_ 0 () o14 _ _ ?_ hl15 ?_
  ·rintro k12 s10 a w11 ⟨σ, rfl, hC, hO, h0, h1⟩ hlt
   refine c_seq ?_
   refine c_seq (c_region ?_)
   refine pl_val (.int .i64 k12) (y_move rfl) ?_
   refine pl_val (.slice pa0 pn0 pc0) (y_move rfl) ?_
   refine pl_val (.int .i64 (a_.length : Int)) (y_len' Sl47 (rs_len h0) rfl) ?_
   refine pl_val (.bool (decide (k12 < (a_.length : Int)))) (y_lss rfl rfl) ?_
   refine c_nil ?_
   refine c_condF (congrArg Value.bool (decide_eq_false hlt)) ?_
   refine wp_exit ?_
   exact ⟨rfl, _, fr_ovl 26 trivial, hC, hO, h0, h1⟩
  ·rintro k12 s10 o14 a w11 ⟨σ, rfl, hC, hO, h0, h1⟩ hlt hw hs
   refine c_seq ?_
   refine c_seq (c_region ?_)
   refine pl_val (.int .i64 k12) (y_move rfl) ?_
   refine pl_val (.slice pa0 pn0 pc0) (y_move rfl) ?_
   refine pl_val (.int .i64 (a_.length : Int)) (y_len' Sl47 (rs_len h0) rfl) ?_
   refine pl_val (.bool (decide (k12 < (a_.length : Int)))) (y_lss rfl rfl) ?_
   refine c_nil ?_
   refine c_condT (congrArg Value.bool (decide_eq_true hlt)) ?_
   refine wp_skip ?_
   refine c_seq ?_
   refine wp_block ?_
   refine c_seq ?_
   refine x_start [] Mx rfl ?_
   have hCw16 := Chg.drew w11
   generalize World.drew w11 = w16 at hCw16 ⊢
   have h0 := h0.ext hCw16
   have h1 := h1.ext hCw16
   have hC := hC.ext hCw16
   have hO := hO.ext hCw16
   have hS := Chg.refl [] w16
   refine x_p 0 (.slice pa0 pn0 pc0) rfl (by kernel_rfl)  (fun _ => y_move rfl) (fun _ => hS) ?_
   refine x_p 1 (.int .i64 k12) rfl (by kernel_rfl)  (fun _ => y_move rfl) (fun _ => hS) ?_
   obtain ⟨x17, hx17, hs⟩ := bind_some hs
   obtain ⟨b18, o18, hp18, ha18⟩ := rs_idx Sl47 Sz3 h0 hx17
   refine x_p 2 (.pointer (some ⟨b18, o18, none⟩)) rfl (by kernel_rfl)  (fun _ => hp18 _ _ _ _ _ _ _ _ _ rfl rfl) (fun _ => hS) ?_
   refine x_l 3 (.int .i64 x17) rfl (by kernel_rfl)  (fun w' hw' => y_load rfl ((at_load_int Ag3 Sz3 ha18) w' hw')) hS ?_
   refine x_p 4 (.slice pa1 pn1 pc1) rfl (by kernel_rfl)  (fun _ => y_move rfl) (fun _ => hS) ?_
   refine x_p 5 (.int .i64 k12) rfl (by kernel_rfl)  (fun _ => y_move rfl) (fun _ => hS) ?_
   obtain ⟨x19, hx19, hs⟩ := bind_some hs
   obtain ⟨b20, o20, hp20, ha20⟩ := rs_idx Sl47 Sz3 h1 hx19
   refine x_p 6 (.pointer (some ⟨b20, o20, none⟩)) rfl (by kernel_rfl)  (fun _ => hp20 _ _ _ _ _ _ _ _ _ rfl rfl) (fun _ => hS) ?_
   refine x_l 7 (.int .i64 x19) rfl (by kernel_rfl)  (fun w' hw' => y_load rfl ((at_load_int Ag3 Sz3 ha20) w' hw')) hS ?_
   refine x_p 8 (.bool (x17 != x19)) rfl (by kernel_rfl)  (fun _ => y_neq rfl rfl) (fun _ => hS) ?_
   refine x_end (by kernel_rfl) ?_
   clear hS
   rcases bif_some hs with ⟨hc21, hs⟩ | ⟨hc21, hs⟩
   ·skip
    refine c_condT (congrArg Value.bool hc21) ?_
    refine c_seq (c_region ?_)
    refine pl_val (.bool false) (y_assign rfl) ?_
    refine c_nil ?_
    refine wp_ret ?_
    cases hs
    exact ⟨_, fr_ovl 26 ⟨rfl, trivial⟩, hC⟩
   ·skip
    refine c_condF (congrArg Value.bool hc21) ?_
    refine wp_skip ?_
    refine c_region ?_
    refine pl_val (.int .i64 k12) (y_move rfl) ?_
    refine pl_val (.int .i64 (w64 (k12 + 1))) (y_add rfl rfl) ?_
    refine pl_val (.int .i64 (w64 (k12 + 1))) (y_assign rfl) ?_
    refine c_nil ?_
    cases hs
    exact ⟨_, fr_ovl 26 ⟨rfl, rfl, congrArg (Value.int .i64) hw, trivial⟩, hC, hO, h0, h1⟩
  ·skip
   exact ⟨_, fr_ovl 26 ⟨rfl, rfl, rfl, trivial⟩, hC, hO, h0, h1⟩
  ·cases o14 with
   | nx _ => exact True.intro
   | rt r_ =>
    have hs := after_rt hs
    intro a1 w1 hK
    cases hs
    exact hK
   | br s10 =>
    have hs := after_br hs
    rintro a1 w11 ⟨σ, rfl, hC, hO, h0, h1⟩
    refine c_seq (c_region ?_)
    refine pl_val (.bool true) (y_assign rfl) ?_
    refine c_nil ?_
    refine wp_ret ?_
    cases hs
    exact ⟨_, fr_ovl 26 ⟨rfl, trivial⟩, hC⟩

theorem Bd58 : Bodied Tryz.prog 58 := bodied Tryz.func58 (by kernel_rfl) rfl

def k_laws_eqIntSS (M : Nat → Prop) (w0 : World) (r : Bool) (a : Act) (w : World) : Prop :=
  ∃ (σ : Nat → Value) , a = fr 27 (ovl σ [(4, (.bool r))]) ∧ Chg [] w0 w
def s_laws_eqIntSS (a_ : List (List Int)) (b : List (List Int)) : Option (Bool) :=
  (bif ((a_.length : Int) != (b.length : Int)) then some false else (forC (S := Unit) (R := Bool) (fun k18 s16 =>
  (idx a_ k18).bind fun x23 =>
  (idx b k18).bind fun x27 =>
  (s_laws_eqIntS x23 x27).bind fun r32 =>
  (bif (!r32) then some (.rt false) else some (.nx ()))) 0 (a_.length : Int) ()).bind fun o20 => after o20 (fun r_ => some r_) (fun s16 =>
  some true))
set_option maxHeartbeats 4000000 in
theorem c_laws_eqIntSS {M : Nat → Prop} {w : World} {pa0 : Option Addr} {pn0 pc0 : Nat} {pa1 : Option Addr} {pn1 pc1 : Nat} (a_ : List (List Int)) (b : List (List Int)) (h0 : (RT.rs (RT.rs (RT.int .i64))).val M w (.slice pa0 pn0 pc0) a_ ([])) (h1 : (RT.rs (RT.rs (RT.int .i64))).val M w (.slice pa1 pn1 pc1) b ([])) (hM : ∀ g, w.heap.size ≤ g → M g) {r : Bool} (hs : s_laws_eqIntSS a_ b = some r) :
    Gives Tryz.prog 31 [(.slice pa0 pn0 pc0), (.slice pa1 pn1 pc1)] w (fun v w' => v = (.bool r) ∧ Chg [] w w') := by
 refine calls_fr Tryz.func31 rfl Tryz.ntmps31 (Nat.le_of_ble_eq_true rfl) ?_
 have hO := Own.start (N := Nw w []) hM Nw.fut
 have hC := Chg.refl [] w
 unfold s_laws_eqIntSS at hs
 refine wp_mono (Q := KPost (k_laws_eqIntSS M w r)) ?_ (fun e a w1 h => ?_)
 rotate_left
 ·cases e
  case ret =>
   obtain ⟨σ, rfl, hrest⟩ := h
   exact ret1x Tryz.results31 (res_tmp rfl) ⟨rfl, hrest⟩
  all_goals exact (h : False).elim
 refine c_seq (c_region ?_)
 refine pl_val (.bool false) (y_assign rfl) ?_
 refine c_nil ?_
 refine c_seq ?_
 refine c_seq (c_region ?_)
 refine pl_val (.slice pa0 pn0 pc0) (y_move rfl) ?_
 refine pl_val (.int .i64 (a_.length : Int)) (y_len' Sl43 (rs_len h0) rfl) ?_
 refine pl_val (.slice pa1 pn1 pc1) (y_move rfl) ?_
 refine pl_val (.int .i64 (b.length : Int)) (y_len' Sl43 (rs_len h1) rfl) ?_
 refine pl_val (.bool ((a_.length : Int) != (b.length : Int))) (y_neq rfl rfl) ?_
 refine c_nil ?_
 rcases bif_some hs with ⟨hc3, hs⟩ | ⟨hc3, hs⟩
 ·skip
  refine c_condT (congrArg Value.bool hc3) ?_
  refine c_seq (c_region ?_)
  refine pl_val (.bool false) (y_assign rfl) ?_
  refine c_nil ?_
  refine wp_ret ?_
  cases hs
  exact ⟨_, fr_ovl 27 ⟨rfl, trivial⟩, hC⟩
 ·skip
  refine c_condF (congrArg Value.bool hc3) ?_
  refine wp_skip ?_
  refine c_seq ?_
  refine c_seq (c_region ?_)
  refine pl_val (.int .i64 0) (y_assign rfl) ?_
  refine c_nil ?_
  obtain ⟨o20, hl21, hs⟩ := bind_some hs
  refine wp_block ?_
  refine wp_forC (id := 0) (a_.length : Int) (I := fun k18 s16 a w17 => ∃ (σ : Nat → Value), a = fr 27 (ovl σ [(0, (.slice pa0 pn0 pc0)), (1, (.slice pa1 pn1 pc1)), (5, (.int .i64 k18))]) ∧ Chg [] w w17 ∧ Own (Nw w []) M w17 ([]) ∧ (RT.rs (RT.rs (RT.int .i64))).val M w17 (.slice pa0 pn0 pc0) a_ ([]) ∧ (RT.rs (RT.rs (RT.int .i64))).val M w17 (.slice pa1 pn1 pc1) b ([])) (J := fun s16 a w17 => ∃ (σ : Nat → Value), a = fr 27 (ovl σ []) ∧ Chg [] w w17 ∧ Own (Nw w []) M w17 ([]) ∧ (RT.rs (RT.rs (RT.int .i64))).val M w17 (.slice pa0 pn0 pc0) a_ ([]) ∧ (RT.rs (RT.rs (RT.int .i64))).val M w17 (.slice pa1 pn1 pc1) b ([])) (K := (k_laws_eqIntSS M w)) ?_ ?_ 0 () o20 _ _ ?_ hl21 ?_
  ·rintro k18 s16 a w17 ⟨σ, rfl, hC, hO, h0, h1⟩ hlt
   refine c_seq ?_
   refine c_seq (c_region ?_)
   refine pl_val (.int .i64 k18) (y_move rfl) ?_
   refine pl_val (.slice pa0 pn0 pc0) (y_move rfl) ?_
   refine pl_val (.int .i64 (a_.length : Int)) (y_len' Sl43 (rs_len h0) rfl) ?_
   refine pl_val (.bool (decide (k18 < (a_.length : Int)))) (y_lss rfl rfl) ?_
   refine c_nil ?_
   refine c_condF (congrArg Value.bool (decide_eq_false hlt)) ?_
   refine wp_exit ?_
   exact ⟨rfl, _, fr_ovl 27 trivial, hC, hO, h0, h1⟩
  ·rintro k18 s16 o20 a w17 ⟨σ, rfl, hC, hO, h0, h1⟩ hlt hw hs
   refine c_seq ?_
   refine c_seq (c_region ?_)
   refine pl_val (.int .i64 k18) (y_move rfl) ?_
   refine pl_val (.slice pa0 pn0 pc0) (y_move rfl) ?_
   refine pl_val (.int .i64 (a_.length : Int)) (y_len' Sl43 (rs_len h0) rfl) ?_
   refine pl_val (.bool (decide (k18 < (a_.length : Int)))) (y_lss rfl rfl) ?_
   refine c_nil ?_
   refine c_condT (congrArg Value.bool (decide_eq_true hlt)) ?_
   refine wp_skip ?_
   refine c_seq ?_
   refine wp_block ?_
   refine c_seq ?_
   refine x_start [] Mx rfl ?_
   have hCw22 := Chg.drew w17
   generalize World.drew w17 = w22 at hCw22 ⊢
   have h0 := h0.ext hCw22
   have h1 := h1.ext hCw22
   have hC := hC.ext hCw22
   have hO := hO.ext hCw22
   have hS := Chg.refl [] w22
   refine x_p 0 (.slice pa0 pn0 pc0) rfl (by kernel_rfl)  (fun _ => y_move rfl) (fun _ => hS) ?_
   refine x_p 1 (.int .i64 k18) rfl (by kernel_rfl)  (fun _ => y_move rfl) (fun _ => hS) ?_
   obtain ⟨x23, hx23, hs⟩ := bind_some hs
   obtain ⟨b24, o24, hp24, ha24⟩ := rs_idx Sl43 Sz47 h0 hx23
   refine x_p 2 (.pointer (some ⟨b24, o24, none⟩)) rfl (by kernel_rfl)  (fun _ => hp24 _ _ _ _ _ _ _ _ _ rfl rfl) (fun _ => hS) ?_
   obtain ⟨v25, hl25, hv25⟩ := at_load Ag47 Sz47 (fun _ => rfl) ha24
   obtain ⟨a25, n25, c25, rfl⟩ := rs_sl hv25
   refine x_l 3 (.slice a25 n25 c25) rfl (by kernel_rfl)  (fun w' hw' => y_load rfl (hl25 w' hw')) hS ?_
   refine x_p 4 (.slice pa1 pn1 pc1) rfl (by kernel_rfl)  (fun _ => y_move rfl) (fun _ => hS) ?_
   refine x_p 5 (.int .i64 k18) rfl (by kernel_rfl)  (fun _ => y_move rfl) (fun _ => hS) ?_
   obtain ⟨x27, hx27, hs⟩ := bind_some hs
   obtain ⟨b28, o28, hp28, ha28⟩ := rs_idx Sl43 Sz47 h1 hx27
   refine x_p 6 (.pointer (some ⟨b28, o28, none⟩)) rfl (by kernel_rfl)  (fun _ => hp28 _ _ _ _ _ _ _ _ _ rfl rfl) (fun _ => hS) ?_
   obtain ⟨v29, hl29, hv29⟩ := at_load Ag47 Sz47 (fun _ => rfl) ha28
   obtain ⟨a29, n29, c29, rfl⟩ := rs_sl hv29
   refine x_l 7 (.slice a29 n29 c29) rfl (by kernel_rfl)  (fun w' hw' => y_load rfl (hl29 w' hw')) hS ?_
   refine x_one (i := 8) (by kernel_rfl) ?_
   obtain ⟨r32, hr32, hs⟩ := bind_some hs
   refine xk_call (b := false) rfl  Bd58 rfl (c_laws_eqIntS (M := M) x23 x27 hv25 hv29 hO.fut hr32) rfl (by rintro _ _ _ ⟨rfl, hC31⟩; exact hS.ext hC31) ?_
   rintro _ w31 ⟨rfl, hC31⟩
   have h0 := h0.ext hC31
   have h1 := h1.ext hC31
   have hv25 := hv25.ext hC31
   have hv29 := hv29.ext hC31
   have hC := hC.ext hC31
   have hO := hO.ext hC31
   have hS := hS.ext hC31
   refine x_p 9 (.bool (!r32)) rfl (by kernel_rfl)  (fun _ => y_not rfl) (fun _ => hS) ?_
   refine x_end (by kernel_rfl) ?_
   clear hS
   rcases bif_some hs with ⟨hc33, hs⟩ | ⟨hc33, hs⟩
   ·skip
    refine c_condT (congrArg Value.bool hc33) ?_
    refine c_seq (c_region ?_)
    refine pl_val (.bool false) (y_assign rfl) ?_
    refine c_nil ?_
    refine wp_ret ?_
    cases hs
    exact ⟨_, fr_ovl 27 ⟨rfl, trivial⟩, hC⟩
   ·skip
    refine c_condF (congrArg Value.bool hc33) ?_
    refine wp_skip ?_
    refine c_region ?_
    refine pl_val (.int .i64 k18) (y_move rfl) ?_
    refine pl_val (.int .i64 (w64 (k18 + 1))) (y_add rfl rfl) ?_
    refine pl_val (.int .i64 (w64 (k18 + 1))) (y_assign rfl) ?_
    refine c_nil ?_
    cases hs
    exact ⟨_, fr_ovl 27 ⟨rfl, rfl, congrArg (Value.int .i64) hw, trivial⟩, hC, hO, h0, h1⟩
  ·skip
   exact ⟨_, fr_ovl 27 ⟨rfl, rfl, rfl, trivial⟩, hC, hO, h0, h1⟩
  ·cases o20 with
   | nx _ => exact True.intro
   | rt r_ =>
    have hs := after_rt hs
    intro a1 w1 hK
    cases hs
    exact hK
   | br s16 =>
    have hs := after_br hs
    rintro a1 w17 ⟨σ, rfl, hC, hO, h0, h1⟩
    refine c_seq (c_region ?_)
    refine pl_val (.bool true) (y_assign rfl) ?_
    refine c_nil ?_
    refine wp_ret ?_
    cases hs
    exact ⟨_, fr_ovl 27 ⟨rfl, trivial⟩, hC⟩

theorem Sl34 : SlT Tryz.prog 34 43 := Tryz.underlying34

theorem Bd31 : Bodied Tryz.prog 31 := bodied Tryz.func31 (by kernel_rfl) rfl

def k_laws_eqIntSSS (M : Nat → Prop) (w0 : World) (r : Bool) (a : Act) (w : World) : Prop :=
  ∃ (σ : Nat → Value) , a = fr 27 (ovl σ [(4, (.bool r))]) ∧ Chg [] w0 w
def s_laws_eqIntSSS (a_ : List (List (List Int))) (b : List (List (List Int))) : Option (Bool) :=
  (bif ((a_.length : Int) != (b.length : Int)) then some false else (forC (S := Unit) (R := Bool) (fun k18 s16 =>
  (idx a_ k18).bind fun x23 =>
  (idx b k18).bind fun x27 =>
  (s_laws_eqIntSS x23 x27).bind fun r32 =>
  (bif (!r32) then some (.rt false) else some (.nx ()))) 0 (a_.length : Int) ()).bind fun o20 => after o20 (fun r_ => some r_) (fun s16 =>
  some true))
set_option maxHeartbeats 4000000 in
theorem c_laws_eqIntSSS {M : Nat → Prop} {w : World} {pa0 : Option Addr} {pn0 pc0 : Nat} {pa1 : Option Addr} {pn1 pc1 : Nat} (a_ : List (List (List Int))) (b : List (List (List Int))) (h0 : (RT.rs (RT.rs (RT.rs (RT.int .i64)))).val M w (.slice pa0 pn0 pc0) a_ ([])) (h1 : (RT.rs (RT.rs (RT.rs (RT.int .i64)))).val M w (.slice pa1 pn1 pc1) b ([])) (hM : ∀ g, w.heap.size ≤ g → M g) {r : Bool} (hs : s_laws_eqIntSSS a_ b = some r) :
    Gives Tryz.prog 12 [(.slice pa0 pn0 pc0), (.slice pa1 pn1 pc1)] w (fun v w' => v = (.bool r) ∧ Chg [] w w') := by
 refine calls_fr Tryz.func12 rfl Tryz.ntmps12 (Nat.le_of_ble_eq_true rfl) ?_
 have hO := Own.start (N := Nw w []) hM Nw.fut
 have hC := Chg.refl [] w
 unfold s_laws_eqIntSSS at hs
 refine wp_mono (Q := KPost (k_laws_eqIntSSS M w r)) ?_ (fun e a w1 h => ?_)
 rotate_left
 ·cases e
  case ret =>
   obtain ⟨σ, rfl, hrest⟩ := h
   exact ret1x Tryz.results12 (res_tmp rfl) ⟨rfl, hrest⟩
  all_goals exact (h : False).elim
 refine c_seq (c_region ?_)
 refine pl_val (.bool false) (y_assign rfl) ?_
 refine c_nil ?_
 refine c_seq ?_
 refine c_seq (c_region ?_)
 refine pl_val (.slice pa0 pn0 pc0) (y_move rfl) ?_
 refine pl_val (.int .i64 (a_.length : Int)) (y_len' Sl34 (rs_len h0) rfl) ?_
 refine pl_val (.slice pa1 pn1 pc1) (y_move rfl) ?_
 refine pl_val (.int .i64 (b.length : Int)) (y_len' Sl34 (rs_len h1) rfl) ?_
 refine pl_val (.bool ((a_.length : Int) != (b.length : Int))) (y_neq rfl rfl) ?_
 refine c_nil ?_
 rcases bif_some hs with ⟨hc3, hs⟩ | ⟨hc3, hs⟩
 ·skip
  refine c_condT (congrArg Value.bool hc3) ?_
  refine c_seq (c_region ?_)
  refine pl_val (.bool false) (y_assign rfl) ?_
  refine c_nil ?_
  refine wp_ret ?_
  cases hs
  exact ⟨_, fr_ovl 27 ⟨rfl, trivial⟩, hC⟩
 ·skip
  refine c_condF (congrArg Value.bool hc3) ?_
  refine wp_skip ?_
  refine c_seq ?_
  refine c_seq (c_region ?_)
  refine pl_val (.int .i64 0) (y_assign rfl) ?_
  refine c_nil ?_
  obtain ⟨o20, hl21, hs⟩ := bind_some hs
  refine wp_block ?_
  refine wp_forC (id := 0) (a_.length : Int) (I := fun k18 s16 a w17 => ∃ (σ : Nat → Value), a = fr 27 (ovl σ [(0, (.slice pa0 pn0 pc0)), (1, (.slice pa1 pn1 pc1)), (5, (.int .i64 k18))]) ∧ Chg [] w w17 ∧ Own (Nw w []) M w17 ([]) ∧ (RT.rs (RT.rs (RT.rs (RT.int .i64)))).val M w17 (.slice pa0 pn0 pc0) a_ ([]) ∧ (RT.rs (RT.rs (RT.rs (RT.int .i64)))).val M w17 (.slice pa1 pn1 pc1) b ([])) (J := fun s16 a w17 => ∃ (σ : Nat → Value), a = fr 27 (ovl σ []) ∧ Chg [] w w17 ∧ Own (Nw w []) M w17 ([]) ∧ (RT.rs (RT.rs (RT.rs (RT.int .i64)))).val M w17 (.slice pa0 pn0 pc0) a_ ([]) ∧ (RT.rs (RT.rs (RT.rs (RT.int .i64)))).val M w17 (.slice pa1 pn1 pc1) b ([])) (K := (k_laws_eqIntSSS M w)) ?_ ?_ 0 () o20 _ _ ?_ hl21 ?_
  ·rintro k18 s16 a w17 ⟨σ, rfl, hC, hO, h0, h1⟩ hlt
   refine c_seq ?_
   refine c_seq (c_region ?_)
   refine pl_val (.int .i64 k18) (y_move rfl) ?_
   refine pl_val (.slice pa0 pn0 pc0) (y_move rfl) ?_
   refine pl_val (.int .i64 (a_.length : Int)) (y_len' Sl34 (rs_len h0) rfl) ?_
   refine pl_val (.bool (decide (k18 < (a_.length : Int)))) (y_lss rfl rfl) ?_
   refine c_nil ?_
   refine c_condF (congrArg Value.bool (decide_eq_false hlt)) ?_
   refine wp_exit ?_
   exact ⟨rfl, _, fr_ovl 27 trivial, hC, hO, h0, h1⟩
  ·rintro k18 s16 o20 a w17 ⟨σ, rfl, hC, hO, h0, h1⟩ hlt hw hs
   refine c_seq ?_
   refine c_seq (c_region ?_)
   refine pl_val (.int .i64 k18) (y_move rfl) ?_
   refine pl_val (.slice pa0 pn0 pc0) (y_move rfl) ?_
   refine pl_val (.int .i64 (a_.length : Int)) (y_len' Sl34 (rs_len h0) rfl) ?_
   refine pl_val (.bool (decide (k18 < (a_.length : Int)))) (y_lss rfl rfl) ?_
   refine c_nil ?_
   refine c_condT (congrArg Value.bool (decide_eq_true hlt)) ?_
   refine wp_skip ?_
   refine c_seq ?_
   refine wp_block ?_
   refine c_seq ?_
   refine x_start [] Mx rfl ?_
   have hCw22 := Chg.drew w17
   generalize World.drew w17 = w22 at hCw22 ⊢
   have h0 := h0.ext hCw22
   have h1 := h1.ext hCw22
   have hC := hC.ext hCw22
   have hO := hO.ext hCw22
   have hS := Chg.refl [] w22
   refine x_p 0 (.slice pa0 pn0 pc0) rfl (by kernel_rfl)  (fun _ => y_move rfl) (fun _ => hS) ?_
   refine x_p 1 (.int .i64 k18) rfl (by kernel_rfl)  (fun _ => y_move rfl) (fun _ => hS) ?_
   obtain ⟨x23, hx23, hs⟩ := bind_some hs
   obtain ⟨b24, o24, hp24, ha24⟩ := rs_idx Sl34 Sz43 h0 hx23
   refine x_p 2 (.pointer (some ⟨b24, o24, none⟩)) rfl (by kernel_rfl)  (fun _ => hp24 _ _ _ _ _ _ _ _ _ rfl rfl) (fun _ => hS) ?_
   obtain ⟨v25, hl25, hv25⟩ := at_load Ag43 Sz43 (fun _ => rfl) ha24
   obtain ⟨a25, n25, c25, rfl⟩ := rs_sl hv25
   refine x_l 3 (.slice a25 n25 c25) rfl (by kernel_rfl)  (fun w' hw' => y_load rfl (hl25 w' hw')) hS ?_
   refine x_p 4 (.slice pa1 pn1 pc1) rfl (by kernel_rfl)  (fun _ => y_move rfl) (fun _ => hS) ?_
   refine x_p 5 (.int .i64 k18) rfl (by kernel_rfl)  (fun _ => y_move rfl) (fun _ => hS) ?_
   obtain ⟨x27, hx27, hs⟩ := bind_some hs
   obtain ⟨b28, o28, hp28, ha28⟩ := rs_idx Sl34 Sz43 h1 hx27
   refine x_p 6 (.pointer (some ⟨b28, o28, none⟩)) rfl (by kernel_rfl)  (fun _ => hp28 _ _ _ _ _ _ _ _ _ rfl rfl) (fun _ => hS) ?_
   obtain ⟨v29, hl29, hv29⟩ := at_load Ag43 Sz43 (fun _ => rfl) ha28
   obtain ⟨a29, n29, c29, rfl⟩ := rs_sl hv29
   refine x_l 7 (.slice a29 n29 c29) rfl (by kernel_rfl)  (fun w' hw' => y_load rfl (hl29 w' hw')) hS ?_
   refine x_one (i := 8) (by kernel_rfl) ?_
   obtain ⟨r32, hr32, hs⟩ := bind_some hs
   refine xk_call (b := false) rfl  Bd31 rfl (c_laws_eqIntSS (M := M) x23 x27 hv25 hv29 hO.fut hr32) rfl (by rintro _ _ _ ⟨rfl, hC31⟩; exact hS.ext hC31) ?_
   rintro _ w31 ⟨rfl, hC31⟩
   have h0 := h0.ext hC31
   have h1 := h1.ext hC31
   have hv25 := hv25.ext hC31
   have hv29 := hv29.ext hC31
   have hC := hC.ext hC31
   have hO := hO.ext hC31
   have hS := hS.ext hC31
   refine x_p 9 (.bool (!r32)) rfl (by kernel_rfl)  (fun _ => y_not rfl) (fun _ => hS) ?_
   refine x_end (by kernel_rfl) ?_
   clear hS
   rcases bif_some hs with ⟨hc33, hs⟩ | ⟨hc33, hs⟩
   ·skip
    refine c_condT (congrArg Value.bool hc33) ?_
    refine c_seq (c_region ?_)
    refine pl_val (.bool false) (y_assign rfl) ?_
    refine c_nil ?_
    refine wp_ret ?_
    cases hs
    exact ⟨_, fr_ovl 27 ⟨rfl, trivial⟩, hC⟩
   ·skip
    refine c_condF (congrArg Value.bool hc33) ?_
    refine wp_skip ?_
    refine c_region ?_
    refine pl_val (.int .i64 k18) (y_move rfl) ?_
    refine pl_val (.int .i64 (w64 (k18 + 1))) (y_add rfl rfl) ?_
    refine pl_val (.int .i64 (w64 (k18 + 1))) (y_assign rfl) ?_
    refine c_nil ?_
    cases hs
    exact ⟨_, fr_ovl 27 ⟨rfl, rfl, congrArg (Value.int .i64) hw, trivial⟩, hC, hO, h0, h1⟩
  ·skip
   exact ⟨_, fr_ovl 27 ⟨rfl, rfl, rfl, trivial⟩, hC, hO, h0, h1⟩
  ·cases o20 with
   | nx _ => exact True.intro
   | rt r_ =>
    have hs := after_rt hs
    intro a1 w1 hK
    cases hs
    exact hK
   | br s16 =>
    have hs := after_br hs
    rintro a1 w17 ⟨σ, rfl, hC, hO, h0, h1⟩
    refine c_seq (c_region ?_)
    refine pl_val (.bool true) (y_assign rfl) ?_
    refine c_nil ?_
    refine wp_ret ?_
    cases hs
    exact ⟨_, fr_ovl 27 ⟨rfl, trivial⟩, hC⟩

def k_laws_eqOp (M : Nat → Prop) (w0 : World) (r : Bool) (a : Act) (w : World) : Prop :=
  ∃ (σ : Nat → Value) , a = fr 16 (ovl σ [(4, (.bool r))]) ∧ Chg [] w0 w
def s_laws_eqOp (a_ : Int × (List Int)) (b : Int × (List Int)) : Option (Bool) :=
  (bif (a_.1 != b.1) then some false else (s_laws_eqIntS a_.2 b.2).bind fun r7 =>
  (bif (!r7) then some false else some true))
set_option maxHeartbeats 4000000 in
theorem c_laws_eqOp {M : Nat → Prop} {w : World} {pa0 : Option Addr} {pn0 pc0 : Nat} {pa1 : Option Addr} {pn1 pc1 : Nat} (a_ : Int × (List Int)) (b : Int × (List Int)) (h0 : (RT.rs (RT.int .i64)).val M w (.slice pa0 pn0 pc0) a_.2 ([])) (h1 : (RT.rs (RT.int .i64)).val M w (.slice pa1 pn1 pc1) b.2 ([])) (hM : ∀ g, w.heap.size ≤ g → M g) {r : Bool} (hs : s_laws_eqOp a_ b = some r) :
    Gives Tryz.prog 42 [(.agg #[(.int .i64 a_.1), (.slice pa0 pn0 pc0)]), (.agg #[(.int .i64 b.1), (.slice pa1 pn1 pc1)])] w (fun v w' => v = (.bool r) ∧ Chg [] w w') := by
 refine calls_fr Tryz.func42 rfl Tryz.ntmps42 (Nat.le_of_ble_eq_true rfl) ?_
 have hO := Own.start (N := Nw w []) hM Nw.fut
 have hC := Chg.refl [] w
 unfold s_laws_eqOp at hs
 refine wp_mono (Q := KPost (k_laws_eqOp M w r)) ?_ (fun e a w1 h => ?_)
 rotate_left
 ·cases e
  case ret =>
   obtain ⟨σ, rfl, hrest⟩ := h
   exact ret1x Tryz.results42 (res_tmp rfl) ⟨rfl, hrest⟩
  all_goals exact (h : False).elim
 refine c_seq (c_region ?_)
 obtain ⟨w3, g3, ew3, eg3, hC3, hb3⟩ := new_block w [(.int .i64 a_.1), (.slice pa0 pn0 pc0)] 60
 refine pl_val (w' := w3) (.pointer (some ⟨g3, 0, none⟩)) (y_box rfl (by rw [ew3, eg3]; kernel_rfl)) ?_
 have h0 := h0.ext hC3
 have h1 := h1.ext hC3
 have hC := hC.ext hC3
 have hO := hO.new1 hC3 eg3 hb3.lt
 obtain ⟨w4, g4, ew4, eg4, hC4, hb4⟩ := new_block w3 [(.int .i64 b.1), (.slice pa1 pn1 pc1)] 60
 refine pl_val (w' := w4) (.pointer (some ⟨g4, 0, none⟩)) (y_box rfl (by rw [ew4, eg4]; kernel_rfl)) ?_
 have h0 := h0.ext hC4
 have h1 := h1.ext hC4
 have hb3 := hb3.chg hC4 (fun h => nomatch h)
 have hC := hC.ext hC4
 have hO := hO.new1 hC4 eg4 hb4.lt
 refine pl_val (.bool false) (y_assign rfl) ?_
 refine c_nil ?_
 refine c_seq ?_
 refine c_seq (c_region ?_)
 refine pl_val (.pointer (some ⟨g3, 0, none⟩)) (y_faddr rfl Fa60x0) ?_
 refine pl_val (.int .i64 a_.1) (y_load rfl ((box_load Ag3 Sz3 hb3 [] [(.int .i64 a_.1)] [(.slice pa0 pn0 pc0)] rfl rfl (fun _ => rfl)) _ (Chg.refl _ _))) ?_
 refine pl_val (.pointer (some ⟨g4, 0, none⟩)) (y_faddr rfl Fa60x0) ?_
 refine pl_val (.int .i64 b.1) (y_load rfl ((box_load Ag3 Sz3 hb4 [] [(.int .i64 b.1)] [(.slice pa1 pn1 pc1)] rfl rfl (fun _ => rfl)) _ (Chg.refl _ _))) ?_
 refine pl_val (.bool (a_.1 != b.1)) (y_neq rfl rfl) ?_
 refine c_nil ?_
 rcases bif_some hs with ⟨hc5, hs⟩ | ⟨hc5, hs⟩
 ·skip
  refine c_condT (congrArg Value.bool hc5) ?_
  refine c_seq (c_region ?_)
  refine pl_val (.bool false) (y_assign rfl) ?_
  refine c_nil ?_
  refine wp_ret ?_
  cases hs
  exact ⟨_, fr_ovl 16 ⟨rfl, trivial⟩, hC⟩
 ·skip
  refine c_condF (congrArg Value.bool hc5) ?_
  refine wp_skip ?_
  refine c_seq ?_
  refine c_seq (c_region ?_)
  refine pl_val (.pointer (some ⟨g3, 1, none⟩)) (y_faddr rfl Fa60x1) ?_
  refine pl_val (.slice pa0 pn0 pc0) (y_load rfl ((box_load Ag47 Sz47 hb3 [(.int .i64 a_.1)] [(.slice pa0 pn0 pc0)] [] rfl rfl (fun _ => rfl)) _ (Chg.refl _ _))) ?_
  refine pl_val (.pointer (some ⟨g4, 1, none⟩)) (y_faddr rfl Fa60x1) ?_
  refine pl_val (.slice pa1 pn1 pc1) (y_load rfl ((box_load Ag47 Sz47 hb4 [(.int .i64 b.1)] [(.slice pa1 pn1 pc1)] [] rfl rfl (fun _ => rfl)) _ (Chg.refl _ _))) ?_
  obtain ⟨r7, hr7, hs⟩ := bind_some hs
  refine pl_call Bd58 rfl (c_laws_eqIntS (M := M) a_.2 b.2 h0 h1 hO.fut hr7) ?_
  rintro _ w6 ⟨rfl, hC6⟩
  have h0 := h0.ext hC6
  have h1 := h1.ext hC6
  have hb3 := hb3.chg hC6 (fun h => nomatch h)
  have hb4 := hb4.chg hC6 (fun h => nomatch h)
  have hC := hC.ext hC6
  have hO := hO.ext hC6
  refine pl_val (.bool (!r7)) (y_not rfl) ?_
  refine c_nil ?_
  rcases bif_some hs with ⟨hc8, hs⟩ | ⟨hc8, hs⟩
  ·skip
   refine c_condT (congrArg Value.bool hc8) ?_
   refine c_seq (c_region ?_)
   refine pl_val (.bool false) (y_assign rfl) ?_
   refine c_nil ?_
   refine wp_ret ?_
   cases hs
   exact ⟨_, fr_ovl 16 ⟨rfl, trivial⟩, hC⟩
  ·skip
   refine c_condF (congrArg Value.bool hc8) ?_
   refine wp_skip ?_
   refine c_seq (c_region ?_)
   refine pl_val (.bool true) (y_assign rfl) ?_
   refine c_nil ?_
   refine wp_ret ?_
   cases hs
   exact ⟨_, fr_ovl 16 ⟨rfl, trivial⟩, hC⟩

theorem Bd42 : Bodied Tryz.prog 42 := bodied Tryz.func42 (by kernel_rfl) rfl

def k_laws_eqOpS (M : Nat → Prop) (w0 : World) (r : Bool) (a : Act) (w : World) : Prop :=
  ∃ (σ : Nat → Value) , a = fr 27 (ovl σ [(4, (.bool r))]) ∧ Chg [] w0 w
def s_laws_eqOpS (a_ : List (Int × (List Int))) (b : List (Int × (List Int))) : Option (Bool) :=
  (bif ((a_.length : Int) != (b.length : Int)) then some false else (forC (S := Unit) (R := Bool) (fun k18 s16 =>
  (idx a_ k18).bind fun x23 =>
  (idx b k18).bind fun x27 =>
  (s_laws_eqOp (x23.1, x23.2) (x27.1, x27.2)).bind fun r32 =>
  (bif (!r32) then some (.rt false) else some (.nx ()))) 0 (a_.length : Int) ()).bind fun o20 => after o20 (fun r_ => some r_) (fun s16 =>
  some true))
set_option maxHeartbeats 4000000 in
theorem c_laws_eqOpS {M : Nat → Prop} {w : World} {pa0 : Option Addr} {pn0 pc0 : Nat} {pa1 : Option Addr} {pn1 pc1 : Nat} (a_ : List (Int × (List Int))) (b : List (Int × (List Int))) (h0 : (RT.rs (RT.pr (RT.int .i64) (RT.rs (RT.int .i64)))).val M w (.slice pa0 pn0 pc0) a_ ([])) (h1 : (RT.rs (RT.pr (RT.int .i64) (RT.rs (RT.int .i64)))).val M w (.slice pa1 pn1 pc1) b ([])) (hM : ∀ g, w.heap.size ≤ g → M g) {r : Bool} (hs : s_laws_eqOpS a_ b = some r) :
    Gives Tryz.prog 22 [(.slice pa0 pn0 pc0), (.slice pa1 pn1 pc1)] w (fun v w' => v = (.bool r) ∧ Chg [] w w') := by
 refine calls_fr Tryz.func22 rfl Tryz.ntmps22 (Nat.le_of_ble_eq_true rfl) ?_
 have hO := Own.start (N := Nw w []) hM Nw.fut
 have hC := Chg.refl [] w
 unfold s_laws_eqOpS at hs
 refine wp_mono (Q := KPost (k_laws_eqOpS M w r)) ?_ (fun e a w1 h => ?_)
 rotate_left
 ·cases e
  case ret =>
   obtain ⟨σ, rfl, hrest⟩ := h
   exact ret1x Tryz.results22 (res_tmp rfl) ⟨rfl, hrest⟩
  all_goals exact (h : False).elim
 refine c_seq (c_region ?_)
 refine pl_val (.bool false) (y_assign rfl) ?_
 refine c_nil ?_
 refine c_seq ?_
 refine c_seq (c_region ?_)
 refine pl_val (.slice pa0 pn0 pc0) (y_move rfl) ?_
 refine pl_val (.int .i64 (a_.length : Int)) (y_len' Sl28 (rs_len h0) rfl) ?_
 refine pl_val (.slice pa1 pn1 pc1) (y_move rfl) ?_
 refine pl_val (.int .i64 (b.length : Int)) (y_len' Sl28 (rs_len h1) rfl) ?_
 refine pl_val (.bool ((a_.length : Int) != (b.length : Int))) (y_neq rfl rfl) ?_
 refine c_nil ?_
 rcases bif_some hs with ⟨hc3, hs⟩ | ⟨hc3, hs⟩
 ·skip
  refine c_condT (congrArg Value.bool hc3) ?_
  refine c_seq (c_region ?_)
  refine pl_val (.bool false) (y_assign rfl) ?_
  refine c_nil ?_
  refine wp_ret ?_
  cases hs
  exact ⟨_, fr_ovl 27 ⟨rfl, trivial⟩, hC⟩
 ·skip
  refine c_condF (congrArg Value.bool hc3) ?_
  refine wp_skip ?_
  refine c_seq ?_
  refine c_seq (c_region ?_)
  refine pl_val (.int .i64 0) (y_assign rfl) ?_
  refine c_nil ?_
  obtain ⟨o20, hl21, hs⟩ := bind_some hs
  refine wp_block ?_
  refine wp_forC (id := 0) (a_.length : Int) (I := fun k18 s16 a w17 => ∃ (σ : Nat → Value), a = fr 27 (ovl σ [(0, (.slice pa0 pn0 pc0)), (1, (.slice pa1 pn1 pc1)), (5, (.int .i64 k18))]) ∧ Chg [] w w17 ∧ Own (Nw w []) M w17 ([]) ∧ (RT.rs (RT.pr (RT.int .i64) (RT.rs (RT.int .i64)))).val M w17 (.slice pa0 pn0 pc0) a_ ([]) ∧ (RT.rs (RT.pr (RT.int .i64) (RT.rs (RT.int .i64)))).val M w17 (.slice pa1 pn1 pc1) b ([])) (J := fun s16 a w17 => ∃ (σ : Nat → Value), a = fr 27 (ovl σ []) ∧ Chg [] w w17 ∧ Own (Nw w []) M w17 ([]) ∧ (RT.rs (RT.pr (RT.int .i64) (RT.rs (RT.int .i64)))).val M w17 (.slice pa0 pn0 pc0) a_ ([]) ∧ (RT.rs (RT.pr (RT.int .i64) (RT.rs (RT.int .i64)))).val M w17 (.slice pa1 pn1 pc1) b ([])) (K := (k_laws_eqOpS M w)) ?_ ?_ 0 () o20 _ _ ?_ hl21 ?_
  ·rintro k18 s16 a w17 ⟨σ, rfl, hC, hO, h0, h1⟩ hlt
   refine c_seq ?_
   refine c_seq (c_region ?_)
   refine pl_val (.int .i64 k18) (y_move rfl) ?_
   refine pl_val (.slice pa0 pn0 pc0) (y_move rfl) ?_
   refine pl_val (.int .i64 (a_.length : Int)) (y_len' Sl28 (rs_len h0) rfl) ?_
   refine pl_val (.bool (decide (k18 < (a_.length : Int)))) (y_lss rfl rfl) ?_
   refine c_nil ?_
   refine c_condF (congrArg Value.bool (decide_eq_false hlt)) ?_
   refine wp_exit ?_
   exact ⟨rfl, _, fr_ovl 27 trivial, hC, hO, h0, h1⟩
  ·rintro k18 s16 o20 a w17 ⟨σ, rfl, hC, hO, h0, h1⟩ hlt hw hs
   refine c_seq ?_
   refine c_seq (c_region ?_)
   refine pl_val (.int .i64 k18) (y_move rfl) ?_
   refine pl_val (.slice pa0 pn0 pc0) (y_move rfl) ?_
   refine pl_val (.int .i64 (a_.length : Int)) (y_len' Sl28 (rs_len h0) rfl) ?_
   refine pl_val (.bool (decide (k18 < (a_.length : Int)))) (y_lss rfl rfl) ?_
   refine c_nil ?_
   refine c_condT (congrArg Value.bool (decide_eq_true hlt)) ?_
   refine wp_skip ?_
   refine c_seq ?_
   refine wp_block ?_
   refine c_seq ?_
   refine x_start [] Mx rfl ?_
   have hCw22 := Chg.drew w17
   generalize World.drew w17 = w22 at hCw22 ⊢
   have h0 := h0.ext hCw22
   have h1 := h1.ext hCw22
   have hC := hC.ext hCw22
   have hO := hO.ext hCw22
   have hS := Chg.refl [] w22
   refine x_p 0 (.slice pa0 pn0 pc0) rfl (by kernel_rfl)  (fun _ => y_move rfl) (fun _ => hS) ?_
   refine x_p 1 (.int .i64 k18) rfl (by kernel_rfl)  (fun _ => y_move rfl) (fun _ => hS) ?_
   obtain ⟨x23, hx23, hs⟩ := bind_some hs
   obtain ⟨b24, o24, hp24, ha24⟩ := rs_idx Sl28 Sz60 h0 hx23
   refine x_p 2 (.pointer (some ⟨b24, o24, none⟩)) rfl (by kernel_rfl)  (fun _ => hp24 _ _ _ _ _ _ _ _ _ rfl rfl) (fun _ => hS) ?_
   obtain ⟨v25, hl25, hv25⟩ := at_load Ag60 Sz60 (by intro h; cases h) ha24
   obtain ⟨cs25, rfl, hr25⟩ := hv25
   obtain ⟨cc25x1, cd25x1, rfl, hh25x1, ht25x1⟩ := pr_open hr25
   obtain rfl := int_rel hh25x1
   obtain ⟨a25x2, n25x2, c25x2, rfl, hv25x2⟩ := rs_rel ht25x1
   refine x_l 3 (.agg #[(.int .i64 x23.1), (.slice a25x2 n25x2 c25x2)]) rfl (by kernel_rfl)  (fun w' hw' => y_load rfl (hl25 w' hw')) hS ?_
   refine x_p 4 (.slice pa1 pn1 pc1) rfl (by kernel_rfl)  (fun _ => y_move rfl) (fun _ => hS) ?_
   refine x_p 5 (.int .i64 k18) rfl (by kernel_rfl)  (fun _ => y_move rfl) (fun _ => hS) ?_
   obtain ⟨x27, hx27, hs⟩ := bind_some hs
   obtain ⟨b28, o28, hp28, ha28⟩ := rs_idx Sl28 Sz60 h1 hx27
   refine x_p 6 (.pointer (some ⟨b28, o28, none⟩)) rfl (by kernel_rfl)  (fun _ => hp28 _ _ _ _ _ _ _ _ _ rfl rfl) (fun _ => hS) ?_
   obtain ⟨v29, hl29, hv29⟩ := at_load Ag60 Sz60 (by intro h; cases h) ha28
   obtain ⟨cs29, rfl, hr29⟩ := hv29
   obtain ⟨cc29x1, cd29x1, rfl, hh29x1, ht29x1⟩ := pr_open hr29
   obtain rfl := int_rel hh29x1
   obtain ⟨a29x2, n29x2, c29x2, rfl, hv29x2⟩ := rs_rel ht29x1
   refine x_l 7 (.agg #[(.int .i64 x27.1), (.slice a29x2 n29x2 c29x2)]) rfl (by kernel_rfl)  (fun w' hw' => y_load rfl (hl29 w' hw')) hS ?_
   refine x_one (i := 8) (by kernel_rfl) ?_
   obtain ⟨r32, hr32, hs⟩ := bind_some hs
   refine xk_call (b := false) rfl  Bd42 rfl (c_laws_eqOp (M := M) (x23.1, x23.2) (x27.1, x27.2) hv25x2 hv29x2 hO.fut hr32) rfl (by rintro _ _ _ ⟨rfl, hC31⟩; exact hS.ext hC31) ?_
   rintro _ w31 ⟨rfl, hC31⟩
   have h0 := h0.ext hC31
   have h1 := h1.ext hC31
   have hv25x2 := hv25x2.ext hC31
   have hv29x2 := hv29x2.ext hC31
   have hC := hC.ext hC31
   have hO := hO.ext hC31
   have hS := hS.ext hC31
   refine x_p 9 (.bool (!r32)) rfl (by kernel_rfl)  (fun _ => y_not rfl) (fun _ => hS) ?_
   refine x_end (by kernel_rfl) ?_
   clear hS
   rcases bif_some hs with ⟨hc33, hs⟩ | ⟨hc33, hs⟩
   ·skip
    refine c_condT (congrArg Value.bool hc33) ?_
    refine c_seq (c_region ?_)
    refine pl_val (.bool false) (y_assign rfl) ?_
    refine c_nil ?_
    refine wp_ret ?_
    cases hs
    exact ⟨_, fr_ovl 27 ⟨rfl, trivial⟩, hC⟩
   ·skip
    refine c_condF (congrArg Value.bool hc33) ?_
    refine wp_skip ?_
    refine c_region ?_
    refine pl_val (.int .i64 k18) (y_move rfl) ?_
    refine pl_val (.int .i64 (w64 (k18 + 1))) (y_add rfl rfl) ?_
    refine pl_val (.int .i64 (w64 (k18 + 1))) (y_assign rfl) ?_
    refine c_nil ?_
    cases hs
    exact ⟨_, fr_ovl 27 ⟨rfl, rfl, congrArg (Value.int .i64) hw, trivial⟩, hC, hO, h0, h1⟩
  ·skip
   exact ⟨_, fr_ovl 27 ⟨rfl, rfl, rfl, trivial⟩, hC, hO, h0, h1⟩
  ·cases o20 with
   | nx _ => exact True.intro
   | rt r_ =>
    have hs := after_rt hs
    intro a1 w1 hK
    cases hs
    exact hK
   | br s16 =>
    have hs := after_br hs
    rintro a1 w17 ⟨σ, rfl, hC, hO, h0, h1⟩
    refine c_seq (c_region ?_)
    refine pl_val (.bool true) (y_assign rfl) ?_
    refine c_nil ?_
    refine wp_ret ?_
    cases hs
    exact ⟨_, fr_ovl 27 ⟨rfl, trivial⟩, hC⟩

theorem Bd22 : Bodied Tryz.prog 22 := bodied Tryz.func22 (by kernel_rfl) rfl

def k_laws_eqAlgebra (M : Nat → Prop) (w0 : World) (r : Bool) (a : Act) (w : World) : Prop :=
  ∃ (σ : Nat → Value) , a = fr 16 (ovl σ [(4, (.bool r))]) ∧ Chg [] w0 w
def s_laws_eqAlgebra (a_ : Int × (List (Int × (List Int)))) (b : Int × (List (Int × (List Int)))) : Option (Bool) :=
  (bif (a_.1 != b.1) then some false else (s_laws_eqOpS a_.2 b.2).bind fun r7 =>
  (bif (!r7) then some false else some true))
set_option maxHeartbeats 4000000 in
theorem c_laws_eqAlgebra {M : Nat → Prop} {w : World} {pa0 : Option Addr} {pn0 pc0 : Nat} {pa1 : Option Addr} {pn1 pc1 : Nat} (a_ : Int × (List (Int × (List Int)))) (b : Int × (List (Int × (List Int)))) (h0 : (RT.rs (RT.pr (RT.int .i64) (RT.rs (RT.int .i64)))).val M w (.slice pa0 pn0 pc0) a_.2 ([])) (h1 : (RT.rs (RT.pr (RT.int .i64) (RT.rs (RT.int .i64)))).val M w (.slice pa1 pn1 pc1) b.2 ([])) (hM : ∀ g, w.heap.size ≤ g → M g) {r : Bool} (hs : s_laws_eqAlgebra a_ b = some r) :
    Gives Tryz.prog 9 [(.agg #[(.int .i64 a_.1), (.slice pa0 pn0 pc0)]), (.agg #[(.int .i64 b.1), (.slice pa1 pn1 pc1)])] w (fun v w' => v = (.bool r) ∧ Chg [] w w') := by
 refine calls_fr Tryz.func9 rfl Tryz.ntmps9 (Nat.le_of_ble_eq_true rfl) ?_
 have hO := Own.start (N := Nw w []) hM Nw.fut
 have hC := Chg.refl [] w
 unfold s_laws_eqAlgebra at hs
 refine wp_mono (Q := KPost (k_laws_eqAlgebra M w r)) ?_ (fun e a w1 h => ?_)
 rotate_left
 ·cases e
  case ret =>
   obtain ⟨σ, rfl, hrest⟩ := h
   exact ret1x Tryz.results9 (res_tmp rfl) ⟨rfl, hrest⟩
  all_goals exact (h : False).elim
 refine c_seq (c_region ?_)
 obtain ⟨w3, g3, ew3, eg3, hC3, hb3⟩ := new_block w [(.int .i64 a_.1), (.slice pa0 pn0 pc0)] 30
 refine pl_val (w' := w3) (.pointer (some ⟨g3, 0, none⟩)) (y_box rfl (by rw [ew3, eg3]; kernel_rfl)) ?_
 have h0 := h0.ext hC3
 have h1 := h1.ext hC3
 have hC := hC.ext hC3
 have hO := hO.new1 hC3 eg3 hb3.lt
 obtain ⟨w4, g4, ew4, eg4, hC4, hb4⟩ := new_block w3 [(.int .i64 b.1), (.slice pa1 pn1 pc1)] 30
 refine pl_val (w' := w4) (.pointer (some ⟨g4, 0, none⟩)) (y_box rfl (by rw [ew4, eg4]; kernel_rfl)) ?_
 have h0 := h0.ext hC4
 have h1 := h1.ext hC4
 have hb3 := hb3.chg hC4 (fun h => nomatch h)
 have hC := hC.ext hC4
 have hO := hO.new1 hC4 eg4 hb4.lt
 refine pl_val (.bool false) (y_assign rfl) ?_
 refine c_nil ?_
 refine c_seq ?_
 refine c_seq (c_region ?_)
 refine pl_val (.pointer (some ⟨g3, 0, none⟩)) (y_faddr rfl Fa30x0) ?_
 refine pl_val (.int .i64 a_.1) (y_load rfl ((box_load Ag3 Sz3 hb3 [] [(.int .i64 a_.1)] [(.slice pa0 pn0 pc0)] rfl rfl (fun _ => rfl)) _ (Chg.refl _ _))) ?_
 refine pl_val (.pointer (some ⟨g4, 0, none⟩)) (y_faddr rfl Fa30x0) ?_
 refine pl_val (.int .i64 b.1) (y_load rfl ((box_load Ag3 Sz3 hb4 [] [(.int .i64 b.1)] [(.slice pa1 pn1 pc1)] rfl rfl (fun _ => rfl)) _ (Chg.refl _ _))) ?_
 refine pl_val (.bool (a_.1 != b.1)) (y_neq rfl rfl) ?_
 refine c_nil ?_
 rcases bif_some hs with ⟨hc5, hs⟩ | ⟨hc5, hs⟩
 ·skip
  refine c_condT (congrArg Value.bool hc5) ?_
  refine c_seq (c_region ?_)
  refine pl_val (.bool false) (y_assign rfl) ?_
  refine c_nil ?_
  refine wp_ret ?_
  cases hs
  exact ⟨_, fr_ovl 16 ⟨rfl, trivial⟩, hC⟩
 ·skip
  refine c_condF (congrArg Value.bool hc5) ?_
  refine wp_skip ?_
  refine c_seq ?_
  refine c_seq (c_region ?_)
  refine pl_val (.pointer (some ⟨g3, 1, none⟩)) (y_faddr rfl Fa30x1) ?_
  refine pl_val (.slice pa0 pn0 pc0) (y_load rfl ((box_load Ag28 Sz28 hb3 [(.int .i64 a_.1)] [(.slice pa0 pn0 pc0)] [] rfl rfl (fun _ => rfl)) _ (Chg.refl _ _))) ?_
  refine pl_val (.pointer (some ⟨g4, 1, none⟩)) (y_faddr rfl Fa30x1) ?_
  refine pl_val (.slice pa1 pn1 pc1) (y_load rfl ((box_load Ag28 Sz28 hb4 [(.int .i64 b.1)] [(.slice pa1 pn1 pc1)] [] rfl rfl (fun _ => rfl)) _ (Chg.refl _ _))) ?_
  obtain ⟨r7, hr7, hs⟩ := bind_some hs
  refine pl_call Bd22 rfl (c_laws_eqOpS (M := M) a_.2 b.2 h0 h1 hO.fut hr7) ?_
  rintro _ w6 ⟨rfl, hC6⟩
  have h0 := h0.ext hC6
  have h1 := h1.ext hC6
  have hb3 := hb3.chg hC6 (fun h => nomatch h)
  have hb4 := hb4.chg hC6 (fun h => nomatch h)
  have hC := hC.ext hC6
  have hO := hO.ext hC6
  refine pl_val (.bool (!r7)) (y_not rfl) ?_
  refine c_nil ?_
  rcases bif_some hs with ⟨hc8, hs⟩ | ⟨hc8, hs⟩
  ·skip
   refine c_condT (congrArg Value.bool hc8) ?_
   refine c_seq (c_region ?_)
   refine pl_val (.bool false) (y_assign rfl) ?_
   refine c_nil ?_
   refine wp_ret ?_
   cases hs
   exact ⟨_, fr_ovl 16 ⟨rfl, trivial⟩, hC⟩
  ·skip
   refine c_condF (congrArg Value.bool hc8) ?_
   refine wp_skip ?_
   refine c_seq (c_region ?_)
   refine pl_val (.bool true) (y_assign rfl) ?_
   refine c_nil ?_
   refine wp_ret ?_
   cases hs
   exact ⟨_, fr_ovl 16 ⟨rfl, trivial⟩, hC⟩

def k_laws_markIntS (M : Nat → Prop) (w0 : World) (qa0 : Option Addr) (qn0 qc0 : Nat) (qf0 : List Nat) (r : Int × (List Int)) (a : Act) (w : World) : Prop :=
  ∃ (σ : Nat → Value) (rfi0 : List Nat), a = fr 19 (ovl σ [(4, (.int .i64 r.1))]) ∧ Chg (qf0 ++ ([])) w0 w ∧ (RT.os 3 (RT.int .i64)).val M w (.slice qa0 qn0 qc0) r.2 rfi0 ∧ Own (Nw w0 (qf0 ++ ([]))) (fun _ => True) w (rfi0 ++ ([]))
def s_laws_markIntS (a_ : List Int) (k : Int) : Option (Int × (List Int)) :=
  (iter (S := Int × Int × (List Int)) (R := Int × (List Int)) (fun s25 =>
  (bif (decide (s25.2.1 < (s25.2.2.length : Int))) then (idx s25.2.2 s25.2.1).bind fun x34 =>
  some (.nx (w64 (s25.1 + 1), w64 (s25.2.1 + 1), List.set s25.2.2 (Int.toNat s25.2.1) s25.1)) else some (.br (s25.1, s25.2.1, s25.2.2)))) FU (k, 0, a_)).bind fun o29 => after o29 (fun r_ => some r_) (fun s25 =>
  some (s25.1, s25.2.2))
set_option maxHeartbeats 4000000 in
theorem c_laws_markIntS {M : Nat → Prop} {w : World} {pa0 : Option Addr} {pn0 pc0 : Nat} {pf0 : List Nat} (a_ : List Int) (k : Int) (h0 : (RT.os 3 (RT.int .i64)).val M w (.slice pa0 pn0 pc0) a_ pf0) (hI : Own (Nw w (pf0 ++ ([]))) M w (pf0 ++ ([]))) (hM : ∀ g, w.heap.size ≤ g → M g) {r : Int × (List Int)} (hs : s_laws_markIntS a_ k = some r) :
    Gives Tryz.prog 59 [(.slice pa0 pn0 pc0), (.int .i64 k)] w (fun v w' => ∃ (rfi0 : List Nat), v = (.int .i64 r.1) ∧ Chg (pf0 ++ ([])) w w' ∧ (RT.os 3 (RT.int .i64)).val M w' (.slice pa0 pn0 pc0) r.2 rfi0 ∧ Own (Nw w (pf0 ++ ([]))) (fun _ => True) w' (rfi0 ++ ([]))) := by
 refine calls_fr Tryz.func59 rfl Tryz.ntmps59 (Nat.le_of_ble_eq_true rfl) ?_
 have hO := hI
 have hC := Chg.refl (pf0 ++ ([])) w
 unfold s_laws_markIntS at hs
 refine wp_mono (Q := KPost (k_laws_markIntS M w pa0 pn0 pc0 pf0 r)) ?_ (fun e a w1 h => ?_)
 rotate_left
 ·cases e
  case ret =>
   obtain ⟨σ, rfi0, rfl, hrest⟩ := h
   exact ret1x Tryz.results59 (res_tmp rfl) ⟨rfi0, rfl, hrest⟩
  all_goals exact (h : False).elim
 refine c_seq (c_region ?_)
 refine pl_val (.int .i64 0) (y_assign rfl) ?_
 refine c_nil ?_
 refine c_seq ?_
 refine c_seq (c_region ?_)
 refine pl_val (.int .i64 0) (y_assign rfl) ?_
 refine c_nil ?_
 obtain ⟨o29, hl30, hs⟩ := bind_some hs
 refine wp_block ?_
 refine wp_iter (id := 0) (I := fun s25 a w26 => ∃ (σ : Nat → Value) (f31 : List Nat), a = fr 19 (ovl σ [(0, (.slice pa0 pn0 pc0)), (1, (.int .i64 s25.1)), (5, (.int .i64 s25.2.1))]) ∧ Chg (pf0 ++ ([])) w w26 ∧ Own (Nw w (pf0 ++ ([]))) M w26 (f31 ++ []) ∧ (RT.os 3 (RT.int .i64)).val M w26 (.slice pa0 pn0 pc0) s25.2.2 f31) (J := fun s25 a w26 => ∃ (σ : Nat → Value) (f32 : List Nat), a = fr 19 (ovl σ [(1, (.int .i64 s25.1))]) ∧ Chg (pf0 ++ ([])) w w26 ∧ Own (Nw w (pf0 ++ ([]))) M w26 (f32 ++ []) ∧ (RT.os 3 (RT.int .i64)).val M w26 (.slice pa0 pn0 pc0) s25.2.2 f32) (K := (k_laws_markIntS M w pa0 pn0 pc0 pf0)) ?_ FU (k, 0, a_) o29 _ _ ?_ hl30 ?_
 ·rintro s25 o29 a w26 ⟨σ, f31, rfl, hC, hO, hv31⟩ hs
  refine c_seq ?_
  refine c_seq (c_region ?_)
  refine pl_val (.int .i64 s25.2.1) (y_move rfl) ?_
  refine pl_val (.slice pa0 pn0 pc0) (y_move rfl) ?_
  refine pl_val (.int .i64 (s25.2.2.length : Int)) (y_len' Sl47 (os_len hv31) rfl) ?_
  refine pl_val (.bool (decide (s25.2.1 < (s25.2.2.length : Int)))) (y_lss rfl rfl) ?_
  refine c_nil ?_
  rcases bif_some hs with ⟨hc33, hs⟩ | ⟨hc33, hs⟩
  ·skip
   refine c_condT (congrArg Value.bool hc33) ?_
   refine wp_skip ?_
   refine c_seq ?_
   refine wp_block ?_
   refine c_seq (c_region ?_)
   refine pl_val (.slice pa0 pn0 pc0) (y_move rfl) ?_
   refine pl_val (.int .i64 s25.2.1) (y_move rfl) ?_
   refine pl_val (.int .i64 s25.1) (y_move rfl) ?_
   obtain ⟨x34, hx34, hs⟩ := bind_some hs
   obtain ⟨g35, f35, hg35, hk35, hp35, ha35, hf35⟩ := os_idx Sl47 Sz3 hv31 hx34
   refine pl_val (.pointer (some ⟨g35, 0 + Int.toNat s25.2.1 * 1, none⟩)) (hp35 _ _ _ _ _ _ _ _ _ rfl rfl) ?_
   obtain ⟨w36, f36, hst36, hC36, hf36, hv36⟩ := os_store (P := Tryz.prog) (c' := [(.int .i64 s25.1)]) hg35 hv31 hk35 (fun g hg => hO.inM g (os_block hv31 g (by simpa using hg))) ⟨rfl, rfl⟩ List.nodup_nil (fun _ h => nomatch h) (fun _ h => .inl h)
   have hG36 : ∀ q ∈ [g35], q ∈ f31 := fun q hq => os_block hv31 q (by rw [hg35]; exact hq)
   refine pl_skip (w' := w36) (ys_store rfl rfl (hst36 _ _ rfl Sz3)) ?_
   have hC := hC.step hC36 (fun g hg => hO.inN g (hG36 g hg))
   have hO := hO.grow hC36 (fun q hq => .inl ((hf36 q hq).resolve_right (fun h => nomatch h))) (os_nodup hv36) hv36.fpl
   refine c_nil ?_
   refine c_region ?_
   refine pl_val (.int .i64 s25.1) (y_move rfl) ?_
   refine pl_val (.int .i64 (w64 (s25.1 + 1))) (y_add rfl rfl) ?_
   refine pl_val (.int .i64 (w64 (s25.1 + 1))) (y_assign rfl) ?_
   refine c_nil ?_
   refine c_region ?_
   refine pl_val (.int .i64 s25.2.1) (y_move rfl) ?_
   refine pl_val (.int .i64 (w64 (s25.2.1 + 1))) (y_add rfl rfl) ?_
   refine pl_val (.int .i64 (w64 (s25.2.1 + 1))) (y_assign rfl) ?_
   refine c_nil ?_
   cases hs
   exact ⟨_, f36, fr_ovl 19 ⟨rfl, rfl, rfl, trivial⟩, hC, hO, hv36⟩
  ·skip
   refine c_condF (congrArg Value.bool hc33) ?_
   refine wp_exit ?_
   cases hs
   exact ⟨rfl, _, f31, fr_ovl 19 ⟨rfl, trivial⟩, hC, hO, hv31⟩
 ·skip
  exact ⟨_, pf0, fr_ovl 19 ⟨rfl, rfl, rfl, trivial⟩, hC, hO, h0⟩
 ·cases o29 with
  | nx _ => exact True.intro
  | rt r_ =>
   have hs := after_rt hs
   intro a1 w1 hK
   cases hs
   exact hK
  | br s25 =>
   have hs := after_br hs
   rintro a1 w26 ⟨σ, f32, rfl, hC, hO, hv32⟩
   refine c_seq (c_region ?_)
   refine pl_val (.int .i64 s25.1) (y_move rfl) ?_
   refine pl_val (.int .i64 s25.1) (y_assign rfl) ?_
   refine c_nil ?_
   refine wp_ret ?_
   cases hs
   exact ⟨_, f32, fr_ovl 19 ⟨rfl, trivial⟩, hC, hv32, hO.top⟩

theorem Bd59 : Bodied Tryz.prog 59 := bodied Tryz.func59 (by kernel_rfl) rfl

def k_laws_markOpS (M : Nat → Prop) (w0 : World) (qa0 : Option Addr) (qn0 qc0 : Nat) (qf0 : List Nat) (r : Int × (List (Int × (List Int)))) (a : Act) (w : World) : Prop :=
  ∃ (σ : Nat → Value) (rfi0 : List Nat), a = fr 27 (ovl σ [(4, (.int .i64 r.1))]) ∧ Chg (qf0 ++ ([])) w0 w ∧ (RT.os 60 (RT.pr (RT.int .i64) (RT.os 3 (RT.int .i64)))).val M w (.slice qa0 qn0 qc0) r.2 rfi0 ∧ Own (Nw w0 (qf0 ++ ([]))) (fun _ => True) w (rfi0 ++ ([]))
def s_laws_markOpS (a_ : List (Int × (List Int))) (k : Int) : Option (Int × (List (Int × (List Int)))) :=
  (iter (S := Int × Int × (List (Int × (List Int)))) (R := Int × (List (Int × (List Int)))) (fun s57 =>
  (bif (decide (s57.2.1 < (s57.2.2.length : Int))) then (idx s57.2.2 s57.2.1).bind fun x67 =>
  (idx (List.set s57.2.2 (Int.toNat s57.2.1) (s57.1, x67.2)) s57.2.1).bind fun x71 =>
  (s_laws_markIntS x71.2 (w64 (s57.1 + 1))).bind fun r77 =>
  some (.nx (r77.1, w64 (s57.2.1 + 1), List.set (List.set s57.2.2 (Int.toNat s57.2.1) (s57.1, x67.2)) (Int.toNat s57.2.1) (x71.1, r77.2))) else some (.br (s57.1, s57.2.1, s57.2.2)))) FU (k, 0, a_)).bind fun o61 => after o61 (fun r_ => some r_) (fun s57 =>
  some (s57.1, s57.2.2))
set_option maxHeartbeats 4000000 in
theorem c_laws_markOpS {M : Nat → Prop} {w : World} {pa0 : Option Addr} {pn0 pc0 : Nat} {pf0 : List Nat} (a_ : List (Int × (List Int))) (k : Int) (h0 : (RT.os 60 (RT.pr (RT.int .i64) (RT.os 3 (RT.int .i64)))).val M w (.slice pa0 pn0 pc0) a_ pf0) (hI : Own (Nw w (pf0 ++ ([]))) M w (pf0 ++ ([]))) (hM : ∀ g, w.heap.size ≤ g → M g) {r : Int × (List (Int × (List Int)))} (hs : s_laws_markOpS a_ k = some r) :
    Gives Tryz.prog 32 [(.slice pa0 pn0 pc0), (.int .i64 k)] w (fun v w' => ∃ (rfi0 : List Nat), v = (.int .i64 r.1) ∧ Chg (pf0 ++ ([])) w w' ∧ (RT.os 60 (RT.pr (RT.int .i64) (RT.os 3 (RT.int .i64)))).val M w' (.slice pa0 pn0 pc0) r.2 rfi0 ∧ Own (Nw w (pf0 ++ ([]))) (fun _ => True) w' (rfi0 ++ ([]))) := by
 refine calls_fr Tryz.func32 rfl Tryz.ntmps32 (Nat.le_of_ble_eq_true rfl) ?_
 have hO := hI
 have hC := Chg.refl (pf0 ++ ([])) w
 unfold s_laws_markOpS at hs
 refine wp_mono (Q := KPost (k_laws_markOpS M w pa0 pn0 pc0 pf0 r)) ?_ (fun e a w1 h => ?_)
 rotate_left
 ·cases e
  case ret =>
   obtain ⟨σ, rfi0, rfl, hrest⟩ := h
   exact ret1x Tryz.results32 (res_tmp rfl) ⟨rfi0, rfl, hrest⟩
  all_goals exact (h : False).elim
 refine c_seq (c_region ?_)
 refine pl_val (.int .i64 0) (y_assign rfl) ?_
 refine c_nil ?_
 refine c_seq ?_
 refine c_seq (c_region ?_)
 refine pl_val (.int .i64 0) (y_assign rfl) ?_
 refine c_nil ?_
 obtain ⟨o61, hl62, hs⟩ := bind_some hs
 refine wp_block ?_
 refine wp_iter (id := 0) (I := fun s57 a w58 => ∃ (σ : Nat → Value) (f63 : List Nat), a = fr 27 (ovl σ [(0, (.slice pa0 pn0 pc0)), (1, (.int .i64 s57.1)), (5, (.int .i64 s57.2.1))]) ∧ Chg (pf0 ++ ([])) w w58 ∧ Own (Nw w (pf0 ++ ([]))) M w58 (f63 ++ []) ∧ (RT.os 60 (RT.pr (RT.int .i64) (RT.os 3 (RT.int .i64)))).val M w58 (.slice pa0 pn0 pc0) s57.2.2 f63) (J := fun s57 a w58 => ∃ (σ : Nat → Value) (f65 : List Nat), a = fr 27 (ovl σ [(1, (.int .i64 s57.1))]) ∧ Chg (pf0 ++ ([])) w w58 ∧ Own (Nw w (pf0 ++ ([]))) M w58 (f65 ++ []) ∧ (RT.os 60 (RT.pr (RT.int .i64) (RT.os 3 (RT.int .i64)))).val M w58 (.slice pa0 pn0 pc0) s57.2.2 f65) (K := (k_laws_markOpS M w pa0 pn0 pc0 pf0)) ?_ FU (k, 0, a_) o61 _ _ ?_ hl62 ?_
 ·rintro s57 o61 a w58 ⟨σ, f63, rfl, hC, hO, hv63⟩ hs
  refine c_seq ?_
  refine c_seq (c_region ?_)
  refine pl_val (.int .i64 s57.2.1) (y_move rfl) ?_
  refine pl_val (.slice pa0 pn0 pc0) (y_move rfl) ?_
  refine pl_val (.int .i64 (s57.2.2.length : Int)) (y_len' Sl28 (os_len hv63) rfl) ?_
  refine pl_val (.bool (decide (s57.2.1 < (s57.2.2.length : Int)))) (y_lss rfl rfl) ?_
  refine c_nil ?_
  rcases bif_some hs with ⟨hc66, hs⟩ | ⟨hc66, hs⟩
  ·skip
   refine c_condT (congrArg Value.bool hc66) ?_
   refine wp_skip ?_
   refine c_seq ?_
   refine wp_block ?_
   refine c_seq (c_region ?_)
   refine pl_val (.slice pa0 pn0 pc0) (y_move rfl) ?_
   refine pl_val (.int .i64 s57.2.1) (y_move rfl) ?_
   refine pl_val (.int .i64 s57.1) (y_move rfl) ?_
   obtain ⟨x67, hx67, hs⟩ := bind_some hs
   obtain ⟨g68, f68, hg68, hk68, hp68, ha68, hf68⟩ := os_idx Sl28 Sz60 hv63 hx67
   have hb68 := own_row (Frz.pr Frz.int (Frz.os Frz.int)) ha68 hf68
   refine pl_val (.pointer (some ⟨g68, 0 + Int.toNat s57.2.1 * 2, none⟩)) (hp68 _ _ _ _ _ _ _ _ _ rfl rfl) ?_
   obtain ⟨hq69, _⟩ := pr_at hb68
   refine pl_val (.pointer (some ⟨g68, (0 + Int.toNat s57.2.1 * 2) + 0, none⟩)) (y_faddr rfl Fa60x0) ?_
   obtain ⟨L170, c70, L270, fq70, hL70, hc70, hbx70, hr70, hsf70, hnf70, hgi70, hgn70, hput70⟩ := os_focus hg68 hv63 hx67 hO.inM
   obtain ⟨c70x1, d70x1, f70x1, k70x1, rfl, rfl, hl70x1, ht70x1⟩ := hr70
   obtain ⟨rfl, rfl⟩ := hl70x1
   have hn70x1 := RT.len _ ht70x1
   obtain ⟨w70, hst70, hC70, hb70⟩ := box_store (P := Tryz.prog) hbx70 (L170) [(Value.int .i64 x67.1)] (d70x1 ++ (L270)) [(Value.int .i64 s57.1)] (by simp) rfl (by intro u hu; rw [List.mem_singleton.1 hu]; rfl)
   have hA70 : (L170).length = ((0 + Int.toNat s57.2.1 * 2) + 0) := by
    simp only [List.length_append, hL70]
    try rfl
   rw [hA70] at hst70
   have hGM70 : ∀ q ∈ [g68], M q ∨ (w58).heap.size ≤ q := fun q hq => .inl (by rw [List.mem_singleton.1 hq]; exact hO.inM _ hgi70)
   obtain ⟨fz70, hv70, hf70⟩ := hput70 w70 [g68] ([(Value.int .i64 s57.1)] ++ d70x1) (s57.1, x67.2) (([] : List Nat) ++ k70x1) hC70 (fun q hq => .inl (List.mem_singleton.1 hq)) (by simpa using hb70) ⟨_, _, _, _, rfl, rfl, ⟨rfl, rfl⟩, (RT.mono _ ht70x1 hC70 hGM70 (fun q hq hq' => hgn70 (by rw [List.mem_singleton.1 hq] at hq'; simp [hq'])) (fun _ h => .inl h))⟩ hnf70 (fun q hq => .inl hq)
   refine pl_skip (w' := w70) (ys_store rfl rfl (hst70 _ _ rfl Sz3)) ?_
   have hG70 : ∀ q ∈ [g68], q ∈ f63 := fun q hq => by rw [List.mem_singleton.1 hq]; exact hgi70
   have hC := hC.step hC70 (fun g hg => hO.inN g (hG70 g hg))
   have hO := hO.grow hC70 hf70 (os_nodup hv70) hv70.fpl
   refine c_nil ?_
   refine c_seq (c_region ?_)
   refine pl_val (.int .i64 s57.1) (y_move rfl) ?_
   refine pl_val (.int .i64 (w64 (s57.1 + 1))) (y_add rfl rfl) ?_
   refine pl_val (.int .i64 (w64 (s57.1 + 1))) (y_assign rfl) ?_
   refine c_nil ?_
   refine c_region ?_
   refine pl_val (.slice pa0 pn0 pc0) (y_move rfl) ?_
   refine pl_val (.int .i64 s57.2.1) (y_move rfl) ?_
   obtain ⟨x71, hx71, hs⟩ := bind_some hs
   obtain ⟨g72, f72, hg72, hk72, hp72, ha72, hf72⟩ := os_idx Sl28 Sz60 hv70 hx71
   have hb72 := own_row (Frz.pr Frz.int (Frz.os Frz.int)) ha72 hf72
   refine pl_val (.pointer (some ⟨g72, 0 + Int.toNat s57.2.1 * 2, none⟩)) (hp72 _ _ _ _ _ _ _ _ _ rfl rfl) ?_
   obtain ⟨_, hq73x0⟩ := pr_at hb72
   refine pl_val (.pointer (some ⟨g72, (0 + Int.toNat s57.2.1 * 2) + 1, none⟩)) (y_faddr rfl Fa60x1) ?_
   obtain ⟨cs74, hrow74, hr74⟩ := at_open hb72
   obtain ⟨cc74x1, cd74x1, rfl, hh74x1, ht74x1⟩ := pr_open hr74
   obtain rfl := int_rel hh74x1
   obtain ⟨a74x2, n74x2, c74x2, rfl, hv74x2⟩ := rs_rel ht74x1
   refine pl_val (.slice a74x2 n74x2 c74x2) (y_load rfl ((part_load (l1 := [(.int .i64 x71.1)]) (c := [(.slice a74x2 n74x2 c74x2)]) (l2 := []) Ag47 Sz47 hrow74 rfl rfl (fun _ => rfl)) _ (Chg.refl _ _))) ?_
   refine pl_val (.int .i64 (w64 (s57.1 + 1))) (y_move rfl) ?_
   obtain ⟨fg76, hrr76, hsf76, hnf76, hput76⟩ := os_put hg72 hv70 hx71 hrow74 rfl hO.inM
   obtain ⟨fa76x1, fb76x1, rfl, hp76x1, hq76x1⟩ := pr_split (c := [(.int .i64 x71.1)]) (d := [(.slice a74x2 n74x2 c74x2)]) hrr76 rfl
   obtain rfl := int_fp hp76x1
   have hg76x0 : (RT.os 3 (RT.int .i64)).val M w70 (.slice a74x2 n74x2 c74x2) x71.2 fb76x1 := ⟨[_], rfl, hq76x1⟩
   have hfs76 : ∀ q ∈ (fb76x1 ++ ([])), q ∈ fz70 := fun q hq => hsf76 q (by simpa using hq)
   have hfn76 : List.Nodup (fb76x1 ++ ([])) := by simpa using hnf76
   have hL76 := hO
   have hI76 := Own.part (X := (fb76x1 ++ ([]))) (hL76) hfs76 hfn76
   obtain ⟨r77, hr77, hs⟩ := bind_some hs
   refine pl_call Bd59 rfl (c_laws_markIntS (M := M) x71.2 (w64 (s57.1 + 1)) hg76x0 hI76 hI76.fut hr77) ?_
   rintro _ w76 ⟨fi76x0, rfl, hC76, hvi76x0, hOc76⟩
   obtain ⟨fq76, hvq76, hsq76⟩ := hput76 w76 (fb76x1 ++ ([])) (x71.1, r77.2) (([] : List Nat) ++ fi76x0) hC76 (fun q hq => by simpa using hq) ⟨_, _, _, _, rfl, rfl, ⟨rfl, rfl⟩, (os_unval hvi76x0)⟩ (by simpa using hOc76.1) (fun q hq => (hOc76.2.1 q (by simpa using hq)).2.2.imp (fun h => by simpa using h) id)
   have hC := hC.step hC76 (fun g hg => hO.inN g (hfs76 g hg))
   have hO := hO.grow hC76 hsq76 (os_nodup hvq76) hvq76.fpl
   refine pl_val (.int .i64 r77.1) (y_assign rfl) ?_
   refine c_nil ?_
   refine c_region ?_
   refine pl_val (.int .i64 s57.2.1) (y_move rfl) ?_
   refine pl_val (.int .i64 (w64 (s57.2.1 + 1))) (y_add rfl rfl) ?_
   refine pl_val (.int .i64 (w64 (s57.2.1 + 1))) (y_assign rfl) ?_
   refine c_nil ?_
   cases hs
   exact ⟨_, fq76, fr_ovl 27 ⟨rfl, rfl, rfl, trivial⟩, hC, hO, hvq76⟩
  ·skip
   refine c_condF (congrArg Value.bool hc66) ?_
   refine wp_exit ?_
   cases hs
   exact ⟨rfl, _, f63, fr_ovl 27 ⟨rfl, trivial⟩, hC, hO, hv63⟩
 ·skip
  exact ⟨_, pf0, fr_ovl 27 ⟨rfl, rfl, rfl, trivial⟩, hC, hO, h0⟩
 ·cases o61 with
  | nx _ => exact True.intro
  | rt r_ =>
   have hs := after_rt hs
   intro a1 w1 hK
   cases hs
   exact hK
  | br s57 =>
   have hs := after_br hs
   rintro a1 w58 ⟨σ, f65, rfl, hC, hO, hv65⟩
   refine c_seq (c_region ?_)
   refine pl_val (.int .i64 s57.1) (y_move rfl) ?_
   refine pl_val (.int .i64 s57.1) (y_assign rfl) ?_
   refine c_nil ?_
   refine wp_ret ?_
   cases hs
   exact ⟨_, f65, fr_ovl 27 ⟨rfl, trivial⟩, hC, hv65, hO.top⟩

theorem Bd32 : Bodied Tryz.prog 32 := bodied Tryz.func32 (by kernel_rfl) rfl

def k_laws_markAlgebra (M : Nat → Prop) (w0 : World) (qa0 : Option Addr) (qn0 qc0 : Nat) (qf0 : List Nat) (r : Int × (List (Int × (List Int)))) (a : Act) (w : World) : Prop :=
  ∃ (σ : Nat → Value) (rfi0 : List Nat), a = fr 10 (ovl σ [(4, (.int .i64 r.1))]) ∧ Chg (qf0 ++ ([])) w0 w ∧ (RT.os 60 (RT.pr (RT.int .i64) (RT.os 3 (RT.int .i64)))).val M w (.slice qa0 qn0 qc0) r.2 rfi0 ∧ Own (Nw w0 (qf0 ++ ([]))) (fun _ => True) w (rfi0 ++ ([]))
def s_laws_markAlgebra (a_ : Int × (List (Int × (List Int)))) (k : Int) : Option (Int × (List (Int × (List Int)))) :=
  (s_laws_markOpS a_.2 k).bind fun r4 =>
  some (r4.1, r4.2)
set_option maxHeartbeats 4000000 in
theorem c_laws_markAlgebra {M : Nat → Prop} {w : World} {pa0 : Option Addr} {pn0 pc0 : Nat} {pf0 : List Nat} (a_ : Int × (List (Int × (List Int)))) (k : Int) (h0 : (RT.os 60 (RT.pr (RT.int .i64) (RT.os 3 (RT.int .i64)))).val M w (.slice pa0 pn0 pc0) a_.2 pf0) (hI : Own (Nw w (pf0 ++ ([]))) M w (pf0 ++ ([]))) (hM : ∀ g, w.heap.size ≤ g → M g) {r : Int × (List (Int × (List Int)))} (hs : s_laws_markAlgebra a_ k = some r) :
    Gives Tryz.prog 13 [(.agg #[(.int .i64 a_.1), (.slice pa0 pn0 pc0)]), (.int .i64 k)] w (fun v w' => ∃ (rfi0 : List Nat), v = (.int .i64 r.1) ∧ Chg (pf0 ++ ([])) w w' ∧ (RT.os 60 (RT.pr (RT.int .i64) (RT.os 3 (RT.int .i64)))).val M w' (.slice pa0 pn0 pc0) r.2 rfi0 ∧ Own (Nw w (pf0 ++ ([]))) (fun _ => True) w' (rfi0 ++ ([]))) := by
 refine calls_fr Tryz.func13 rfl Tryz.ntmps13 (Nat.le_of_ble_eq_true rfl) ?_
 have hO := hI
 have hC := Chg.refl (pf0 ++ ([])) w
 unfold s_laws_markAlgebra at hs
 refine wp_mono (Q := KPost (k_laws_markAlgebra M w pa0 pn0 pc0 pf0 r)) ?_ (fun e a w1 h => ?_)
 rotate_left
 ·cases e
  case ret =>
   obtain ⟨σ, rfi0, rfl, hrest⟩ := h
   exact ret1x Tryz.results13 (res_tmp rfl) ⟨rfi0, rfl, hrest⟩
  all_goals exact (h : False).elim
 refine c_seq (c_region ?_)
 obtain ⟨w2, g2, ew2, eg2, hC2, hb2⟩ := new_block w [(.int .i64 a_.1), (.slice pa0 pn0 pc0)] 30
 refine pl_val (w' := w2) (.pointer (some ⟨g2, 0, none⟩)) (y_box rfl (by rw [ew2, eg2]; kernel_rfl)) ?_
 have h0 := h0.ext hC2
 have hC := hC.ext hC2
 have hO := hO.new1 hC2 eg2 hb2.lt
 refine pl_val (.int .i64 0) (y_assign rfl) ?_
 refine c_nil ?_
 refine c_seq (c_region ?_)
 refine pl_val (.pointer (some ⟨g2, 1, none⟩)) (y_faddr rfl Fa30x1) ?_
 refine pl_val (.slice pa0 pn0 pc0) (y_load rfl ((box_load Ag28 Sz28 hb2 [(.int .i64 a_.1)] [(.slice pa0 pn0 pc0)] [] rfl rfl (fun _ => rfl)) _ (Chg.refl _ _))) ?_
 refine pl_val (.int .i64 k) (y_move rfl) ?_
 have hO := hO.fr1
 have hL3 := hO
 have hI3 := Own.lend (F := (pf0 ++ ([]))) (R := ([g2]) ++ ([])) (Own.perm (hL3) (by simp))
 obtain ⟨r4, hr4, hs⟩ := bind_some hs
 refine pl_call Bd32 rfl (c_laws_markOpS (M := M) a_.2 k h0 hI3 hI3.fut hr4) ?_
 rintro _ w3 ⟨fi3x0, rfl, hC3, hvi3x0, hOc3⟩
 have hO := hO.perm (R := (pf0 ++ ([])) ++ (([g2]) ++ ([]))) (by simp)
 have hb2 := hb2.chg hC3 (fun hg => hO.apart _ ((fun _ h => h) _ hg) (mem_l (List.mem_singleton.2 rfl)))
 have hC := hC.step hC3 (fun g hg => hO.inN g ((fun _ h => h) g hg))
 have hO := Own.join hO hC3 hOc3
 have hO := hO.perm (R := fi3x0 ++ (([g2]) ++ ([]))) (by simp)
 refine pl_val (.int .i64 r4.1) (y_assign rfl) ?_
 refine c_nil ?_
 refine c_seq (c_region ?_)
 refine pl_val (.int .i64 r4.1) (y_move rfl) ?_
 refine pl_val (.int .i64 r4.1) (y_assign rfl) ?_
 refine c_nil ?_
 refine wp_ret ?_
 cases hs
 have hO := hO.fr1
 have hO := hO.drop
 exact ⟨_, fi3x0, fr_ovl 10 ⟨rfl, trivial⟩, hC, hvi3x0, hO.top⟩

def k_laws_markIntSS (M : Nat → Prop) (w0 : World) (qa0 : Option Addr) (qn0 qc0 : Nat) (qf0 : List Nat) (r : Int × (List (List Int))) (a : Act) (w : World) : Prop :=
  ∃ (σ : Nat → Value) (rfi0 : List Nat), a = fr 19 (ovl σ [(4, (.int .i64 r.1))]) ∧ Chg (qf0 ++ ([])) w0 w ∧ (RT.os 47 (RT.os 3 (RT.int .i64))).val M w (.slice qa0 qn0 qc0) r.2 rfi0 ∧ Own (Nw w0 (qf0 ++ ([]))) (fun _ => True) w (rfi0 ++ ([]))
def s_laws_markIntSS (a_ : List (List Int)) (k : Int) : Option (Int × (List (List Int))) :=
  (iter (S := Int × Int × (List (List Int))) (R := Int × (List (List Int))) (fun s37 =>
  (bif (decide (s37.2.1 < (s37.2.2.length : Int))) then (idx s37.2.2 s37.2.1).bind fun x46 =>
  (s_laws_markIntS x46 s37.1).bind fun r51 =>
  some (.nx (r51.1, w64 (s37.2.1 + 1), List.set s37.2.2 (Int.toNat s37.2.1) r51.2)) else some (.br (s37.1, s37.2.1, s37.2.2)))) FU (k, 0, a_)).bind fun o41 => after o41 (fun r_ => some r_) (fun s37 =>
  some (s37.1, s37.2.2))
set_option maxHeartbeats 4000000 in
theorem c_laws_markIntSS {M : Nat → Prop} {w : World} {pa0 : Option Addr} {pn0 pc0 : Nat} {pf0 : List Nat} (a_ : List (List Int)) (k : Int) (h0 : (RT.os 47 (RT.os 3 (RT.int .i64))).val M w (.slice pa0 pn0 pc0) a_ pf0) (hI : Own (Nw w (pf0 ++ ([]))) M w (pf0 ++ ([]))) (hM : ∀ g, w.heap.size ≤ g → M g) {r : Int × (List (List Int))} (hs : s_laws_markIntSS a_ k = some r) :
    Gives Tryz.prog 33 [(.slice pa0 pn0 pc0), (.int .i64 k)] w (fun v w' => ∃ (rfi0 : List Nat), v = (.int .i64 r.1) ∧ Chg (pf0 ++ ([])) w w' ∧ (RT.os 47 (RT.os 3 (RT.int .i64))).val M w' (.slice pa0 pn0 pc0) r.2 rfi0 ∧ Own (Nw w (pf0 ++ ([]))) (fun _ => True) w' (rfi0 ++ ([]))) := by
 refine calls_fr Tryz.func33 rfl Tryz.ntmps33 (Nat.le_of_ble_eq_true rfl) ?_
 have hO := hI
 have hC := Chg.refl (pf0 ++ ([])) w
 unfold s_laws_markIntSS at hs
 refine wp_mono (Q := KPost (k_laws_markIntSS M w pa0 pn0 pc0 pf0 r)) ?_ (fun e a w1 h => ?_)
 rotate_left
 ·cases e
  case ret =>
   obtain ⟨σ, rfi0, rfl, hrest⟩ := h
   exact ret1x Tryz.results33 (res_tmp rfl) ⟨rfi0, rfl, hrest⟩
  all_goals exact (h : False).elim
 refine c_seq (c_region ?_)
 refine pl_val (.int .i64 0) (y_assign rfl) ?_
 refine c_nil ?_
 refine c_seq ?_
 refine c_seq (c_region ?_)
 refine pl_val (.int .i64 0) (y_assign rfl) ?_
 refine c_nil ?_
 obtain ⟨o41, hl42, hs⟩ := bind_some hs
 refine wp_block ?_
 refine wp_iter (id := 0) (I := fun s37 a w38 => ∃ (σ : Nat → Value) (f43 : List Nat), a = fr 19 (ovl σ [(0, (.slice pa0 pn0 pc0)), (1, (.int .i64 s37.1)), (5, (.int .i64 s37.2.1))]) ∧ Chg (pf0 ++ ([])) w w38 ∧ Own (Nw w (pf0 ++ ([]))) M w38 (f43 ++ []) ∧ (RT.os 47 (RT.os 3 (RT.int .i64))).val M w38 (.slice pa0 pn0 pc0) s37.2.2 f43) (J := fun s37 a w38 => ∃ (σ : Nat → Value) (f44 : List Nat), a = fr 19 (ovl σ [(1, (.int .i64 s37.1))]) ∧ Chg (pf0 ++ ([])) w w38 ∧ Own (Nw w (pf0 ++ ([]))) M w38 (f44 ++ []) ∧ (RT.os 47 (RT.os 3 (RT.int .i64))).val M w38 (.slice pa0 pn0 pc0) s37.2.2 f44) (K := (k_laws_markIntSS M w pa0 pn0 pc0 pf0)) ?_ FU (k, 0, a_) o41 _ _ ?_ hl42 ?_
 ·rintro s37 o41 a w38 ⟨σ, f43, rfl, hC, hO, hv43⟩ hs
  refine c_seq ?_
  refine c_seq (c_region ?_)
  refine pl_val (.int .i64 s37.2.1) (y_move rfl) ?_
  refine pl_val (.slice pa0 pn0 pc0) (y_move rfl) ?_
  refine pl_val (.int .i64 (s37.2.2.length : Int)) (y_len' Sl43 (os_len hv43) rfl) ?_
  refine pl_val (.bool (decide (s37.2.1 < (s37.2.2.length : Int)))) (y_lss rfl rfl) ?_
  refine c_nil ?_
  rcases bif_some hs with ⟨hc45, hs⟩ | ⟨hc45, hs⟩
  ·skip
   refine c_condT (congrArg Value.bool hc45) ?_
   refine wp_skip ?_
   refine c_seq ?_
   refine wp_block ?_
   refine c_region ?_
   refine pl_val (.slice pa0 pn0 pc0) (y_move rfl) ?_
   refine pl_val (.int .i64 s37.2.1) (y_move rfl) ?_
   obtain ⟨x46, hx46, hs⟩ := bind_some hs
   obtain ⟨g47, f47, hg47, hk47, hp47, ha47, hf47⟩ := os_idx Sl43 Sz47 hv43 hx46
   have hb47 := own_row (Frz.os Frz.int) ha47 hf47
   refine pl_val (.pointer (some ⟨g47, 0 + Int.toNat s37.2.1 * 1, none⟩)) (hp47 _ _ _ _ _ _ _ _ _ rfl rfl) ?_
   obtain ⟨v48, hl48, hrow48, hv48⟩ := at_load1 Ag47 Sz47 rfl rfl hb47
   obtain ⟨a48, n48, c48, rfl⟩ := rs_sl hv48
   refine pl_val (.slice a48 n48 c48) (y_load rfl (hl48 _ (Chg.refl _ _))) ?_
   refine pl_val (.int .i64 s37.1) (y_move rfl) ?_
   obtain ⟨fg50, hrr50, hsf50, hnf50, hput50⟩ := os_put hg47 hv43 hx46 hrow48 rfl hO.inM
   have hg50x0 : (RT.os 3 (RT.int .i64)).val M w38 (.slice a48 n48 c48) x46 fg50 := ⟨[_], rfl, hrr50⟩
   have hfs50 : ∀ q ∈ (fg50 ++ ([])), q ∈ f43 := fun q hq => hsf50 q (by simpa using hq)
   have hfn50 : List.Nodup (fg50 ++ ([])) := by simpa using hnf50
   have hL50 := hO
   have hI50 := Own.part (X := (fg50 ++ ([]))) (hL50) hfs50 hfn50
   obtain ⟨r51, hr51, hs⟩ := bind_some hs
   refine pl_call Bd59 rfl (c_laws_markIntS (M := M) x46 s37.1 hg50x0 hI50 hI50.fut hr51) ?_
   rintro _ w50 ⟨fi50x0, rfl, hC50, hvi50x0, hOc50⟩
   obtain ⟨fq50, hvq50, hsq50⟩ := hput50 w50 (fg50 ++ ([])) r51.2 fi50x0 hC50 (fun q hq => by simpa using hq) (os_unval hvi50x0) (by simpa using hOc50.1) (fun q hq => (hOc50.2.1 q (by simpa using hq)).2.2.imp (fun h => by simpa using h) id)
   have hC := hC.step hC50 (fun g hg => hO.inN g (hfs50 g hg))
   have hO := hO.grow hC50 hsq50 (os_nodup hvq50) hvq50.fpl
   refine pl_val (.int .i64 r51.1) (y_assign rfl) ?_
   refine c_nil ?_
   refine c_region ?_
   refine pl_val (.int .i64 s37.2.1) (y_move rfl) ?_
   refine pl_val (.int .i64 (w64 (s37.2.1 + 1))) (y_add rfl rfl) ?_
   refine pl_val (.int .i64 (w64 (s37.2.1 + 1))) (y_assign rfl) ?_
   refine c_nil ?_
   cases hs
   exact ⟨_, fq50, fr_ovl 19 ⟨rfl, rfl, rfl, trivial⟩, hC, hO, hvq50⟩
  ·skip
   refine c_condF (congrArg Value.bool hc45) ?_
   refine wp_exit ?_
   cases hs
   exact ⟨rfl, _, f43, fr_ovl 19 ⟨rfl, trivial⟩, hC, hO, hv43⟩
 ·skip
  exact ⟨_, pf0, fr_ovl 19 ⟨rfl, rfl, rfl, trivial⟩, hC, hO, h0⟩
 ·cases o41 with
  | nx _ => exact True.intro
  | rt r_ =>
   have hs := after_rt hs
   intro a1 w1 hK
   cases hs
   exact hK
  | br s37 =>
   have hs := after_br hs
   rintro a1 w38 ⟨σ, f44, rfl, hC, hO, hv44⟩
   refine c_seq (c_region ?_)
   refine pl_val (.int .i64 s37.1) (y_move rfl) ?_
   refine pl_val (.int .i64 s37.1) (y_assign rfl) ?_
   refine c_nil ?_
   refine wp_ret ?_
   cases hs
   exact ⟨_, f44, fr_ovl 19 ⟨rfl, trivial⟩, hC, hv44, hO.top⟩

theorem Bd33 : Bodied Tryz.prog 33 := bodied Tryz.func33 (by kernel_rfl) rfl

def k_laws_markIntSSS (M : Nat → Prop) (w0 : World) (qa0 : Option Addr) (qn0 qc0 : Nat) (qf0 : List Nat) (r : Int × (List (List (List Int)))) (a : Act) (w : World) : Prop :=
  ∃ (σ : Nat → Value) (rfi0 : List Nat), a = fr 19 (ovl σ [(4, (.int .i64 r.1))]) ∧ Chg (qf0 ++ ([])) w0 w ∧ (RT.os 43 (RT.os 47 (RT.os 3 (RT.int .i64)))).val M w (.slice qa0 qn0 qc0) r.2 rfi0 ∧ Own (Nw w0 (qf0 ++ ([]))) (fun _ => True) w (rfi0 ++ ([]))
def s_laws_markIntSSS (a_ : List (List (List Int))) (k : Int) : Option (Int × (List (List (List Int)))) :=
  (iter (S := Int × Int × (List (List (List Int)))) (R := Int × (List (List (List Int)))) (fun s37 =>
  (bif (decide (s37.2.1 < (s37.2.2.length : Int))) then (idx s37.2.2 s37.2.1).bind fun x46 =>
  (s_laws_markIntSS x46 s37.1).bind fun r51 =>
  some (.nx (r51.1, w64 (s37.2.1 + 1), List.set s37.2.2 (Int.toNat s37.2.1) r51.2)) else some (.br (s37.1, s37.2.1, s37.2.2)))) FU (k, 0, a_)).bind fun o41 => after o41 (fun r_ => some r_) (fun s37 =>
  some (s37.1, s37.2.2))
set_option maxHeartbeats 4000000 in
theorem c_laws_markIntSSS {M : Nat → Prop} {w : World} {pa0 : Option Addr} {pn0 pc0 : Nat} {pf0 : List Nat} (a_ : List (List (List Int))) (k : Int) (h0 : (RT.os 43 (RT.os 47 (RT.os 3 (RT.int .i64)))).val M w (.slice pa0 pn0 pc0) a_ pf0) (hI : Own (Nw w (pf0 ++ ([]))) M w (pf0 ++ ([]))) (hM : ∀ g, w.heap.size ≤ g → M g) {r : Int × (List (List (List Int)))} (hs : s_laws_markIntSSS a_ k = some r) :
    Gives Tryz.prog 14 [(.slice pa0 pn0 pc0), (.int .i64 k)] w (fun v w' => ∃ (rfi0 : List Nat), v = (.int .i64 r.1) ∧ Chg (pf0 ++ ([])) w w' ∧ (RT.os 43 (RT.os 47 (RT.os 3 (RT.int .i64)))).val M w' (.slice pa0 pn0 pc0) r.2 rfi0 ∧ Own (Nw w (pf0 ++ ([]))) (fun _ => True) w' (rfi0 ++ ([]))) := by
 refine calls_fr Tryz.func14 rfl Tryz.ntmps14 (Nat.le_of_ble_eq_true rfl) ?_
 have hO := hI
 have hC := Chg.refl (pf0 ++ ([])) w
 unfold s_laws_markIntSSS at hs
 refine wp_mono (Q := KPost (k_laws_markIntSSS M w pa0 pn0 pc0 pf0 r)) ?_ (fun e a w1 h => ?_)
 rotate_left
 ·cases e
  case ret =>
   obtain ⟨σ, rfi0, rfl, hrest⟩ := h
   exact ret1x Tryz.results14 (res_tmp rfl) ⟨rfi0, rfl, hrest⟩
  all_goals exact (h : False).elim
 refine c_seq (c_region ?_)
 refine pl_val (.int .i64 0) (y_assign rfl) ?_
 refine c_nil ?_
 refine c_seq ?_
 refine c_seq (c_region ?_)
 refine pl_val (.int .i64 0) (y_assign rfl) ?_
 refine c_nil ?_
 obtain ⟨o41, hl42, hs⟩ := bind_some hs
 refine wp_block ?_
 refine wp_iter (id := 0) (I := fun s37 a w38 => ∃ (σ : Nat → Value) (f43 : List Nat), a = fr 19 (ovl σ [(0, (.slice pa0 pn0 pc0)), (1, (.int .i64 s37.1)), (5, (.int .i64 s37.2.1))]) ∧ Chg (pf0 ++ ([])) w w38 ∧ Own (Nw w (pf0 ++ ([]))) M w38 (f43 ++ []) ∧ (RT.os 43 (RT.os 47 (RT.os 3 (RT.int .i64)))).val M w38 (.slice pa0 pn0 pc0) s37.2.2 f43) (J := fun s37 a w38 => ∃ (σ : Nat → Value) (f44 : List Nat), a = fr 19 (ovl σ [(1, (.int .i64 s37.1))]) ∧ Chg (pf0 ++ ([])) w w38 ∧ Own (Nw w (pf0 ++ ([]))) M w38 (f44 ++ []) ∧ (RT.os 43 (RT.os 47 (RT.os 3 (RT.int .i64)))).val M w38 (.slice pa0 pn0 pc0) s37.2.2 f44) (K := (k_laws_markIntSSS M w pa0 pn0 pc0 pf0)) ?_ FU (k, 0, a_) o41 _ _ ?_ hl42 ?_
 ·rintro s37 o41 a w38 ⟨σ, f43, rfl, hC, hO, hv43⟩ hs
  refine c_seq ?_
  refine c_seq (c_region ?_)
  refine pl_val (.int .i64 s37.2.1) (y_move rfl) ?_
  refine pl_val (.slice pa0 pn0 pc0) (y_move rfl) ?_
  refine pl_val (.int .i64 (s37.2.2.length : Int)) (y_len' Sl34 (os_len hv43) rfl) ?_
  refine pl_val (.bool (decide (s37.2.1 < (s37.2.2.length : Int)))) (y_lss rfl rfl) ?_
  refine c_nil ?_
  rcases bif_some hs with ⟨hc45, hs⟩ | ⟨hc45, hs⟩
  ·skip
   refine c_condT (congrArg Value.bool hc45) ?_
   refine wp_skip ?_
   refine c_seq ?_
   refine wp_block ?_
   refine c_region ?_
   refine pl_val (.slice pa0 pn0 pc0) (y_move rfl) ?_
   refine pl_val (.int .i64 s37.2.1) (y_move rfl) ?_
   obtain ⟨x46, hx46, hs⟩ := bind_some hs
   obtain ⟨g47, f47, hg47, hk47, hp47, ha47, hf47⟩ := os_idx Sl34 Sz43 hv43 hx46
   have hb47 := own_row (Frz.os (Frz.os Frz.int)) ha47 hf47
   refine pl_val (.pointer (some ⟨g47, 0 + Int.toNat s37.2.1 * 1, none⟩)) (hp47 _ _ _ _ _ _ _ _ _ rfl rfl) ?_
   obtain ⟨v48, hl48, hrow48, hv48⟩ := at_load1 Ag43 Sz43 rfl rfl hb47
   obtain ⟨a48, n48, c48, rfl⟩ := rs_sl hv48
   refine pl_val (.slice a48 n48 c48) (y_load rfl (hl48 _ (Chg.refl _ _))) ?_
   refine pl_val (.int .i64 s37.1) (y_move rfl) ?_
   obtain ⟨fg50, hrr50, hsf50, hnf50, hput50⟩ := os_put hg47 hv43 hx46 hrow48 rfl hO.inM
   have hg50x0 : (RT.os 47 (RT.os 3 (RT.int .i64))).val M w38 (.slice a48 n48 c48) x46 fg50 := ⟨[_], rfl, hrr50⟩
   have hfs50 : ∀ q ∈ (fg50 ++ ([])), q ∈ f43 := fun q hq => hsf50 q (by simpa using hq)
   have hfn50 : List.Nodup (fg50 ++ ([])) := by simpa using hnf50
   have hL50 := hO
   have hI50 := Own.part (X := (fg50 ++ ([]))) (hL50) hfs50 hfn50
   obtain ⟨r51, hr51, hs⟩ := bind_some hs
   refine pl_call Bd33 rfl (c_laws_markIntSS (M := M) x46 s37.1 hg50x0 hI50 hI50.fut hr51) ?_
   rintro _ w50 ⟨fi50x0, rfl, hC50, hvi50x0, hOc50⟩
   obtain ⟨fq50, hvq50, hsq50⟩ := hput50 w50 (fg50 ++ ([])) r51.2 fi50x0 hC50 (fun q hq => by simpa using hq) (os_unval hvi50x0) (by simpa using hOc50.1) (fun q hq => (hOc50.2.1 q (by simpa using hq)).2.2.imp (fun h => by simpa using h) id)
   have hC := hC.step hC50 (fun g hg => hO.inN g (hfs50 g hg))
   have hO := hO.grow hC50 hsq50 (os_nodup hvq50) hvq50.fpl
   refine pl_val (.int .i64 r51.1) (y_assign rfl) ?_
   refine c_nil ?_
   refine c_region ?_
   refine pl_val (.int .i64 s37.2.1) (y_move rfl) ?_
   refine pl_val (.int .i64 (w64 (s37.2.1 + 1))) (y_add rfl rfl) ?_
   refine pl_val (.int .i64 (w64 (s37.2.1 + 1))) (y_assign rfl) ?_
   refine c_nil ?_
   cases hs
   exact ⟨_, fq50, fr_ovl 19 ⟨rfl, rfl, rfl, trivial⟩, hC, hO, hvq50⟩
  ·skip
   refine c_condF (congrArg Value.bool hc45) ?_
   refine wp_exit ?_
   cases hs
   exact ⟨rfl, _, f43, fr_ovl 19 ⟨rfl, trivial⟩, hC, hO, hv43⟩
 ·skip
  exact ⟨_, pf0, fr_ovl 19 ⟨rfl, rfl, rfl, trivial⟩, hC, hO, h0⟩
 ·cases o41 with
  | nx _ => exact True.intro
  | rt r_ =>
   have hs := after_rt hs
   intro a1 w1 hK
   cases hs
   exact hK
  | br s37 =>
   have hs := after_br hs
   rintro a1 w38 ⟨σ, f44, rfl, hC, hO, hv44⟩
   refine c_seq (c_region ?_)
   refine pl_val (.int .i64 s37.1) (y_move rfl) ?_
   refine pl_val (.int .i64 s37.1) (y_assign rfl) ?_
   refine c_nil ?_
   refine wp_ret ?_
   cases hs
   exact ⟨_, f44, fr_ovl 19 ⟨rfl, trivial⟩, hC, hv44, hO.top⟩

def k_laws_heldIntS (M : Nat → Prop) (w0 : World) (r : Int) (a : Act) (w : World) : Prop :=
  ∃ (σ : Nat → Value) , a = fr 21 (ovl σ [(4, (.int .i64 r))]) ∧ Chg [] w0 w
def s_laws_heldIntS (a_ : List Int) (k : Int) : Option (Int) :=
  (forC (S := Int) (R := Int) (fun k7 s5 =>
  (idx a_ k7).bind fun x11 =>
  (bif (x11 != s5) then some (.rt (-1)) else some (.nx (w64 (s5 + 1))))) 0 (a_.length : Int) k).bind fun o9 => after o9 (fun r_ => some r_) (fun s5 =>
  some s5)
set_option maxHeartbeats 4000000 in
theorem c_laws_heldIntS {M : Nat → Prop} {w : World} {pa0 : Option Addr} {pn0 pc0 : Nat} (a_ : List Int) (k : Int) (h0 : (RT.rs (RT.int .i64)).val M w (.slice pa0 pn0 pc0) a_ ([])) (hM : ∀ g, w.heap.size ≤ g → M g) {r : Int} (hs : s_laws_heldIntS a_ k = some r) :
    Gives Tryz.prog 60 [(.slice pa0 pn0 pc0), (.int .i64 k)] w (fun v w' => v = (.int .i64 r) ∧ Chg [] w w') := by
 refine calls_fr Tryz.func60 rfl Tryz.ntmps60 (Nat.le_of_ble_eq_true rfl) ?_
 have hO := Own.start (N := Nw w []) hM Nw.fut
 have hC := Chg.refl [] w
 unfold s_laws_heldIntS at hs
 refine wp_mono (Q := KPost (k_laws_heldIntS M w r)) ?_ (fun e a w1 h => ?_)
 rotate_left
 ·cases e
  case ret =>
   obtain ⟨σ, rfl, hrest⟩ := h
   exact ret1x Tryz.results60 (res_tmp rfl) ⟨rfl, hrest⟩
  all_goals exact (h : False).elim
 refine c_seq (c_region ?_)
 refine pl_val (.int .i64 0) (y_assign rfl) ?_
 refine c_nil ?_
 refine c_seq ?_
 refine c_seq (c_region ?_)
 refine pl_val (.int .i64 0) (y_assign rfl) ?_
 refine c_nil ?_
 obtain ⟨o9, hl10, hs⟩ := bind_some hs
 refine wp_block ?_
 refine wp_forC (id := 0) (a_.length : Int) (I := fun k7 s5 a w6 => ∃ (σ : Nat → Value), a = fr 21 (ovl σ [(0, (.slice pa0 pn0 pc0)), (1, (.int .i64 s5)), (5, (.int .i64 k7))]) ∧ Chg [] w w6 ∧ Own (Nw w []) M w6 ([]) ∧ (RT.rs (RT.int .i64)).val M w6 (.slice pa0 pn0 pc0) a_ ([])) (J := fun s5 a w6 => ∃ (σ : Nat → Value), a = fr 21 (ovl σ [(1, (.int .i64 s5))]) ∧ Chg [] w w6 ∧ Own (Nw w []) M w6 ([]) ∧ (RT.rs (RT.int .i64)).val M w6 (.slice pa0 pn0 pc0) a_ ([])) (K := (k_laws_heldIntS M w)) ?_ ?_ 0 k o9 _ _ ?_ hl10 ?_
 ·rintro k7 s5 a w6 ⟨σ, rfl, hC, hO, h0⟩ hlt
  refine c_seq ?_
  refine c_seq (c_region ?_)
  refine pl_val (.int .i64 k7) (y_move rfl) ?_
  refine pl_val (.slice pa0 pn0 pc0) (y_move rfl) ?_
  refine pl_val (.int .i64 (a_.length : Int)) (y_len' Sl47 (rs_len h0) rfl) ?_
  refine pl_val (.bool (decide (k7 < (a_.length : Int)))) (y_lss rfl rfl) ?_
  refine c_nil ?_
  refine c_condF (congrArg Value.bool (decide_eq_false hlt)) ?_
  refine wp_exit ?_
  exact ⟨rfl, _, fr_ovl 21 ⟨rfl, trivial⟩, hC, hO, h0⟩
 ·rintro k7 s5 o9 a w6 ⟨σ, rfl, hC, hO, h0⟩ hlt hw hs
  refine c_seq ?_
  refine c_seq (c_region ?_)
  refine pl_val (.int .i64 k7) (y_move rfl) ?_
  refine pl_val (.slice pa0 pn0 pc0) (y_move rfl) ?_
  refine pl_val (.int .i64 (a_.length : Int)) (y_len' Sl47 (rs_len h0) rfl) ?_
  refine pl_val (.bool (decide (k7 < (a_.length : Int)))) (y_lss rfl rfl) ?_
  refine c_nil ?_
  refine c_condT (congrArg Value.bool (decide_eq_true hlt)) ?_
  refine wp_skip ?_
  refine c_seq ?_
  refine wp_block ?_
  refine c_seq ?_
  refine c_seq (c_region ?_)
  refine pl_val (.slice pa0 pn0 pc0) (y_move rfl) ?_
  refine pl_val (.int .i64 k7) (y_move rfl) ?_
  obtain ⟨x11, hx11, hs⟩ := bind_some hs
  obtain ⟨b12, o12, hp12, ha12⟩ := rs_idx Sl47 Sz3 h0 hx11
  refine pl_val (.pointer (some ⟨b12, o12, none⟩)) (hp12 _ _ _ _ _ _ _ _ _ rfl rfl) ?_
  refine pl_val (.int .i64 x11) (y_load rfl ((at_load_int Ag3 Sz3 ha12) _ (Chg.refl _ _))) ?_
  refine pl_val (.int .i64 s5) (y_move rfl) ?_
  refine pl_val (.bool (x11 != s5)) (y_neq rfl rfl) ?_
  refine c_nil ?_
  rcases bif_some hs with ⟨hc13, hs⟩ | ⟨hc13, hs⟩
  ·skip
   refine c_condT (congrArg Value.bool hc13) ?_
   refine c_seq (c_region ?_)
   refine pl_val (.int .i64 (-1)) (y_assign rfl) ?_
   refine c_nil ?_
   refine wp_ret ?_
   cases hs
   exact ⟨_, fr_ovl 21 ⟨rfl, trivial⟩, hC⟩
  ·skip
   refine c_condF (congrArg Value.bool hc13) ?_
   refine wp_skip ?_
   refine c_region ?_
   refine pl_val (.int .i64 s5) (y_move rfl) ?_
   refine pl_val (.int .i64 (w64 (s5 + 1))) (y_add rfl rfl) ?_
   refine pl_val (.int .i64 (w64 (s5 + 1))) (y_assign rfl) ?_
   refine c_nil ?_
   refine c_region ?_
   refine pl_val (.int .i64 k7) (y_move rfl) ?_
   refine pl_val (.int .i64 (w64 (k7 + 1))) (y_add rfl rfl) ?_
   refine pl_val (.int .i64 (w64 (k7 + 1))) (y_assign rfl) ?_
   refine c_nil ?_
   cases hs
   exact ⟨_, fr_ovl 21 ⟨rfl, rfl, congrArg (Value.int .i64) hw, trivial⟩, hC, hO, h0⟩
 ·skip
  exact ⟨_, fr_ovl 21 ⟨rfl, rfl, rfl, trivial⟩, hC, hO, h0⟩
 ·cases o9 with
  | nx _ => exact True.intro
  | rt r_ =>
   have hs := after_rt hs
   intro a1 w1 hK
   cases hs
   exact hK
  | br s5 =>
   have hs := after_br hs
   rintro a1 w6 ⟨σ, rfl, hC, hO, h0⟩
   refine c_seq (c_region ?_)
   refine pl_val (.int .i64 s5) (y_move rfl) ?_
   refine pl_val (.int .i64 s5) (y_assign rfl) ?_
   refine c_nil ?_
   refine wp_ret ?_
   cases hs
   exact ⟨_, fr_ovl 21 ⟨rfl, trivial⟩, hC⟩

theorem Bd60 : Bodied Tryz.prog 60 := bodied Tryz.func60 (by kernel_rfl) rfl

def k_laws_heldIntSS (M : Nat → Prop) (w0 : World) (r : Int) (a : Act) (w : World) : Prop :=
  ∃ (σ : Nat → Value) , a = fr 21 (ovl σ [(4, (.int .i64 r))]) ∧ Chg [] w0 w
def s_laws_heldIntSS (a_ : List (List Int)) (k : Int) : Option (Int) :=
  (forC (S := Int) (R := Int) (fun k11 s9 =>
  (idx a_ k11).bind fun x15 =>
  (s_laws_heldIntS x15 s9).bind fun r20 =>
  (bif (decide (r20 < 0)) then some (.rt (-1)) else some (.nx r20))) 0 (a_.length : Int) k).bind fun o13 => after o13 (fun r_ => some r_) (fun s9 =>
  some s9)
set_option maxHeartbeats 4000000 in
theorem c_laws_heldIntSS {M : Nat → Prop} {w : World} {pa0 : Option Addr} {pn0 pc0 : Nat} (a_ : List (List Int)) (k : Int) (h0 : (RT.rs (RT.rs (RT.int .i64))).val M w (.slice pa0 pn0 pc0) a_ ([])) (hM : ∀ g, w.heap.size ≤ g → M g) {r : Int} (hs : s_laws_heldIntSS a_ k = some r) :
    Gives Tryz.prog 34 [(.slice pa0 pn0 pc0), (.int .i64 k)] w (fun v w' => v = (.int .i64 r) ∧ Chg [] w w') := by
 refine calls_fr Tryz.func34 rfl Tryz.ntmps34 (Nat.le_of_ble_eq_true rfl) ?_
 have hO := Own.start (N := Nw w []) hM Nw.fut
 have hC := Chg.refl [] w
 unfold s_laws_heldIntSS at hs
 refine wp_mono (Q := KPost (k_laws_heldIntSS M w r)) ?_ (fun e a w1 h => ?_)
 rotate_left
 ·cases e
  case ret =>
   obtain ⟨σ, rfl, hrest⟩ := h
   exact ret1x Tryz.results34 (res_tmp rfl) ⟨rfl, hrest⟩
  all_goals exact (h : False).elim
 refine c_seq (c_region ?_)
 refine pl_val (.int .i64 0) (y_assign rfl) ?_
 refine c_nil ?_
 refine c_seq ?_
 refine c_seq (c_region ?_)
 refine pl_val (.int .i64 0) (y_assign rfl) ?_
 refine c_nil ?_
 obtain ⟨o13, hl14, hs⟩ := bind_some hs
 refine wp_block ?_
 refine wp_forC (id := 0) (a_.length : Int) (I := fun k11 s9 a w10 => ∃ (σ : Nat → Value), a = fr 21 (ovl σ [(0, (.slice pa0 pn0 pc0)), (1, (.int .i64 s9)), (5, (.int .i64 k11))]) ∧ Chg [] w w10 ∧ Own (Nw w []) M w10 ([]) ∧ (RT.rs (RT.rs (RT.int .i64))).val M w10 (.slice pa0 pn0 pc0) a_ ([])) (J := fun s9 a w10 => ∃ (σ : Nat → Value), a = fr 21 (ovl σ [(1, (.int .i64 s9))]) ∧ Chg [] w w10 ∧ Own (Nw w []) M w10 ([]) ∧ (RT.rs (RT.rs (RT.int .i64))).val M w10 (.slice pa0 pn0 pc0) a_ ([])) (K := (k_laws_heldIntSS M w)) ?_ ?_ 0 k o13 _ _ ?_ hl14 ?_
 ·rintro k11 s9 a w10 ⟨σ, rfl, hC, hO, h0⟩ hlt
  refine c_seq ?_
  refine c_seq (c_region ?_)
  refine pl_val (.int .i64 k11) (y_move rfl) ?_
  refine pl_val (.slice pa0 pn0 pc0) (y_move rfl) ?_
  refine pl_val (.int .i64 (a_.length : Int)) (y_len' Sl43 (rs_len h0) rfl) ?_
  refine pl_val (.bool (decide (k11 < (a_.length : Int)))) (y_lss rfl rfl) ?_
  refine c_nil ?_
  refine c_condF (congrArg Value.bool (decide_eq_false hlt)) ?_
  refine wp_exit ?_
  exact ⟨rfl, _, fr_ovl 21 ⟨rfl, trivial⟩, hC, hO, h0⟩
 ·rintro k11 s9 o13 a w10 ⟨σ, rfl, hC, hO, h0⟩ hlt hw hs
  refine c_seq ?_
  refine c_seq (c_region ?_)
  refine pl_val (.int .i64 k11) (y_move rfl) ?_
  refine pl_val (.slice pa0 pn0 pc0) (y_move rfl) ?_
  refine pl_val (.int .i64 (a_.length : Int)) (y_len' Sl43 (rs_len h0) rfl) ?_
  refine pl_val (.bool (decide (k11 < (a_.length : Int)))) (y_lss rfl rfl) ?_
  refine c_nil ?_
  refine c_condT (congrArg Value.bool (decide_eq_true hlt)) ?_
  refine wp_skip ?_
  refine c_seq ?_
  refine wp_block ?_
  refine c_seq (c_region ?_)
  refine pl_val (.slice pa0 pn0 pc0) (y_move rfl) ?_
  refine pl_val (.int .i64 k11) (y_move rfl) ?_
  obtain ⟨x15, hx15, hs⟩ := bind_some hs
  obtain ⟨b16, o16, hp16, ha16⟩ := rs_idx Sl43 Sz47 h0 hx15
  refine pl_val (.pointer (some ⟨b16, o16, none⟩)) (hp16 _ _ _ _ _ _ _ _ _ rfl rfl) ?_
  obtain ⟨v17, hl17, hv17⟩ := at_load Ag47 Sz47 (fun _ => rfl) ha16
  obtain ⟨a17, n17, c17, rfl⟩ := rs_sl hv17
  refine pl_val (.slice a17 n17 c17) (y_load rfl (hl17 _ (Chg.refl _ _))) ?_
  refine pl_val (.int .i64 s9) (y_move rfl) ?_
  obtain ⟨r20, hr20, hs⟩ := bind_some hs
  refine pl_call Bd60 rfl (c_laws_heldIntS (M := M) x15 s9 hv17 hO.fut hr20) ?_
  rintro _ w19 ⟨rfl, hC19⟩
  have h0 := h0.ext hC19
  have hv17 := hv17.ext hC19
  have hC := hC.ext hC19
  have hO := hO.ext hC19
  refine pl_val (.int .i64 r20) (y_assign rfl) ?_
  refine c_nil ?_
  refine c_seq (c_region ?_)
  refine pl_val (.int .i64 r20) (y_move rfl) ?_
  refine pl_val (.bool (decide (r20 < 0))) (y_lss rfl rfl) ?_
  refine c_nil ?_
  rcases bif_some hs with ⟨hc21, hs⟩ | ⟨hc21, hs⟩
  ·skip
   refine c_condT (congrArg Value.bool hc21) ?_
   refine c_seq (c_region ?_)
   refine pl_val (.int .i64 (-1)) (y_assign rfl) ?_
   refine c_nil ?_
   refine wp_ret ?_
   cases hs
   exact ⟨_, fr_ovl 21 ⟨rfl, trivial⟩, hC⟩
  ·skip
   refine c_condF (congrArg Value.bool hc21) ?_
   refine wp_skip ?_
   refine c_region ?_
   refine pl_val (.int .i64 k11) (y_move rfl) ?_
   refine pl_val (.int .i64 (w64 (k11 + 1))) (y_add rfl rfl) ?_
   refine pl_val (.int .i64 (w64 (k11 + 1))) (y_assign rfl) ?_
   refine c_nil ?_
   cases hs
   exact ⟨_, fr_ovl 21 ⟨rfl, rfl, congrArg (Value.int .i64) hw, trivial⟩, hC, hO, h0⟩
 ·skip
  exact ⟨_, fr_ovl 21 ⟨rfl, rfl, rfl, trivial⟩, hC, hO, h0⟩
 ·cases o13 with
  | nx _ => exact True.intro
  | rt r_ =>
   have hs := after_rt hs
   intro a1 w1 hK
   cases hs
   exact hK
  | br s9 =>
   have hs := after_br hs
   rintro a1 w10 ⟨σ, rfl, hC, hO, h0⟩
   refine c_seq (c_region ?_)
   refine pl_val (.int .i64 s9) (y_move rfl) ?_
   refine pl_val (.int .i64 s9) (y_assign rfl) ?_
   refine c_nil ?_
   refine wp_ret ?_
   cases hs
   exact ⟨_, fr_ovl 21 ⟨rfl, trivial⟩, hC⟩

theorem Bd34 : Bodied Tryz.prog 34 := bodied Tryz.func34 (by kernel_rfl) rfl

def k_laws_heldIntSSS (M : Nat → Prop) (w0 : World) (r : Int) (a : Act) (w : World) : Prop :=
  ∃ (σ : Nat → Value) , a = fr 21 (ovl σ [(4, (.int .i64 r))]) ∧ Chg [] w0 w
def s_laws_heldIntSSS (a_ : List (List (List Int))) (k : Int) : Option (Int) :=
  (forC (S := Int) (R := Int) (fun k11 s9 =>
  (idx a_ k11).bind fun x15 =>
  (s_laws_heldIntSS x15 s9).bind fun r20 =>
  (bif (decide (r20 < 0)) then some (.rt (-1)) else some (.nx r20))) 0 (a_.length : Int) k).bind fun o13 => after o13 (fun r_ => some r_) (fun s9 =>
  some s9)
set_option maxHeartbeats 4000000 in
theorem c_laws_heldIntSSS {M : Nat → Prop} {w : World} {pa0 : Option Addr} {pn0 pc0 : Nat} (a_ : List (List (List Int))) (k : Int) (h0 : (RT.rs (RT.rs (RT.rs (RT.int .i64)))).val M w (.slice pa0 pn0 pc0) a_ ([])) (hM : ∀ g, w.heap.size ≤ g → M g) {r : Int} (hs : s_laws_heldIntSSS a_ k = some r) :
    Gives Tryz.prog 15 [(.slice pa0 pn0 pc0), (.int .i64 k)] w (fun v w' => v = (.int .i64 r) ∧ Chg [] w w') := by
 refine calls_fr Tryz.func15 rfl Tryz.ntmps15 (Nat.le_of_ble_eq_true rfl) ?_
 have hO := Own.start (N := Nw w []) hM Nw.fut
 have hC := Chg.refl [] w
 unfold s_laws_heldIntSSS at hs
 refine wp_mono (Q := KPost (k_laws_heldIntSSS M w r)) ?_ (fun e a w1 h => ?_)
 rotate_left
 ·cases e
  case ret =>
   obtain ⟨σ, rfl, hrest⟩ := h
   exact ret1x Tryz.results15 (res_tmp rfl) ⟨rfl, hrest⟩
  all_goals exact (h : False).elim
 refine c_seq (c_region ?_)
 refine pl_val (.int .i64 0) (y_assign rfl) ?_
 refine c_nil ?_
 refine c_seq ?_
 refine c_seq (c_region ?_)
 refine pl_val (.int .i64 0) (y_assign rfl) ?_
 refine c_nil ?_
 obtain ⟨o13, hl14, hs⟩ := bind_some hs
 refine wp_block ?_
 refine wp_forC (id := 0) (a_.length : Int) (I := fun k11 s9 a w10 => ∃ (σ : Nat → Value), a = fr 21 (ovl σ [(0, (.slice pa0 pn0 pc0)), (1, (.int .i64 s9)), (5, (.int .i64 k11))]) ∧ Chg [] w w10 ∧ Own (Nw w []) M w10 ([]) ∧ (RT.rs (RT.rs (RT.rs (RT.int .i64)))).val M w10 (.slice pa0 pn0 pc0) a_ ([])) (J := fun s9 a w10 => ∃ (σ : Nat → Value), a = fr 21 (ovl σ [(1, (.int .i64 s9))]) ∧ Chg [] w w10 ∧ Own (Nw w []) M w10 ([]) ∧ (RT.rs (RT.rs (RT.rs (RT.int .i64)))).val M w10 (.slice pa0 pn0 pc0) a_ ([])) (K := (k_laws_heldIntSSS M w)) ?_ ?_ 0 k o13 _ _ ?_ hl14 ?_
 ·rintro k11 s9 a w10 ⟨σ, rfl, hC, hO, h0⟩ hlt
  refine c_seq ?_
  refine c_seq (c_region ?_)
  refine pl_val (.int .i64 k11) (y_move rfl) ?_
  refine pl_val (.slice pa0 pn0 pc0) (y_move rfl) ?_
  refine pl_val (.int .i64 (a_.length : Int)) (y_len' Sl34 (rs_len h0) rfl) ?_
  refine pl_val (.bool (decide (k11 < (a_.length : Int)))) (y_lss rfl rfl) ?_
  refine c_nil ?_
  refine c_condF (congrArg Value.bool (decide_eq_false hlt)) ?_
  refine wp_exit ?_
  exact ⟨rfl, _, fr_ovl 21 ⟨rfl, trivial⟩, hC, hO, h0⟩
 ·rintro k11 s9 o13 a w10 ⟨σ, rfl, hC, hO, h0⟩ hlt hw hs
  refine c_seq ?_
  refine c_seq (c_region ?_)
  refine pl_val (.int .i64 k11) (y_move rfl) ?_
  refine pl_val (.slice pa0 pn0 pc0) (y_move rfl) ?_
  refine pl_val (.int .i64 (a_.length : Int)) (y_len' Sl34 (rs_len h0) rfl) ?_
  refine pl_val (.bool (decide (k11 < (a_.length : Int)))) (y_lss rfl rfl) ?_
  refine c_nil ?_
  refine c_condT (congrArg Value.bool (decide_eq_true hlt)) ?_
  refine wp_skip ?_
  refine c_seq ?_
  refine wp_block ?_
  refine c_seq (c_region ?_)
  refine pl_val (.slice pa0 pn0 pc0) (y_move rfl) ?_
  refine pl_val (.int .i64 k11) (y_move rfl) ?_
  obtain ⟨x15, hx15, hs⟩ := bind_some hs
  obtain ⟨b16, o16, hp16, ha16⟩ := rs_idx Sl34 Sz43 h0 hx15
  refine pl_val (.pointer (some ⟨b16, o16, none⟩)) (hp16 _ _ _ _ _ _ _ _ _ rfl rfl) ?_
  obtain ⟨v17, hl17, hv17⟩ := at_load Ag43 Sz43 (fun _ => rfl) ha16
  obtain ⟨a17, n17, c17, rfl⟩ := rs_sl hv17
  refine pl_val (.slice a17 n17 c17) (y_load rfl (hl17 _ (Chg.refl _ _))) ?_
  refine pl_val (.int .i64 s9) (y_move rfl) ?_
  obtain ⟨r20, hr20, hs⟩ := bind_some hs
  refine pl_call Bd34 rfl (c_laws_heldIntSS (M := M) x15 s9 hv17 hO.fut hr20) ?_
  rintro _ w19 ⟨rfl, hC19⟩
  have h0 := h0.ext hC19
  have hv17 := hv17.ext hC19
  have hC := hC.ext hC19
  have hO := hO.ext hC19
  refine pl_val (.int .i64 r20) (y_assign rfl) ?_
  refine c_nil ?_
  refine c_seq (c_region ?_)
  refine pl_val (.int .i64 r20) (y_move rfl) ?_
  refine pl_val (.bool (decide (r20 < 0))) (y_lss rfl rfl) ?_
  refine c_nil ?_
  rcases bif_some hs with ⟨hc21, hs⟩ | ⟨hc21, hs⟩
  ·skip
   refine c_condT (congrArg Value.bool hc21) ?_
   refine c_seq (c_region ?_)
   refine pl_val (.int .i64 (-1)) (y_assign rfl) ?_
   refine c_nil ?_
   refine wp_ret ?_
   cases hs
   exact ⟨_, fr_ovl 21 ⟨rfl, trivial⟩, hC⟩
  ·skip
   refine c_condF (congrArg Value.bool hc21) ?_
   refine wp_skip ?_
   refine c_region ?_
   refine pl_val (.int .i64 k11) (y_move rfl) ?_
   refine pl_val (.int .i64 (w64 (k11 + 1))) (y_add rfl rfl) ?_
   refine pl_val (.int .i64 (w64 (k11 + 1))) (y_assign rfl) ?_
   refine c_nil ?_
   cases hs
   exact ⟨_, fr_ovl 21 ⟨rfl, rfl, congrArg (Value.int .i64) hw, trivial⟩, hC, hO, h0⟩
 ·skip
  exact ⟨_, fr_ovl 21 ⟨rfl, rfl, rfl, trivial⟩, hC, hO, h0⟩
 ·cases o13 with
  | nx _ => exact True.intro
  | rt r_ =>
   have hs := after_rt hs
   intro a1 w1 hK
   cases hs
   exact hK
  | br s9 =>
   have hs := after_br hs
   rintro a1 w10 ⟨σ, rfl, hC, hO, h0⟩
   refine c_seq (c_region ?_)
   refine pl_val (.int .i64 s9) (y_move rfl) ?_
   refine pl_val (.int .i64 s9) (y_assign rfl) ?_
   refine c_nil ?_
   refine wp_ret ?_
   cases hs
   exact ⟨_, fr_ovl 21 ⟨rfl, trivial⟩, hC⟩

theorem Ag24 : AggT Tryz.prog 24 true := fun _ => by kernel_rfl

theorem Sz24 : SzT Tryz.prog 24 2 := ⟨_, rfl, rfl⟩

theorem Bd5 : Bodied Tryz.prog 5 := bodied Tryz.func5 (by kernel_rfl) rfl

theorem Bd7 : Bodied Tryz.prog 7 := bodied Tryz.func7 (by kernel_rfl) rfl

theorem Bd10 : Bodied Tryz.prog 10 := bodied Tryz.func10 (by kernel_rfl) rfl

theorem Bd11 : Bodied Tryz.prog 11 := bodied Tryz.func11 (by kernel_rfl) rfl

theorem Bd12 : Bodied Tryz.prog 12 := bodied Tryz.func12 (by kernel_rfl) rfl

theorem Bd9 : Bodied Tryz.prog 9 := bodied Tryz.func9 (by kernel_rfl) rfl

theorem Bd13 : Bodied Tryz.prog 13 := bodied Tryz.func13 (by kernel_rfl) rfl

theorem Bd14 : Bodied Tryz.prog 14 := bodied Tryz.func14 (by kernel_rfl) rfl

theorem Bd15 : Bodied Tryz.prog 15 := bodied Tryz.func15 (by kernel_rfl) rfl

end Go.Proofs
