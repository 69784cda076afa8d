/- What functions of the program compute, as plain functions, and that a call gives just that. Conditions: those named in each theorem. -/
import Derived.Test.YtchgbcjecdnclaaF3
set_option linter.unusedVariables false
namespace Go.Proofs
open Go.G Go.RowKit
set_option maxRecDepth 100000

def k_impl_productTable (M : Nat → Prop) (w0 : World) (r : (List (List Bool))) (a : Act) (w : World) : Prop :=
  ∃ (σ : Nat → Value) (ra0 : Option Addr) (rn0 rc0 : Nat) (rf0 : List Nat), a = fr 71 (ovl σ [(4, (.slice ra0 rn0 rc0))]) ∧ Chg [] w0 w ∧ (RT.os 109 (RT.os 4 RT.bool)).val M w (.slice ra0 rn0 rc0) r rf0 ∧ Own (Nw w0 []) (fun _ => True) w (rf0 ++ ([]))
def s_impl_productTable (p : List Int) (q : List Int) : Option ((List (List Bool))) :=
  (mks (p.length : Int) ([] : List Bool)).bind fun y4 =>
  (forC (S := (List (List Bool))) (R := (List (List Bool))) (fun k669 s667 =>
  (mks (p.length : Int) (false : Bool)).bind fun y676 =>
  (idx s667 k669).bind fun x678 =>
  (forC (S := (List (List Bool))) (R := (List (List Bool))) (fun k894 s892 =>
  (iter (S := Int × (List (List Bool))) (R := (List (List Bool))) (fun s965 =>
  ((bif (decide (s965.1 < (p.length : Int))) then (idx p k669).bind fun x978 =>
  (idx p k894).bind fun x980 =>
  some (x978 == x980) else some false)).bind fun s973 =>
  (bif s973 then (idx s965.2 k669).bind fun x984 =>
  (idx s965.2 k669).bind fun x988 =>
  (idx x988 s965.1).bind fun x992 =>
  (bif x992 then (idx x984 s965.1).bind fun x995 =>
  some (.nx (w64 (s965.1 + 1), List.set s965.2 (Int.toNat k669) (List.set x984 (Int.toNat s965.1) true))) else (idx q k894).bind fun x998 =>
  (idx q s965.1).bind fun x1000 =>
  (idx x984 s965.1).bind fun x1002 =>
  some (.nx (w64 (s965.1 + 1), List.set s965.2 (Int.toNat k669) (List.set x984 (Int.toNat s965.1) (x998 == x1000))))) else some (.br (s965.1, s965.2)))) FU (0, s892)).bind fun o969 => after o969 (fun r_ => some (.rt r_)) (fun s965 =>
  some (.nx s965.2))) 0 (p.length : Int) (List.set s667 (Int.toNat k669) y676)).bind fun o896 => after o896 (fun r_ => some (.rt r_)) (fun s892 =>
  some (.nx s892))) 0 (y4.length : Int) y4).bind fun o671 => after o671 (fun r_ => some r_) (fun s667 =>
  some s667)
set_option maxHeartbeats 4000000 in
theorem c_impl_productTable {M : Nat → Prop} {w : World} {pa0 : Option Addr} {pn0 pc0 : Nat} {pa1 : Option Addr} {pn1 pc1 : Nat} (p : List Int) (q : List Int) (h0 : (RT.rs (RT.int .i64)).val M w (.slice pa0 pn0 pc0) p ([])) (h1 : (RT.rs (RT.int .i64)).val M w (.slice pa1 pn1 pc1) q ([])) (hM : ∀ g, w.heap.size ≤ g → M g) {r : (List (List Bool))} (hs : s_impl_productTable p q = some r) :
    Gives Try.prog 130 [(.slice pa0 pn0 pc0), (.slice pa1 pn1 pc1)] w (fun v w' => ∃ (ra0 : Option Addr) (rn0 rc0 : Nat) (rf0 : List Nat), v = (.slice ra0 rn0 rc0) ∧ Chg [] w w' ∧ (RT.os 109 (RT.os 4 RT.bool)).val M w' (.slice ra0 rn0 rc0) r rf0 ∧ Own (Nw w []) (fun _ => True) w' (rf0 ++ ([]))) := by
  refine calls_fr Try.func130 rfl Try.ntmps130 (Nat.le_of_ble_eq_true rfl) ?_
  have hO := Own.start (N := Nw w []) hM Nw.fut
  have hC := Chg.refl [] w
  unfold s_impl_productTable at hs
  refine wp_mono (Q := KPost (k_impl_productTable M w r)) ?_ (fun e a w1 h => ?_)
  rotate_left
  · cases e
    case ret =>
      obtain ⟨σ, ra0, rn0, rc0, rf0, rfl, hrest⟩ := h
      exact ret1x Try.results130 (res_tmp rfl) ⟨ra0, rn0, rc0, rf0, rfl, hrest⟩
    all_goals exact (h : False).elim
  refine c_seq ?_
  refine c_region ?_
  refine pl_val (.slice none 0 0) (y_assign rfl) ?_
  refine c_nil ?_
  refine c_seq ?_
  refine c_region ?_
  refine pl_val (.slice pa0 pn0 pc0) (y_move rfl) ?_
  refine pl_val (.int .i64 (p.length : Int)) (y_len' Sl22 (rs_len h0) rfl) ?_
  refine pl_val (.int .i64 (p.length : Int)) (y_assign rfl) ?_
  refine c_nil ?_
  refine c_seq ?_
  refine c_region ?_
  refine pl_val (.int .i64 (p.length : Int)) (y_move rfl) ?_
  obtain ⟨y4, hy4, hs⟩ := bind_some hs
  obtain ⟨a3, n3, c3, w3, f3, hm3, hC3, hfr3, hv3⟩ := mk_os (M := M) (w := w) (r := (RT.os 4 RT.bool)) Rw107 hy4 (fun _ _ => (os_unval os_nil))
  refine pl_val (w' := w3) (.slice a3 n3 c3) (y_make rfl rfl hm3) ?_
  have h0 := h0.ext hC3
  have h1 := h1.ext hC3
  have hC := hC.ext hC3
  have hO := hO.new hC3 hfr3 (os_nodup hv3) hv3.fpl
  refine pl_val (.slice a3 n3 c3) (y_assign rfl) ?_
  refine c_nil ?_
  refine c_seq ?_
  refine c_seq ?_
  refine c_region ?_
  refine pl_val (.slice a3 n3 c3) (y_move rfl) ?_
  refine pl_val (.int .i64 (y4.length : Int)) (y_len' Sl107 (os_len hv3) rfl) ?_
  refine pl_val (.int .i64 0) (y_move rfl) ?_
  refine c_nil ?_
  obtain ⟨o671, hl672, hs⟩ := bind_some hs
  refine wp_block ?_
  refine wp_forC (id := 0) (y4.length : Int) (I := fun k669 s667 a w668 => ∃ (σ : Nat → Value) (f673 : List Nat), a = fr 71 (ovl σ [(0, (.slice pa0 pn0 pc0)), (1, (.slice pa1 pn1 pc1)), (5, (.int .i64 (p.length : Int))), (6, (.slice a3 n3 c3)), (15, (.int .i64 (y4.length : Int))), (16, (.int .i64 k669))]) ∧ Chg [] w w668 ∧ Own (Nw w []) M w668 (f673 ++ []) ∧ (RT.rs (RT.int .i64)).val M w668 (.slice pa0 pn0 pc0) p ([]) ∧ (RT.rs (RT.int .i64)).val M w668 (.slice pa1 pn1 pc1) q ([]) ∧ (RT.os 109 (RT.os 4 RT.bool)).val M w668 (.slice a3 n3 c3) s667 f673) (J := fun s667 a w668 => ∃ (σ : Nat → Value) (f674 : List Nat), a = fr 71 (ovl σ [(6, (.slice a3 n3 c3))]) ∧ Chg [] w w668 ∧ Own (Nw w []) M w668 (f674 ++ []) ∧ (RT.rs (RT.int .i64)).val M w668 (.slice pa0 pn0 pc0) p ([]) ∧ (RT.rs (RT.int .i64)).val M w668 (.slice pa1 pn1 pc1) q ([]) ∧ (RT.os 109 (RT.os 4 RT.bool)).val M w668 (.slice a3 n3 c3) s667 f674) (K := (k_impl_productTable M w)) ?_ ?_ 0 y4 o671 _ _ ?_ hl672 ?_
  · rintro k669 s667 a w668 ⟨σ, f673, rfl, hC, hO, h0, h1, hv673⟩ hlt
    refine c_seq ?_
    refine c_region ?_
    refine pl_val (.bool (decide (k669 < (y4.length : Int)))) (y_lss rfl rfl) ?_
    refine c_nil ?_
    refine c_seq ?_
    refine c_condF (congrArg Value.bool (decide_eq_false hlt)) ?_
    refine wp_exit ?_
    exact ⟨rfl, _, f673, fr_ovl 71 ⟨rfl, trivial⟩, hC, hO, h0, h1, hv673⟩
  · rintro k669 s667 o671 a w668 ⟨σ, f673, rfl, hC, hO, h0, h1, hv673⟩ hlt hw hs
    refine c_seq ?_
    refine c_region ?_
    refine pl_val (.bool (decide (k669 < (y4.length : Int)))) (y_lss rfl rfl) ?_
    refine c_nil ?_
    refine c_seq ?_
    refine c_condT (congrArg Value.bool (decide_eq_true hlt)) ?_
    refine wp_skip ?_
    refine c_seq ?_
    refine wp_block ?_
    refine c_seq ?_
    refine c_region ?_
    refine pl_val (.int .i64 k669) (y_move rfl) ?_
    refine pl_val (.int .i64 k669) (y_assign rfl) ?_
    refine c_nil ?_
    refine c_seq ?_
    refine c_region ?_
    refine pl_val (.slice a3 n3 c3) (y_move rfl) ?_
    refine pl_val (.int .i64 k669) (y_move rfl) ?_
    refine pl_val (.int .i64 (p.length : Int)) (y_move rfl) ?_
    obtain ⟨y676, hy676, hs⟩ := bind_some hs
    obtain ⟨a675, n675, c675, w675, f675, hm675, hC675, hfr675, hv675⟩ := mk_os (M := M) (w := w668) (r := RT.bool) Rw109 hy676 (fun _ _ => ⟨rfl, rfl⟩)
    refine pl_val (w' := w675) (.slice a675 n675 c675) (y_make rfl rfl hm675) ?_
    have h0 := h0.ext hC675
    have h1 := h1.ext hC675
    have hv673 := hv673.ext hC675
    have hC := hC.ext hC675
    have hO := hO.new hC675 hfr675 (os_nodup hv675) hv675.fpl
    obtain ⟨x678, hx678, hs⟩ := bind_some hs
    obtain ⟨g679, f679, hg679, hk679, hp679, ha679, hf679⟩ := os_idx Sl107 Sz109 hv673 hx678
    have hb679 := own_row (Frz.os Frz.bool) ha679 hf679
    refine pl_val (.pointer (some ⟨g679, 0 + Int.toNat k669 * 1, none⟩)) (hp679 _ _ _ _ _ _ _ _ _ rfl rfl) ?_
    have hO := hO.fr1
    obtain ⟨w680, f680, hst680, hC680, hf680, hv680⟩ := os_store (P := Try.prog) (c' := [(.slice a675 n675 c675)]) hg679 hv673 hk679 (fun g hg => hO.inM g (os_block hv673 g (by simpa using hg))) (os_unval hv675) (hO.drop.perm (R := f675 ++ ([])) (by simp)).nd (fun g hg hq => hO.apart g hq (by simp only [List.mem_append, List.not_mem_nil, false_or, or_false] at hg ⊢; simp [hg])) (fun _ h => .inl h)
    have hG680 : ∀ q ∈ [g679], q ∈ f673 := fun q hq => os_block hv673 q (by rw [hg679]; exact hq)
    refine pl_skip (w' := w680) (ys_store rfl rfl (hst680 _ _ rfl Sz109)) ?_
    have hO := hO.fr1
    have hO := hO.fr1
    have h0 := h0.mut hC680 (fun g hg => hO.inM g (hG680 g hg)) (fun _ _ h => nomatch h)
    have h1 := h1.mut hC680 (fun g hg => hO.inM g (hG680 g hg)) (fun _ _ h => nomatch h)
    have hC := hC.step hC680 (fun g hg => hO.inN g (hG680 g hg))
    have hO := hO.perm (R := f673 ++ (f675 ++ ([]))) (by simp)
    have hO := hO.eat hC680 (fun q hq => (hf680 q hq).elim .inl (fun h => .inr (.inl h))) (os_nodup hv680) hv680.fpl
    refine c_nil ?_
    refine c_seq ?_
    refine c_region ?_
    refine pl_val (.int .i64 0) (y_assign rfl) ?_
    refine c_nil ?_
    obtain ⟨o896, hl897, hs⟩ := bind_some hs
    refine wp_block ?_
    refine wp_forC (id := 2) (p.length : Int) (I := fun k894 s892 a w893 => ∃ (σ : Nat → Value) (f898 : List Nat), a = fr 71 (ovl σ [(0, (.slice pa0 pn0 pc0)), (1, (.slice pa1 pn1 pc1)), (5, (.int .i64 (p.length : Int))), (6, (.slice a3 n3 c3)), (7, (.int .i64 k669)), (8, (.int .i64 k894)), (15, (.int .i64 (y4.length : Int))), (16, (.int .i64 k669))]) ∧ Chg [] w w893 ∧ Own (Nw w []) M w893 (f898 ++ []) ∧ (RT.rs (RT.int .i64)).val M w893 (.slice pa0 pn0 pc0) p ([]) ∧ (RT.rs (RT.int .i64)).val M w893 (.slice pa1 pn1 pc1) q ([]) ∧ (RT.os 109 (RT.os 4 RT.bool)).val M w893 (.slice a3 n3 c3) s892 f898) (J := fun s892 a w893 => ∃ (σ : Nat → Value) (f899 : List Nat), a = fr 71 (ovl σ [(0, (.slice pa0 pn0 pc0)), (1, (.slice pa1 pn1 pc1)), (5, (.int .i64 (p.length : Int))), (6, (.slice a3 n3 c3)), (15, (.int .i64 (y4.length : Int))), (16, (.int .i64 k669))]) ∧ Chg [] w w893 ∧ Own (Nw w []) M w893 (f899 ++ []) ∧ (RT.rs (RT.int .i64)).val M w893 (.slice pa0 pn0 pc0) p ([]) ∧ (RT.rs (RT.int .i64)).val M w893 (.slice pa1 pn1 pc1) q ([]) ∧ (RT.os 109 (RT.os 4 RT.bool)).val M w893 (.slice a3 n3 c3) s892 f899) (K := (k_impl_productTable M w)) ?_ ?_ 0 (List.set s667 (Int.toNat k669) y676) o896 _ _ ?_ hl897 ?_
    · rintro k894 s892 a w893 ⟨σ, f898, rfl, hC, hO, h0, h1, hv898⟩ hlt
      refine c_seq ?_
      refine c_seq ?_
      refine c_region ?_
      refine pl_val (.int .i64 k894) (y_move rfl) ?_
      refine pl_val (.int .i64 (p.length : Int)) (y_move rfl) ?_
      refine pl_val (.bool (decide (k894 < (p.length : Int)))) (y_lss rfl rfl) ?_
      refine c_nil ?_
      refine c_condF (congrArg Value.bool (decide_eq_false hlt)) ?_
      refine wp_exit ?_
      exact ⟨rfl, _, f898, fr_ovl 71 ⟨rfl, rfl, rfl, rfl, rfl, rfl, trivial⟩, hC, hO, h0, h1, hv898⟩
    · rintro k894 s892 o896 a w893 ⟨σ, f898, rfl, hC, hO, h0, h1, hv898⟩ hlt hw hs
      refine c_seq ?_
      refine c_seq ?_
      refine c_region ?_
      refine pl_val (.int .i64 k894) (y_move rfl) ?_
      refine pl_val (.int .i64 (p.length : Int)) (y_move rfl) ?_
      refine pl_val (.bool (decide (k894 < (p.length : Int)))) (y_lss rfl rfl) ?_
      refine c_nil ?_
      refine c_condT (congrArg Value.bool (decide_eq_true hlt)) ?_
      refine wp_skip ?_
      refine c_seq ?_
      refine wp_block ?_
      refine c_seq ?_
      refine c_region ?_
      refine pl_val (.int .i64 0) (y_assign rfl) ?_
      refine c_nil ?_
      obtain ⟨o969, hl970, hs⟩ := bind_some hs
      refine wp_block ?_
      refine wp_iter (id := 4) (I := fun s965 a w966 => ∃ (σ : Nat → Value) (f971 : List Nat), a = fr 71 (ovl σ [(0, (.slice pa0 pn0 pc0)), (1, (.slice pa1 pn1 pc1)), (5, (.int .i64 (p.length : Int))), (6, (.slice a3 n3 c3)), (7, (.int .i64 k669)), (8, (.int .i64 k894)), (9, (.int .i64 s965.1)), (15, (.int .i64 (y4.length : Int))), (16, (.int .i64 k669))]) ∧ Chg [] w w966 ∧ Own (Nw w []) M w966 (f971 ++ []) ∧ (RT.rs (RT.int .i64)).val M w966 (.slice pa0 pn0 pc0) p ([]) ∧ (RT.rs (RT.int .i64)).val M w966 (.slice pa1 pn1 pc1) q ([]) ∧ (RT.os 109 (RT.os 4 RT.bool)).val M w966 (.slice a3 n3 c3) s965.2 f971) (J := fun s965 a w966 => ∃ (σ : Nat → Value) (f972 : List Nat), a = fr 71 (ovl σ [(0, (.slice pa0 pn0 pc0)), (1, (.slice pa1 pn1 pc1)), (5, (.int .i64 (p.length : Int))), (6, (.slice a3 n3 c3)), (7, (.int .i64 k669)), (8, (.int .i64 k894)), (15, (.int .i64 (y4.length : Int))), (16, (.int .i64 k669))]) ∧ Chg [] w w966 ∧ Own (Nw w []) M w966 (f972 ++ []) ∧ (RT.rs (RT.int .i64)).val M w966 (.slice pa0 pn0 pc0) p ([]) ∧ (RT.rs (RT.int .i64)).val M w966 (.slice pa1 pn1 pc1) q ([]) ∧ (RT.os 109 (RT.os 4 RT.bool)).val M w966 (.slice a3 n3 c3) s965.2 f972) (K := (k_impl_productTable M w)) ?_ FU (0, s892) o969 _ _ ?_ hl970 ?_
      · rintro s965 o969 a w966 ⟨σ, f971, rfl, hC, hO, h0, h1, hv971⟩ hs
        refine c_seq ?_
        refine c_seq ?_
        obtain ⟨s973, hm975, hs⟩ := bind_some hs
        refine c_mid (I := fun a w974 => ∃ (σ : Nat → Value), a = fr 71 (ovl σ [(0, (.slice pa0 pn0 pc0)), (1, (.slice pa1 pn1 pc1)), (5, (.int .i64 (p.length : Int))), (6, (.slice a3 n3 c3)), (7, (.int .i64 k669)), (8, (.int .i64 k894)), (9, (.int .i64 s965.1)), (15, (.int .i64 (y4.length : Int))), (16, (.int .i64 k669)), (42, (.bool s973))]) ∧ Chg [] w966 w974) ?_ ?_
        · replace hs := hm975
          have hMid := Chg.refl [] w966
          refine x_start [] Mx rfl ?_
          have hCw976 := Chg.drew w966
          generalize World.drew w966 = w976 at hCw976 ⊢
          have h0 := h0.ext hCw976
          have h1 := h1.ext hCw976
          have hv971 := hv971.ext hCw976
          have hMid := hMid.ext hCw976
          have hC := hC.ext hCw976
          have hO := hO.ext hCw976
          have hS := Chg.refl [] w976
          refine x_p 0 (.int .i64 s965.1) rfl (by kernel_rfl)  (fun _ => y_move rfl) (fun _ => hS) ?_
          refine x_p 1 (.int .i64 (p.length : Int)) rfl (by kernel_rfl)  (fun _ => y_move rfl) (fun _ => hS) ?_
          refine x_p 2 (.bool (decide (s965.1 < (p.length : Int)))) rfl (by kernel_rfl)  (fun _ => y_lss rfl rfl) (fun _ => hS) ?_
          refine x_p 3 (.bool (decide (s965.1 < (p.length : Int)))) rfl (by kernel_rfl)  (fun _ => y_move rfl) (fun _ => hS) ?_
          rcases bif_some hs with ⟨hc977, hs⟩ | ⟨hc977, hs⟩
          · skip
            refine x_py 4 (.slice pa0 pn0 pc0) rfl (by kernel_rfl) (tg := 32) (by kernel_rfl) (congrArg Value.bool hc977) (fun _ => y_move rfl) (fun _ => hS) ?_
            refine x_py 5 (.int .i64 k669) rfl (by kernel_rfl) (tg := 32) (by kernel_rfl) (congrArg Value.bool hc977) (fun _ => y_move rfl) (fun _ => hS) ?_
            obtain ⟨x978, hx978, hs⟩ := bind_some hs
            obtain ⟨b979, o979, hp979, ha979⟩ := rs_idx Sl22 Sz3 h0 hx978
            refine x_py 6 (.pointer (some ⟨b979, o979, none⟩)) rfl (by kernel_rfl) (tg := 32) (by kernel_rfl) (congrArg Value.bool hc977) (fun _ => hp979 _ _ _ _ _ _ _ _ _ rfl rfl) (fun _ => hS) ?_
            refine x_ly 7 (.int .i64 x978) rfl (by kernel_rfl) (tg := 32) (by kernel_rfl) (congrArg Value.bool hc977) (fun w' hw' => y_load rfl ((at_load_int Ag3 Sz3 ha979) w' hw')) hS ?_
            refine x_py 8 (.slice pa0 pn0 pc0) rfl (by kernel_rfl) (tg := 32) (by kernel_rfl) (congrArg Value.bool hc977) (fun _ => y_move rfl) (fun _ => hS) ?_
            refine x_py 9 (.int .i64 k894) rfl (by kernel_rfl) (tg := 32) (by kernel_rfl) (congrArg Value.bool hc977) (fun _ => y_move rfl) (fun _ => hS) ?_
            obtain ⟨x980, hx980, hs⟩ := bind_some hs
            obtain ⟨b981, o981, hp981, ha981⟩ := rs_idx Sl22 Sz3 h0 hx980
            refine x_py 10 (.pointer (some ⟨b981, o981, none⟩)) rfl (by kernel_rfl) (tg := 32) (by kernel_rfl) (congrArg Value.bool hc977) (fun _ => hp981 _ _ _ _ _ _ _ _ _ rfl rfl) (fun _ => hS) ?_
            refine x_ly 11 (.int .i64 x980) rfl (by kernel_rfl) (tg := 32) (by kernel_rfl) (congrArg Value.bool hc977) (fun w' hw' => y_load rfl ((at_load_int Ag3 Sz3 ha981) w' hw')) hS ?_
            refine x_py 12 (.bool (x978 == x980)) rfl (by kernel_rfl) (tg := 32) (by kernel_rfl) (congrArg Value.bool hc977) (fun _ => y_eql rfl rfl) (fun _ => hS) ?_
            refine x_p 13 (.bool (x978 == x980)) rfl (by kernel_rfl)  (fun _ => y_pick_t (congrArg Value.bool hc977) rfl) (fun _ => hS) ?_
            refine x_end (by kernel_rfl) ?_
            clear hS
            cases hs
            exact ⟨_, fr_ovl 71 ⟨rfl, rfl, rfl, rfl, rfl, rfl, rfl, rfl, rfl, rfl, trivial⟩, hMid⟩
          · skip
            refine x_pn 4 rfl (by kernel_rfl) (tg := 32) (by kernel_rfl) (congrArg Value.bool hc977) (fun _ => hS) ?_
            refine x_pn 5 rfl (by kernel_rfl) (tg := 32) (by kernel_rfl) (congrArg Value.bool hc977) (fun _ => hS) ?_
            refine x_pn 6 rfl (by kernel_rfl) (tg := 32) (by kernel_rfl) (congrArg Value.bool hc977) (fun _ => hS) ?_
            refine x_pn 7 rfl (by kernel_rfl) (tg := 32) (by kernel_rfl) (congrArg Value.bool hc977) (fun _ => hS) ?_
            refine x_pn 8 rfl (by kernel_rfl) (tg := 32) (by kernel_rfl) (congrArg Value.bool hc977) (fun _ => hS) ?_
            refine x_pn 9 rfl (by kernel_rfl) (tg := 32) (by kernel_rfl) (congrArg Value.bool hc977) (fun _ => hS) ?_
            refine x_pn 10 rfl (by kernel_rfl) (tg := 32) (by kernel_rfl) (congrArg Value.bool hc977) (fun _ => hS) ?_
            refine x_pn 11 rfl (by kernel_rfl) (tg := 32) (by kernel_rfl) (congrArg Value.bool hc977) (fun _ => hS) ?_
            refine x_pn 12 rfl (by kernel_rfl) (tg := 32) (by kernel_rfl) (congrArg Value.bool hc977) (fun _ => hS) ?_
            refine x_p 13 (.bool false) rfl (by kernel_rfl)  (fun _ => y_pick_f (congrArg Value.bool hc977) rfl) (fun _ => hS) ?_
            refine x_end (by kernel_rfl) ?_
            clear hS
            cases hs
            exact ⟨_, fr_ovl 71 ⟨rfl, rfl, rfl, rfl, rfl, rfl, rfl, rfl, rfl, rfl, trivial⟩, hMid⟩
        · rintro a1 w974 ⟨σ, rfl, hCs973⟩
          have h0 := h0.ext hCs973
          have h1 := h1.ext hCs973
          have hv971 := hv971.ext hCs973
          have hC := hC.ext hCs973
          have hO := hO.ext hCs973
          rcases bif_some hs with ⟨hc982, hs⟩ | ⟨hc982, hs⟩
          · skip
            refine c_condT (congrArg Value.bool hc982) ?_
            refine wp_skip ?_
            refine c_seq ?_
            refine wp_block ?_
            refine x_start [24] Mx rfl ?_
            have hCw983 := Chg.drew w974
            generalize World.drew w974 = w983 at hCw983 ⊢
            have h0 := h0.ext hCw983
            have h1 := h1.ext hCw983
            have hv971 := hv971.ext hCw983
            have hC := hC.ext hCw983
            have hO := hO.ext hCw983
            have hS := Chg.refl [] w983
            refine x_p 0 (.slice a3 n3 c3) rfl (by kernel_rfl)  (fun _ => y_move rfl) (fun _ => hS) ?_
            refine x_p 1 (.int .i64 k669) rfl (by kernel_rfl)  (fun _ => y_move rfl) (fun _ => hS) ?_
            obtain ⟨x984, hx984, hs⟩ := bind_some hs
            obtain ⟨g985, f985, hg985, hk985, hp985, ha985, hf985⟩ := os_idx Sl107 Sz109 hv971 hx984
            have hb985 := own_row (Frz.os Frz.bool) ha985 hf985
            refine x_p 2 (.pointer (some ⟨g985, 0 + Int.toNat k669 * 1, none⟩)) rfl (by kernel_rfl)  (fun _ => hp985 _ _ _ _ _ _ _ _ _ rfl rfl) (fun _ => hS) ?_
            obtain ⟨v986, hl986, hrow986, hv986⟩ := at_load1 Ag109 Sz109 rfl rfl hb985
            obtain ⟨a986, n986, c986, rfl⟩ := rs_sl hv986
            refine x_l 3 (.slice a986 n986 c986) rfl (by kernel_rfl)  (fun w' hw' => y_load rfl (hl986 w' hw')) hS ?_
            refine x_p 4 (.int .i64 s965.1) rfl (by kernel_rfl)  (fun _ => y_move rfl) (fun _ => hS) ?_
            refine x_p 5 (.slice a3 n3 c3) rfl (by kernel_rfl)  (fun _ => y_move rfl) (fun _ => hS) ?_
            refine x_p 6 (.int .i64 k669) rfl (by kernel_rfl)  (fun _ => y_move rfl) (fun _ => hS) ?_
            obtain ⟨x988, hx988, hs⟩ := bind_some hs
            obtain ⟨g989, f989, hg989, hk989, hp989, ha989, hf989⟩ := os_idx Sl107 Sz109 hv971 hx988
            have hb989 := own_row (Frz.os Frz.bool) ha989 hf989
            refine x_p 7 (.pointer (some ⟨g989, 0 + Int.toNat k669 * 1, none⟩)) rfl (by kernel_rfl)  (fun _ => hp989 _ _ _ _ _ _ _ _ _ rfl rfl) (fun _ => hS) ?_
            obtain ⟨v990, hl990, hrow990, hv990⟩ := at_load1 Ag109 Sz109 rfl rfl hb989
            obtain ⟨a990, n990, c990, rfl⟩ := rs_sl hv990
            refine x_l 8 (.slice a990 n990 c990) rfl (by kernel_rfl)  (fun w' hw' => y_load rfl (hl990 w' hw')) hS ?_
            refine x_p 9 (.int .i64 s965.1) rfl (by kernel_rfl)  (fun _ => y_move rfl) (fun _ => hS) ?_
            obtain ⟨x992, hx992, hs⟩ := bind_some hs
            obtain ⟨fr993, hrr993, hfr993, _, _⟩ := os_put hg989 hv971 hx988 hrow990 rfl hO.inM
            obtain ⟨g993, f993, hg993, hk993, hp993, ha993, hf993⟩ := os_idx Sl109 Sz4 (show (RT.os 4 RT.bool).val M w983 (.slice a990 n990 c990) _ fr993 from ⟨[_], rfl, hrr993⟩) hx992
            refine x_p 10 (.pointer (some ⟨g993, 0 + Int.toNat s965.1 * 1, none⟩)) rfl (by kernel_rfl)  (fun _ => hp993 _ _ _ _ _ _ _ _ _ rfl rfl) (fun _ => hS) ?_
            refine x_l 11 (.bool x992) rfl (by kernel_rfl)  (fun w' hw' => y_load rfl ((at_load_bool Ag4 Sz4 ha993) w' hw')) hS ?_
            refine x_p 12 (.bool x992) rfl (by kernel_rfl)  (fun _ => y_move rfl) (fun _ => hS) ?_
            rcases bif_some hs with ⟨hc994, hs⟩ | ⟨hc994, hs⟩
            · skip
              refine x_pn 13 rfl (by kernel_rfl) (tg := 57) (by kernel_rfl) (congrArg Value.bool hc994) (fun _ => hS) ?_
              refine x_pn 14 rfl (by kernel_rfl) (tg := 57) (by kernel_rfl) (congrArg Value.bool hc994) (fun _ => hS) ?_
              refine x_pn 15 rfl (by kernel_rfl) (tg := 57) (by kernel_rfl) (congrArg Value.bool hc994) (fun _ => hS) ?_
              refine x_pn 16 rfl (by kernel_rfl) (tg := 57) (by kernel_rfl) (congrArg Value.bool hc994) (fun _ => hS) ?_
              refine x_pn 17 rfl (by kernel_rfl) (tg := 57) (by kernel_rfl) (congrArg Value.bool hc994) (fun _ => hS) ?_
              refine x_pn 18 rfl (by kernel_rfl) (tg := 57) (by kernel_rfl) (congrArg Value.bool hc994) (fun _ => hS) ?_
              refine x_pn 19 rfl (by kernel_rfl) (tg := 57) (by kernel_rfl) (congrArg Value.bool hc994) (fun _ => hS) ?_
              refine x_pn 20 rfl (by kernel_rfl) (tg := 57) (by kernel_rfl) (congrArg Value.bool hc994) (fun _ => hS) ?_
              refine x_pn 21 rfl (by kernel_rfl) (tg := 57) (by kernel_rfl) (congrArg Value.bool hc994) (fun _ => hS) ?_
              refine x_p 22 (.bool true) rfl (by kernel_rfl)  (fun _ => y_pick_t (congrArg Value.bool hc994) rfl) (fun _ => hS) ?_
              obtain ⟨x995, hx995, hs⟩ := bind_some hs
              obtain ⟨fr996, hrr996, hfr996, _, _⟩ := os_put hg985 hv971 hx984 hrow986 rfl hO.inM
              obtain ⟨g996, f996, hg996, hk996, hp996, ha996, hf996⟩ := os_idx Sl109 Sz4 (show (RT.os 4 RT.bool).val M w983 (.slice a986 n986 c986) _ fr996 from ⟨[_], rfl, hrr996⟩) hx995
              refine x_p 23 (.pointer (some ⟨g996, 0 + Int.toNat s965.1 * 1, none⟩)) rfl (by kernel_rfl)  (fun _ => hp996 _ _ _ _ _ _ _ _ _ rfl rfl) (fun _ => hS) ?_
              refine x_one (i := 24) (by kernel_rfl) ?_
              obtain ⟨w997, f997, hst997, hC997, hG997, hf997, hv997⟩ := os_store2 (P := Try.prog) (c' := [(.bool true)]) hg985 hv971 hx984 hrow986 hg996 hk996 hO.inM ⟨rfl, rfl⟩
              refine xk_skip (w' := w997) (b := true) rfl (ys_store rfl rfl (hst997 _ _ rfl Sz4)) rfl (fun h => nomatch h) ?_
              have h0 := h0.mut hC997 (fun g hg => hO.inM g (hG997 g hg)) (fun _ _ h => nomatch h)
              have h1 := h1.mut hC997 (fun g hg => hO.inM g (hG997 g hg)) (fun _ _ h => nomatch h)
              have hC := hC.step hC997 (fun g hg => hO.inN g (hG997 g hg))
              have hO := hO.grow hC997 hf997 (os_nodup hv997) hv997.fpl
              refine x_end (by kernel_rfl) ?_
              clear hS
              refine c_region ?_
              refine pl_val (.int .i64 s965.1) (y_move rfl) ?_
              refine pl_val (.int .i64 (w64 (s965.1 + 1))) (y_add rfl rfl) ?_
              refine pl_val (.int .i64 (w64 (s965.1 + 1))) (y_assign rfl) ?_
              refine c_nil ?_
              cases hs
              exact ⟨_, f997, fr_ovl 71 ⟨rfl, rfl, rfl, rfl, rfl, rfl, rfl, rfl, rfl, trivial⟩, hC, hO, h0, h1, hv997⟩
            · skip
              refine x_py 13 (.slice pa1 pn1 pc1) rfl (by kernel_rfl) (tg := 57) (by kernel_rfl) (congrArg Value.bool hc994) (fun _ => y_move rfl) (fun _ => hS) ?_
              refine x_py 14 (.int .i64 k894) rfl (by kernel_rfl) (tg := 57) (by kernel_rfl) (congrArg Value.bool hc994) (fun _ => y_move rfl) (fun _ => hS) ?_
              obtain ⟨x998, hx998, hs⟩ := bind_some hs
              obtain ⟨b999, o999, hp999, ha999⟩ := rs_idx Sl22 Sz3 h1 hx998
              refine x_py 15 (.pointer (some ⟨b999, o999, none⟩)) rfl (by kernel_rfl) (tg := 57) (by kernel_rfl) (congrArg Value.bool hc994) (fun _ => hp999 _ _ _ _ _ _ _ _ _ rfl rfl) (fun _ => hS) ?_
              refine x_ly 16 (.int .i64 x998) rfl (by kernel_rfl) (tg := 57) (by kernel_rfl) (congrArg Value.bool hc994) (fun w' hw' => y_load rfl ((at_load_int Ag3 Sz3 ha999) w' hw')) hS ?_
              refine x_py 17 (.slice pa1 pn1 pc1) rfl (by kernel_rfl) (tg := 57) (by kernel_rfl) (congrArg Value.bool hc994) (fun _ => y_move rfl) (fun _ => hS) ?_
              refine x_py 18 (.int .i64 s965.1) rfl (by kernel_rfl) (tg := 57) (by kernel_rfl) (congrArg Value.bool hc994) (fun _ => y_move rfl) (fun _ => hS) ?_
              obtain ⟨x1000, hx1000, hs⟩ := bind_some hs
              obtain ⟨b1001, o1001, hp1001, ha1001⟩ := rs_idx Sl22 Sz3 h1 hx1000
              refine x_py 19 (.pointer (some ⟨b1001, o1001, none⟩)) rfl (by kernel_rfl) (tg := 57) (by kernel_rfl) (congrArg Value.bool hc994) (fun _ => hp1001 _ _ _ _ _ _ _ _ _ rfl rfl) (fun _ => hS) ?_
              refine x_ly 20 (.int .i64 x1000) rfl (by kernel_rfl) (tg := 57) (by kernel_rfl) (congrArg Value.bool hc994) (fun w' hw' => y_load rfl ((at_load_int Ag3 Sz3 ha1001) w' hw')) hS ?_
              refine x_py 21 (.bool (x998 == x1000)) rfl (by kernel_rfl) (tg := 57) (by kernel_rfl) (congrArg Value.bool hc994) (fun _ => y_eql rfl rfl) (fun _ => hS) ?_
              refine x_p 22 (.bool (x998 == x1000)) rfl (by kernel_rfl)  (fun _ => y_pick_f (congrArg Value.bool hc994) rfl) (fun _ => hS) ?_
              obtain ⟨x1002, hx1002, hs⟩ := bind_some hs
              obtain ⟨fr1003, hrr1003, hfr1003, _, _⟩ := os_put hg985 hv971 hx984 hrow986 rfl hO.inM
              obtain ⟨g1003, f1003, hg1003, hk1003, hp1003, ha1003, hf1003⟩ := os_idx Sl109 Sz4 (show (RT.os 4 RT.bool).val M w983 (.slice a986 n986 c986) _ fr1003 from ⟨[_], rfl, hrr1003⟩) hx1002
              refine x_p 23 (.pointer (some ⟨g1003, 0 + Int.toNat s965.1 * 1, none⟩)) rfl (by kernel_rfl)  (fun _ => hp1003 _ _ _ _ _ _ _ _ _ rfl rfl) (fun _ => hS) ?_
              refine x_one (i := 24) (by kernel_rfl) ?_
              obtain ⟨w1004, f1004, hst1004, hC1004, hG1004, hf1004, hv1004⟩ := os_store2 (P := Try.prog) (c' := [(.bool (x998 == x1000))]) hg985 hv971 hx984 hrow986 hg1003 hk1003 hO.inM ⟨rfl, rfl⟩
              refine xk_skip (w' := w1004) (b := true) rfl (ys_store rfl rfl (hst1004 _ _ rfl Sz4)) rfl (fun h => nomatch h) ?_
              have h0 := h0.mut hC1004 (fun g hg => hO.inM g (hG1004 g hg)) (fun _ _ h => nomatch h)
              have h1 := h1.mut hC1004 (fun g hg => hO.inM g (hG1004 g hg)) (fun _ _ h => nomatch h)
              have hC := hC.step hC1004 (fun g hg => hO.inN g (hG1004 g hg))
              have hO := hO.grow hC1004 hf1004 (os_nodup hv1004) hv1004.fpl
              refine x_end (by kernel_rfl) ?_
              clear hS
              refine c_region ?_
              refine pl_val (.int .i64 s965.1) (y_move rfl) ?_
              refine pl_val (.int .i64 (w64 (s965.1 + 1))) (y_add rfl rfl) ?_
              refine pl_val (.int .i64 (w64 (s965.1 + 1))) (y_assign rfl) ?_
              refine c_nil ?_
              cases hs
              exact ⟨_, f1004, fr_ovl 71 ⟨rfl, rfl, rfl, rfl, rfl, rfl, rfl, rfl, rfl, trivial⟩, hC, hO, h0, h1, hv1004⟩
          · skip
            refine c_condF (congrArg Value.bool hc982) ?_
            refine wp_exit ?_
            cases hs
            exact ⟨rfl, _, f971, fr_ovl 71 ⟨rfl, rfl, rfl, rfl, rfl, rfl, rfl, rfl, trivial⟩, hC, hO, h0, h1, hv971⟩
      · skip
        exact ⟨_, f898, fr_ovl 71 ⟨rfl, rfl, rfl, rfl, rfl, rfl, rfl, rfl, rfl, trivial⟩, hC, hO, h0, h1, hv898⟩
      · cases o969 with
        | nx _ => exact True.intro
        | rt r_ =>
          have hs := after_rt hs
          intro a1 w1 hK
          cases hs
          exact hK
        | br s965 =>
          have hs := after_br hs
          rintro a1 w966 ⟨σ, f972, rfl, hC, hO, h0, h1, hv972⟩
          refine c_region ?_
          refine pl_val (.int .i64 k894) (y_move rfl) ?_
          refine pl_val (.int .i64 (w64 (k894 + 1))) (y_add rfl rfl) ?_
          refine pl_val (.int .i64 (w64 (k894 + 1))) (y_assign rfl) ?_
          refine c_nil ?_
          cases hs
          exact ⟨_, f972, fr_ovl 71 ⟨rfl, rfl, rfl, rfl, rfl, congrArg (Value.int .i64) hw, rfl, rfl, trivial⟩, hC, hO, h0, h1, hv972⟩
    · skip
      exact ⟨_, f680, fr_ovl 71 ⟨rfl, rfl, rfl, rfl, rfl, rfl, rfl, rfl, trivial⟩, hC, hO, h0, h1, hv680⟩
    · cases o896 with
      | nx _ => exact True.intro
      | rt r_ =>
        have hs := after_rt hs
        intro a1 w1 hK
        cases hs
        exact hK
      | br s892 =>
        have hs := after_br hs
        rintro a1 w893 ⟨σ, f899, rfl, hC, hO, h0, h1, hv899⟩
        refine c_region ?_
        refine pl_val (.int .i64 (w64 (k669 + 1))) (y_add rfl rfl) ?_
        refine pl_val (.int .i64 (w64 (k669 + 1))) (y_move rfl) ?_
        refine c_nil ?_
        cases hs
        exact ⟨_, f899, fr_ovl 71 ⟨rfl, rfl, rfl, rfl, rfl, congrArg (Value.int .i64) hw, trivial⟩, hC, hO, h0, h1, hv899⟩
  · skip
    exact ⟨_, f3, fr_ovl 71 ⟨rfl, rfl, rfl, rfl, rfl, rfl, trivial⟩, hC, hO, h0, h1, hv3⟩
  · cases o671 with
    | nx _ => exact True.intro
    | rt r_ =>
      have hs := after_rt hs
      intro a1 w1 hK
      cases hs
      exact hK
    | br s667 =>
      have hs := after_br hs
      rintro a1 w668 ⟨σ, f674, rfl, hC, hO, h0, h1, hv674⟩
      refine c_seq ?_
      refine c_region ?_
      refine pl_val (.slice a3 n3 c3) (y_move rfl) ?_
      refine pl_val (.slice a3 n3 c3) (y_assign rfl) ?_
      refine c_nil ?_
      refine wp_ret ?_
      cases hs
      exact ⟨_, a3, n3, c3, f674, fr_ovl 71 ⟨rfl, trivial⟩, hC, hv674, hO.top⟩

theorem Bd130 : Bodied Try.prog 130 := bodied Try.func130 (by kernel_rfl) rfl

def k_impl_unpermuted (M : Nat → Prop) (w0 : World) (r : (List Int) × Bool) (a : Act) (w : World) : Prop :=
  ∃ (σ : Nat → Value) (ra0 : Option Addr) (rn0 rc0 : Nat) (rf0 : List Nat), a = fr 48 (ovl σ [(4, (.slice ra0 rn0 rc0)), (5, (.bool r.2))]) ∧ Chg [] w0 w ∧ (RT.os 3 (RT.int .i64)).val M w (.slice ra0 rn0 rc0) r.1 rf0 ∧ Own (Nw w0 []) (fun _ => True) w (rf0 ++ ([]))
def s_impl_unpermuted (p : List Int) (q : List Int) : Option ((List Int) × Bool) :=
  (s_impl_productTable p q).bind fun r4 =>
  (s_impl_productTable q p).bind fun r7 =>
  (forC (S := Unit) (R := (List Int) × Bool) (fun k51 s49 =>
  (idx r4 k51).bind fun x55 =>
  (forC (S := Unit) (R := (List Int) × Bool) (fun k76 s74 =>
  (idx x55 k76).bind fun x80 =>
  ((bif x80 then (idx r7 k51).bind fun x86 =>
  (idx x86 k76).bind fun x90 =>
  some (!x90) else some false)).bind fun s82 =>
  (bif s82 then some (.rt ([k51, k76], true)) else some (.nx ()))) 0 (x55.length : Int) ()).bind fun o78 => after o78 (fun r_ => some (.rt r_)) (fun s74 =>
  some (.nx ()))) 0 (r4.length : Int) ()).bind fun o53 => after o53 (fun r_ => some r_) (fun s49 =>
  some ([], false))
set_option maxHeartbeats 4000000 in
theorem c_impl_unpermuted {M : Nat → Prop} {w : World} {pa0 : Option Addr} {pn0 pc0 : Nat} {pa1 : Option Addr} {pn1 pc1 : Nat} (p : List Int) (q : List Int) (h0 : (RT.rs (RT.int .i64)).val M w (.slice pa0 pn0 pc0) p ([])) (h1 : (RT.rs (RT.int .i64)).val M w (.slice pa1 pn1 pc1) q ([])) (hM : ∀ g, w.heap.size ≤ g → M g) {r : (List Int) × Bool} (hs : s_impl_unpermuted p q = some r) :
    Gives Try.prog 113 [(.slice pa0 pn0 pc0), (.slice pa1 pn1 pc1)] w (fun v w' => ∃ (ra0 : Option Addr) (rn0 rc0 : Nat) (rf0 : List Nat), v = (.tuple #[(.slice ra0 rn0 rc0), (.bool r.2)]) ∧ Chg [] w w' ∧ (RT.os 3 (RT.int .i64)).val M w' (.slice ra0 rn0 rc0) r.1 rf0 ∧ Own (Nw w []) (fun _ => True) w' (rf0 ++ ([]))) := by
  refine calls_fr Try.func113 rfl Try.ntmps113 (Nat.le_of_ble_eq_true rfl) ?_
  have hO := Own.start (N := Nw w []) hM Nw.fut
  have hC := Chg.refl [] w
  unfold s_impl_unpermuted at hs
  refine wp_mono (Q := KPost (k_impl_unpermuted M w r)) ?_ (fun e a w1 h => ?_)
  rotate_left
  · cases e
    case ret =>
      obtain ⟨σ, ra0, rn0, rc0, rf0, rfl, hrest⟩ := h
      exact ret2x Try.results113 (res_tmp rfl) (res_tmp rfl) ⟨ra0, rn0, rc0, rf0, rfl, hrest⟩
    all_goals exact (h : False).elim
  refine c_seq ?_
  refine c_region ?_
  refine pl_val (.slice none 0 0) (y_assign rfl) ?_
  refine pl_val (.bool false) (y_assign rfl) ?_
  refine c_nil ?_
  refine c_seq ?_
  refine c_region ?_
  refine pl_val (.slice pa0 pn0 pc0) (y_move rfl) ?_
  refine pl_val (.slice pa1 pn1 pc1) (y_move rfl) ?_
  obtain ⟨r4, hr4, hs⟩ := bind_some hs
  refine pl_call Bd130 rfl (c_impl_productTable (M := M) p q h0 h1 hO.fut hr4) ?_
  rintro _ w3 ⟨a3x0, n3x0, c3x0, f3x0, rfl, hC3, hv3x0, hOc3⟩
  have h0 := h0.ext hC3
  have h1 := h1.ext hC3
  have hC := hC.ext hC3
  have hO := Own.join0 hO hC3 hOc3
  have hO := hO.perm (R := f3x0 ++ ([])) (by simp)
  refine pl_val (.slice pa1 pn1 pc1) (y_move rfl) ?_
  refine pl_val (.slice pa0 pn0 pc0) (y_move rfl) ?_
  obtain ⟨r7, hr7, hs⟩ := bind_some hs
  refine pl_call Bd130 rfl (c_impl_productTable (M := M) q p h1 h0 hO.fut hr7) ?_
  rintro _ w6 ⟨a6x0, n6x0, c6x0, f6x0, rfl, hC6, hv6x0, hOc6⟩
  have h0 := h0.ext hC6
  have h1 := h1.ext hC6
  have hv3x0 := hv3x0.ext hC6
  have hC := hC.ext hC6
  have hO := Own.join0 hO hC6 hOc6
  have hO := hO.perm (R := f6x0 ++ (f3x0 ++ ([]))) (by simp)
  refine pl_val (.slice a3x0 n3x0 c3x0) (y_assign rfl) ?_
  refine pl_val (.slice a6x0 n6x0 c6x0) (y_assign rfl) ?_
  refine c_nil ?_
  refine c_seq ?_
  refine c_seq ?_
  refine c_region ?_
  refine pl_val (.slice a3x0 n3x0 c3x0) (y_move rfl) ?_
  refine pl_val (.int .i64 (r4.length : Int)) (y_len' Sl107 (os_len hv3x0) rfl) ?_
  refine pl_val (.int .i64 0) (y_move rfl) ?_
  refine c_nil ?_
  obtain ⟨o53, hl54, hs⟩ := bind_some hs
  refine wp_block ?_
  refine wp_forC (id := 0) (r4.length : Int) (I := fun k51 s49 a w50 => ∃ (σ : Nat → Value), a = fr 48 (ovl σ [(7, (.slice a6x0 n6x0 c6x0)), (18, (.slice a3x0 n3x0 c3x0)), (19, (.int .i64 (r4.length : Int))), (20, (.int .i64 k51))]) ∧ Chg [] w w50 ∧ Own (Nw w []) M w50 (f6x0 ++ (f3x0 ++ [])) ∧ (RT.os 109 (RT.os 4 RT.bool)).val M w50 (.slice a3x0 n3x0 c3x0) r4 f3x0 ∧ (RT.os 109 (RT.os 4 RT.bool)).val M w50 (.slice a6x0 n6x0 c6x0) r7 f6x0) (J := fun s49 a w50 => ∃ (σ : Nat → Value), a = fr 48 (ovl σ []) ∧ Chg [] w w50 ∧ Own (Nw w []) M w50 (f6x0 ++ (f3x0 ++ [])) ∧ (RT.os 109 (RT.os 4 RT.bool)).val M w50 (.slice a3x0 n3x0 c3x0) r4 f3x0 ∧ (RT.os 109 (RT.os 4 RT.bool)).val M w50 (.slice a6x0 n6x0 c6x0) r7 f6x0) (K := (k_impl_unpermuted M w)) ?_ ?_ 0 () o53 _ _ ?_ hl54 ?_
  · rintro k51 s49 a w50 ⟨σ, rfl, hC, hO, hv3x0, hv6x0⟩ hlt
    refine c_seq ?_
    refine c_region ?_
    refine pl_val (.bool (decide (k51 < (r4.length : Int)))) (y_lss rfl rfl) ?_
    refine c_nil ?_
    refine c_seq ?_
    refine c_condF (congrArg Value.bool (decide_eq_false hlt)) ?_
    refine wp_exit ?_
    have hO := hO.fr1
    have hO := hO.fr1
    exact ⟨rfl, _, fr_ovl 48 trivial, hC, hO, hv3x0, hv6x0⟩
  · rintro k51 s49 o53 a w50 ⟨σ, rfl, hC, hO, hv3x0, hv6x0⟩ hlt hw hs
    refine c_seq ?_
    refine c_region ?_
    refine pl_val (.bool (decide (k51 < (r4.length : Int)))) (y_lss rfl rfl) ?_
    refine c_nil ?_
    refine c_seq ?_
    refine c_condT (congrArg Value.bool (decide_eq_true hlt)) ?_
    refine wp_skip ?_
    refine c_seq ?_
    refine wp_block ?_
    refine c_seq ?_
    refine c_region ?_
    refine pl_val (.int .i64 k51) (y_move rfl) ?_
    obtain ⟨x55, hx55, hs⟩ := bind_some hs
    obtain ⟨g56, f56, hg56, hk56, hp56, ha56, hf56⟩ := os_idx Sl107 Sz109 hv3x0 hx55
    have hb56 := own_row (Frz.os Frz.bool) ha56 hf56
    refine pl_val (.pointer (some ⟨g56, 0 + Int.toNat k51 * 1, none⟩)) (hp56 _ _ _ _ _ _ _ _ _ rfl rfl) ?_
    obtain ⟨v57, hl57, hrow57, hv57⟩ := at_load1 Ag109 Sz109 rfl rfl hb56
    obtain ⟨a57, n57, c57, rfl⟩ := rs_sl hv57
    refine pl_val (.slice a57 n57 c57) (y_load rfl (hl57 _ (Chg.refl _ _))) ?_
    refine pl_val (.int .i64 k51) (y_assign rfl) ?_
    refine pl_val (.slice a57 n57 c57) (y_assign rfl) ?_
    refine c_nil ?_
    refine c_seq ?_
    refine c_region ?_
    refine pl_val (.slice a57 n57 c57) (y_move rfl) ?_
    refine pl_val (.int .i64 (x55.length : Int)) (y_len' Sl109 (rs_len hv57) rfl) ?_
    refine pl_val (.int .i64 0) (y_move rfl) ?_
    refine c_nil ?_
    obtain ⟨o78, hl79, hs⟩ := bind_some hs
    refine wp_block ?_
    refine wp_forC (id := 2) (x55.length : Int) (I := fun k76 s74 a w75 => ∃ (σ : Nat → Value), a = fr 48 (ovl σ [(7, (.slice a6x0 n6x0 c6x0)), (8, (.int .i64 k51)), (18, (.slice a3x0 n3x0 c3x0)), (19, (.int .i64 (r4.length : Int))), (20, (.int .i64 k51)), (25, (.slice a57 n57 c57)), (26, (.int .i64 (x55.length : Int))), (27, (.int .i64 k76))]) ∧ Chg [] w w75 ∧ Own (Nw w []) M w75 (f6x0 ++ (f3x0 ++ [])) ∧ (RT.os 109 (RT.os 4 RT.bool)).val M w75 (.slice a3x0 n3x0 c3x0) r4 f3x0 ∧ (RT.os 109 (RT.os 4 RT.bool)).val M w75 (.slice a6x0 n6x0 c6x0) r7 f6x0 ∧ (RT.rs RT.bool).val (Less M f3x0) w75 (.slice a57 n57 c57) x55 ([])) (J := fun s74 a w75 => ∃ (σ : Nat → Value), a = fr 48 (ovl σ [(7, (.slice a6x0 n6x0 c6x0)), (18, (.slice a3x0 n3x0 c3x0)), (19, (.int .i64 (r4.length : Int))), (20, (.int .i64 k51))]) ∧ Chg [] w w75 ∧ Own (Nw w []) M w75 (f6x0 ++ (f3x0 ++ [])) ∧ (RT.os 109 (RT.os 4 RT.bool)).val M w75 (.slice a3x0 n3x0 c3x0) r4 f3x0 ∧ (RT.os 109 (RT.os 4 RT.bool)).val M w75 (.slice a6x0 n6x0 c6x0) r7 f6x0 ∧ (RT.rs RT.bool).val (Less M f3x0) w75 (.slice a57 n57 c57) x55 ([])) (K := (k_impl_unpermuted M w)) ?_ ?_ 0 () o78 _ _ ?_ hl79 ?_
    · rintro k76 s74 a w75 ⟨σ, rfl, hC, hO, hv3x0, hv6x0, hv57⟩ hlt
      refine c_seq ?_
      refine c_region ?_
      refine pl_val (.bool (decide (k76 < (x55.length : Int)))) (y_lss rfl rfl) ?_
      refine c_nil ?_
      refine c_seq ?_
      refine c_condF (congrArg Value.bool (decide_eq_false hlt)) ?_
      refine wp_exit ?_
      have hO := hO.fr1
      have hO := hO.fr1
      exact ⟨rfl, _, fr_ovl 48 ⟨rfl, rfl, rfl, rfl, trivial⟩, hC, hO, hv3x0, hv6x0, hv57⟩
    · rintro k76 s74 o78 a w75 ⟨σ, rfl, hC, hO, hv3x0, hv6x0, hv57⟩ hlt hw hs
      refine c_seq ?_
      refine c_region ?_
      refine pl_val (.bool (decide (k76 < (x55.length : Int)))) (y_lss rfl rfl) ?_
      refine c_nil ?_
      refine c_seq ?_
      refine c_condT (congrArg Value.bool (decide_eq_true hlt)) ?_
      refine wp_skip ?_
      refine c_seq ?_
      refine wp_block ?_
      refine c_seq ?_
      refine c_region ?_
      refine pl_val (.int .i64 k76) (y_move rfl) ?_
      obtain ⟨x80, hx80, hs⟩ := bind_some hs
      obtain ⟨b81, o81, hp81, ha81⟩ := rs_idx Sl109 Sz4 hv57 hx80
      refine pl_val (.pointer (some ⟨b81, o81, none⟩)) (hp81 _ _ _ _ _ _ _ _ _ rfl rfl) ?_
      refine pl_val (.bool x80) (y_load rfl ((at_load_bool Ag4 Sz4 ha81) _ (Chg.refl _ _))) ?_
      refine pl_val (.int .i64 k76) (y_assign rfl) ?_
      refine pl_val (.bool x80) (y_assign rfl) ?_
      refine c_nil ?_
      refine c_seq ?_
      obtain ⟨s82, hm84, hs⟩ := bind_some hs
      refine c_mid (I := fun a w83 => ∃ (σ : Nat → Value), a = fr 48 (ovl σ [(7, (.slice a6x0 n6x0 c6x0)), (8, (.int .i64 k51)), (10, (.int .i64 k76)), (18, (.slice a3x0 n3x0 c3x0)), (19, (.int .i64 (r4.length : Int))), (20, (.int .i64 k51)), (25, (.slice a57 n57 c57)), (26, (.int .i64 (x55.length : Int))), (27, (.int .i64 k76)), (42, (.bool s82))]) ∧ Chg [] w75 w83) ?_ ?_
      · replace hs := hm84
        have hMid := Chg.refl [] w75
        refine c_region ?_
        refine pl_val (.bool x80) (y_move rfl) ?_
        refine pl_val (.bool x80) (y_move rfl) ?_
        rcases bif_some hs with ⟨hc85, hs⟩ | ⟨hc85, hs⟩
        · skip
          refine pl_yes (.slice a6x0 n6x0 c6x0) (tg := 33) (by kernel_rfl) (congrArg Value.bool hc85) (y_move rfl) ?_
          refine pl_yes (.int .i64 k51) (tg := 33) (by kernel_rfl) (congrArg Value.bool hc85) (y_move rfl) ?_
          obtain ⟨x86, hx86, hs⟩ := bind_some hs
          obtain ⟨g87, f87, hg87, hk87, hp87, ha87, hf87⟩ := os_idx Sl107 Sz109 hv6x0 hx86
          have hb87 := own_row (Frz.os Frz.bool) ha87 hf87
          refine pl_yes (.pointer (some ⟨g87, 0 + Int.toNat k51 * 1, none⟩)) (tg := 33) (by kernel_rfl) (congrArg Value.bool hc85) (hp87 _ _ _ _ _ _ _ _ _ rfl rfl) ?_
          obtain ⟨v88, hl88, hrow88, hv88⟩ := at_load1 Ag109 Sz109 rfl rfl hb87
          obtain ⟨a88, n88, c88, rfl⟩ := rs_sl hv88
          refine pl_yes (.slice a88 n88 c88) (tg := 33) (by kernel_rfl) (congrArg Value.bool hc85) (y_load rfl (hl88 _ (Chg.refl _ _))) ?_
          refine pl_yes (.int .i64 k76) (tg := 33) (by kernel_rfl) (congrArg Value.bool hc85) (y_move rfl) ?_
          obtain ⟨x90, hx90, hs⟩ := bind_some hs
          obtain ⟨fr91, hrr91, hfr91, _, _⟩ := os_put hg87 hv6x0 hx86 hrow88 rfl hO.inM
          obtain ⟨g91, f91, hg91, hk91, hp91, ha91, hf91⟩ := os_idx Sl109 Sz4 (show (RT.os 4 RT.bool).val M w75 (.slice a88 n88 c88) _ fr91 from ⟨[_], rfl, hrr91⟩) hx90
          refine pl_yes (.pointer (some ⟨g91, 0 + Int.toNat k76 * 1, none⟩)) (tg := 33) (by kernel_rfl) (congrArg Value.bool hc85) (hp91 _ _ _ _ _ _ _ _ _ rfl rfl) ?_
          refine pl_yes (.bool x90) (tg := 33) (by kernel_rfl) (congrArg Value.bool hc85) (y_load rfl ((at_load_bool Ag4 Sz4 ha91) _ (Chg.refl _ _))) ?_
          refine pl_yes (.bool (!x90)) (tg := 33) (by kernel_rfl) (congrArg Value.bool hc85) (y_not rfl) ?_
          refine pl_val (.bool (!x90)) (y_pick_t (congrArg Value.bool hc85) rfl) ?_
          refine c_nil ?_
          cases hs
          exact ⟨_, fr_ovl 48 ⟨rfl, rfl, rfl, rfl, rfl, rfl, rfl, rfl, rfl, rfl, trivial⟩, hMid⟩
        · skip
          refine pl_not (tg := 33) (by kernel_rfl) (congrArg Value.bool hc85) ?_
          refine pl_not (tg := 33) (by kernel_rfl) (congrArg Value.bool hc85) ?_
          refine pl_not (tg := 33) (by kernel_rfl) (congrArg Value.bool hc85) ?_
          refine pl_not (tg := 33) (by kernel_rfl) (congrArg Value.bool hc85) ?_
          refine pl_not (tg := 33) (by kernel_rfl) (congrArg Value.bool hc85) ?_
          refine pl_not (tg := 33) (by kernel_rfl) (congrArg Value.bool hc85) ?_
          refine pl_not (tg := 33) (by kernel_rfl) (congrArg Value.bool hc85) ?_
          refine pl_not (tg := 33) (by kernel_rfl) (congrArg Value.bool hc85) ?_
          refine pl_val (.bool false) (y_pick_f (congrArg Value.bool hc85) rfl) ?_
          refine c_nil ?_
          cases hs
          exact ⟨_, fr_ovl 48 ⟨rfl, rfl, rfl, rfl, rfl, rfl, rfl, rfl, rfl, rfl, trivial⟩, hMid⟩
      · rintro a1 w83 ⟨σ, rfl, hCs82⟩
        have hv3x0 := hv3x0.ext hCs82
        have hv6x0 := hv6x0.ext hCs82
        have hv57 := hv57.ext hCs82
        have hC := hC.ext hCs82
        have hO := hO.ext hCs82
        rcases bif_some hs with ⟨hc92, hs⟩ | ⟨hc92, hs⟩
        · skip
          refine c_condT (congrArg Value.bool hc92) ?_
          refine c_seq ?_
          refine c_region ?_
          refine pl_val (.int .i64 k51) (y_move rfl) ?_
          refine pl_val (.int .i64 k76) (y_move rfl) ?_
          obtain ⟨w93, g93, ew93, eg93, hC93, hb93⟩ := new_block w83 [(.int .i64 k51), (.int .i64 k76)] 3
          refine pl_val (w' := w93) (.slice (some ⟨g93, 0, none⟩) 2 2) (y_bslice rfl (by rw [ew93, eg93]; kernel_rfl)) ?_
          have hv3x0 := hv3x0.ext hC93
          have hv6x0 := hv6x0.ext hC93
          have hv57 := hv57.ext hC93
          have hC := hC.ext hC93
          have hO := hO.new (X' := [g93]) hC93 (fun q hq => by rw [List.mem_singleton.1 hq, eg93]; exact Nat.le_refl _) (List.nodup_cons.2 ⟨(fun h => nomatch h), List.nodup_nil⟩) (fun q hq => by rw [List.mem_singleton.1 hq]; exact hb93.lt)
          have hv93 := os_of_box (r := (RT.int .i64)) (M := M) (css := [[(.int .i64 k51)], [(.int .i64 k76)]]) (fps := [([] : List Nat), ([] : List Nat)]) (xs := ([k51, k76] : List Int)) hb93 ⟨⟨rfl, rfl⟩, ⟨⟨rfl, rfl⟩, trivial⟩⟩ (Nat.le_of_ble_eq_true rfl) (List.nodup_cons.2 ⟨(fun h => nomatch h), List.nodup_nil⟩)
          have hv93 : (RT.os 3 (RT.int .i64)).val M w93 (.slice (some ⟨g93, 0, none⟩) 2 2) [k51, k76] [g93] := hv93
          refine pl_val (.slice (some ⟨g93, 0, none⟩) 2 2) (y_assign rfl) ?_
          refine pl_val (.bool true) (y_assign rfl) ?_
          refine c_nil ?_
          refine wp_ret ?_
          cases hs
          have hO := hO.fr1
          have hO := hO.drop
          have hO := hO.fr1
          have hO := hO.drop
          exact ⟨_, (some ⟨g93, 0, none⟩), 2, 2, ([g93]), fr_ovl 48 ⟨rfl, rfl, trivial⟩, hC, hv93, hO.top⟩
        · skip
          refine c_condF (congrArg Value.bool hc92) ?_
          refine wp_skip ?_
          refine c_region ?_
          refine pl_val (.int .i64 (w64 (k76 + 1))) (y_add rfl rfl) ?_
          refine pl_val (.int .i64 (w64 (k76 + 1))) (y_move rfl) ?_
          refine c_nil ?_
          cases hs
          have hO := hO.fr1
          have hO := hO.fr1
          exact ⟨_, fr_ovl 48 ⟨rfl, rfl, rfl, rfl, rfl, rfl, rfl, congrArg (Value.int .i64) hw, trivial⟩, hC, hO, hv3x0, hv6x0, hv57⟩
    · skip
      have hO := hO.fr1
      have hO := hO.fr1
      exact ⟨_, fr_ovl 48 ⟨rfl, rfl, rfl, rfl, rfl, rfl, rfl, rfl, trivial⟩, hC, hO, hv3x0, hv6x0, hv57⟩
    · cases o78 with
      | nx _ => exact True.intro
      | rt r_ =>
        have hs := after_rt hs
        intro a1 w1 hK
        cases hs
        exact hK
      | br s74 =>
        have hs := after_br hs
        rintro a1 w75 ⟨σ, rfl, hC, hO, hv3x0, hv6x0, hv57⟩
        refine c_region ?_
        refine pl_val (.int .i64 (w64 (k51 + 1))) (y_add rfl rfl) ?_
        refine pl_val (.int .i64 (w64 (k51 + 1))) (y_move rfl) ?_
        refine c_nil ?_
        cases hs
        have hO := hO.fr1
        have hO := hO.fr1
        exact ⟨_, fr_ovl 48 ⟨rfl, rfl, rfl, congrArg (Value.int .i64) hw, trivial⟩, hC, hO, hv3x0, hv6x0⟩
  · skip
    have hO := hO.fr1
    have hO := hO.fr1
    exact ⟨_, fr_ovl 48 ⟨rfl, rfl, rfl, rfl, trivial⟩, hC, hO, hv3x0, hv6x0⟩
  · cases o53 with
    | nx _ => exact True.intro
    | rt r_ =>
      have hs := after_rt hs
      intro a1 w1 hK
      cases hs
      exact hK
    | br s49 =>
      have hs := after_br hs
      rintro a1 w50 ⟨σ, rfl, hC, hO, hv3x0, hv6x0⟩
      refine c_seq ?_
      refine c_region ?_
      refine pl_val (.slice none 0 0) (y_assign rfl) ?_
      refine pl_val (.bool false) (y_assign rfl) ?_
      refine c_nil ?_
      refine wp_ret ?_
      cases hs
      have hO := hO.drop
      have hO := hO.drop
      have hO := hO.nil
      exact ⟨_, none, 0, 0, [], fr_ovl 48 ⟨rfl, rfl, trivial⟩, hC, os_nil, hO.top⟩

theorem Bd113 : Bodied Try.prog 113 := bodied Try.func113 (by kernel_rfl) rfl

def k_impl_permute (M : Nat → Prop) (w0 : World) (r : Bool) (a : Act) (w : World) : Prop :=
  ∃ (σ : Nat → Value) , a = fr 15 (ovl σ [(4, (.bool r))]) ∧ Chg [] w0 w
def s_impl_permute (p : List Int) (q : List Int) : Option (Bool) :=
  (s_impl_unpermuted p q).bind fun r4 =>
  some (!r4.2)
set_option maxHeartbeats 4000000 in
theorem c_impl_permute {M : Nat → Prop} {w : World} {pa0 : Option Addr} {pn0 pc0 : Nat} {pa1 : Option Addr} {pn1 pc1 : Nat} (p : List Int) (q : List Int) (h0 : (RT.rs (RT.int .i64)).val M w (.slice pa0 pn0 pc0) p ([])) (h1 : (RT.rs (RT.int .i64)).val M w (.slice pa1 pn1 pc1) q ([])) (hM : ∀ g, w.heap.size ≤ g → M g) {r : Bool} (hs : s_impl_permute p q = some r) :
    Gives Try.prog 92 [(.slice pa0 pn0 pc0), (.slice pa1 pn1 pc1)] w (fun v w' => v = (.bool r) ∧ Chg [] w w') := by
  refine calls_fr Try.func92 rfl Try.ntmps92 (Nat.le_of_ble_eq_true rfl) ?_
  have hO := Own.start (N := Nw w []) hM Nw.fut
  have hC := Chg.refl [] w
  unfold s_impl_permute at hs
  refine wp_mono (Q := KPost (k_impl_permute M w r)) ?_ (fun e a w1 h => ?_)
  rotate_left
  · cases e
    case ret =>
      obtain ⟨σ, rfl, hrest⟩ := h
      exact ret1x Try.results92 (res_tmp rfl) ⟨rfl, hrest⟩
    all_goals exact (h : False).elim
  refine c_seq ?_
  refine c_region ?_
  refine pl_val (.bool false) (y_assign rfl) ?_
  refine c_nil ?_
  refine c_seq ?_
  refine c_region ?_
  refine pl_val (.slice pa0 pn0 pc0) (y_move rfl) ?_
  refine pl_val (.slice pa1 pn1 pc1) (y_move rfl) ?_
  obtain ⟨r4, hr4, hs⟩ := bind_some hs
  refine pl_call Bd113 rfl (c_impl_unpermuted (M := M) p q h0 h1 hO.fut hr4) ?_
  rintro _ w3 ⟨a3x0, n3x0, c3x0, f3x0, rfl, hC3, hv3x0, hOc3⟩
  have h0 := h0.ext hC3
  have h1 := h1.ext hC3
  have hC := hC.ext hC3
  have hO := Own.join0 hO hC3 hOc3
  have hO := hO.perm (R := f3x0 ++ ([])) (by simp)
  refine pl_val (.tuple #[(.slice a3x0 n3x0 c3x0), (.bool r4.2)]) (y_move rfl) ?_
  refine pl_val (.slice a3x0 n3x0 c3x0) (y_extract rfl (by kernel_rfl)) ?_
  refine pl_val (.bool r4.2) (y_extract rfl (by kernel_rfl)) ?_
  refine pl_val (.slice a3x0 n3x0 c3x0) (y_assign rfl) ?_
  refine pl_val (.bool r4.2) (y_assign rfl) ?_
  refine c_nil ?_
  refine c_seq ?_
  refine c_region ?_
  refine pl_val (.bool r4.2) (y_move rfl) ?_
  refine pl_val (.bool (!r4.2)) (y_not rfl) ?_
  refine pl_val (.bool (!r4.2)) (y_assign rfl) ?_
  refine c_nil ?_
  refine wp_ret ?_
  cases hs
  exact ⟨_, fr_ovl 15 ⟨rfl, trivial⟩, hC⟩

theorem Bd92 : Bodied Try.prog 92 := bodied Try.func92 (by kernel_rfl) rfl

def k_impl_pairApart (M : Nat → Prop) (w0 : World) (r : (List Int) × (List Int) × Bool) (a : Act) (w : World) : Prop :=
  ∃ (σ : Nat → Value) (ra0 : Option Addr) (rn0 rc0 : Nat) (ra1 : Option Addr) (rn1 rc1 : Nat), a = fr 33 (ovl σ [(2, (.slice ra0 rn0 rc0)), (3, (.slice ra1 rn1 rc1)), (4, (.bool r.2.2))]) ∧ Chg [] w0 w ∧ (RT.rs (RT.int .i64)).val (Past M w0 w) w (.slice ra0 rn0 rc0) r.1 [] ∧ (RT.rs (RT.int .i64)).val (Past M w0 w) w (.slice ra1 rn1 rc1) r.2.1 []
def s_impl_pairApart (all : List (List Int)) : Option ((List Int) × (List Int) × Bool) :=
  (forC (S := Unit) (R := (List Int) × (List Int) × Bool) (fun k29 s27 =>
  (idx all k29).bind fun x33 =>
  (slc all (w64 (k29 + 1)) (all.length : Int)).bind fun y38 =>
  (forR (S := Unit) (R := (List Int) × (List Int) × Bool) (fun _ x49 s46 =>
  (s_impl_permute x33 x49).bind fun r56 =>
  (bif (!r56) then some (.rt (x33, x49, true)) else some (.nx ()))) 0 y38 ()).bind fun o50 => after o50 (fun r_ => some (.rt r_)) (fun s46 =>
  some (.nx ()))) 0 (all.length : Int) ()).bind fun o31 => after o31 (fun r_ => some r_) (fun s27 =>
  some ([], [], false))
set_option maxHeartbeats 4000000 in
theorem c_impl_pairApart {M : Nat → Prop} {w : World} {pa0 : Option Addr} {pn0 pc0 : Nat} (all : List (List Int)) (h0 : (RT.rs (RT.rs (RT.int .i64))).val M w (.slice pa0 pn0 pc0) all ([])) (hM : ∀ g, w.heap.size ≤ g → M g) {r : (List Int) × (List Int) × Bool} (hs : s_impl_pairApart all = some r) :
    Gives Try.prog 61 [(.slice pa0 pn0 pc0)] w (fun v w' => ∃ (ra0 : Option Addr) (rn0 rc0 : Nat) (ra1 : Option Addr) (rn1 rc1 : Nat), v = (.tuple #[(.slice ra0 rn0 rc0), (.slice ra1 rn1 rc1), (.bool r.2.2)]) ∧ Chg [] w w' ∧ (RT.rs (RT.int .i64)).val (Past M w w') w' (.slice ra0 rn0 rc0) r.1 [] ∧ (RT.rs (RT.int .i64)).val (Past M w w') w' (.slice ra1 rn1 rc1) r.2.1 []) := by
  refine calls_fr Try.func61 rfl Try.ntmps61 (Nat.le_of_ble_eq_true rfl) ?_
  have hO := Own.start (N := Nw w []) hM Nw.fut
  have hC := Chg.refl [] w
  unfold s_impl_pairApart at hs
  refine wp_mono (Q := KPost (k_impl_pairApart M w r)) ?_ (fun e a w1 h => ?_)
  rotate_left
  · cases e
    case ret =>
      obtain ⟨σ, ra0, rn0, rc0, ra1, rn1, rc1, rfl, hrest⟩ := h
      exact ret3x Try.results61 (res_tmp rfl) (res_tmp rfl) (res_tmp rfl) ⟨ra0, rn0, rc0, ra1, rn1, rc1, rfl, hrest⟩
    all_goals exact (h : False).elim
  refine c_seq ?_
  refine c_region ?_
  refine pl_val (.slice none 0 0) (y_assign rfl) ?_
  refine pl_val (.slice none 0 0) (y_assign rfl) ?_
  refine pl_val (.bool false) (y_assign rfl) ?_
  refine c_nil ?_
  refine c_seq ?_
  refine c_seq ?_
  refine c_region ?_
  refine pl_val (.slice pa0 pn0 pc0) (y_move rfl) ?_
  refine pl_val (.int .i64 (all.length : Int)) (y_len' Sl41 (rs_len h0) rfl) ?_
  refine pl_val (.int .i64 0) (y_move rfl) ?_
  refine c_nil ?_
  obtain ⟨o31, hl32, hs⟩ := bind_some hs
  refine wp_block ?_
  refine wp_forC (id := 0) (all.length : Int) (I := fun k29 s27 a w28 => ∃ (σ : Nat → Value), a = fr 33 (ovl σ [(0, (.slice pa0 pn0 pc0)), (9, (.slice pa0 pn0 pc0)), (10, (.int .i64 (all.length : Int))), (11, (.int .i64 k29))]) ∧ Chg [] w w28 ∧ Own (Nw w []) M w28 ([]) ∧ (RT.rs (RT.rs (RT.int .i64))).val M w28 (.slice pa0 pn0 pc0) all ([])) (J := fun s27 a w28 => ∃ (σ : Nat → Value), a = fr 33 (ovl σ []) ∧ Chg [] w w28 ∧ Own (Nw w []) M w28 ([]) ∧ (RT.rs (RT.rs (RT.int .i64))).val M w28 (.slice pa0 pn0 pc0) all ([])) (K := (k_impl_pairApart M w)) ?_ ?_ 0 () o31 _ _ ?_ hl32 ?_
  · rintro k29 s27 a w28 ⟨σ, rfl, hC, hO, h0⟩ hlt
    refine c_seq ?_
    refine c_region ?_
    refine pl_val (.bool (decide (k29 < (all.length : Int)))) (y_lss rfl rfl) ?_
    refine c_nil ?_
    refine c_seq ?_
    refine c_condF (congrArg Value.bool (decide_eq_false hlt)) ?_
    refine wp_exit ?_
    exact ⟨rfl, _, fr_ovl 33 trivial, hC, hO, h0⟩
  · rintro k29 s27 o31 a w28 ⟨σ, rfl, hC, hO, h0⟩ hlt hw hs
    refine c_seq ?_
    refine c_region ?_
    refine pl_val (.bool (decide (k29 < (all.length : Int)))) (y_lss rfl rfl) ?_
    refine c_nil ?_
    refine c_seq ?_
    refine c_condT (congrArg Value.bool (decide_eq_true hlt)) ?_
    refine wp_skip ?_
    refine c_seq ?_
    refine wp_block ?_
    refine c_seq ?_
    refine c_region ?_
    refine pl_val (.int .i64 k29) (y_move rfl) ?_
    obtain ⟨x33, hx33, hs⟩ := bind_some hs
    obtain ⟨b34, o34, hp34, ha34⟩ := rs_idx Sl41 Sz22 h0 hx33
    refine pl_val (.pointer (some ⟨b34, o34, none⟩)) (hp34 _ _ _ _ _ _ _ _ _ rfl rfl) ?_
    obtain ⟨v35, hl35, hv35⟩ := at_load Ag22 Sz22 (fun _ => rfl) ha34
    obtain ⟨a35, n35, c35, rfl⟩ := rs_sl hv35
    refine pl_val (.slice a35 n35 c35) (y_load rfl (hl35 _ (Chg.refl _ _))) ?_
    refine pl_val (.int .i64 k29) (y_assign rfl) ?_
    refine pl_val (.slice a35 n35 c35) (y_assign rfl) ?_
    refine c_nil ?_
    refine c_seq ?_
    refine c_region ?_
    refine pl_val (.slice pa0 pn0 pc0) (y_move rfl) ?_
    refine pl_val (.int .i64 k29) (y_move rfl) ?_
    refine pl_val (.int .i64 (w64 (k29 + 1))) (y_add rfl rfl) ?_
    obtain ⟨y38, hy38, hs⟩ := bind_some hs
    obtain ⟨a37, n37, c37, hv37, hr37, hq37, hz37⟩ := rs_part Try.underlying41 Sz22 h0 hy38
    refine pl_val (.slice a37 n37 c37) (y_slice rfl rfl rfl (hz37 rfl _)) ?_
    refine pl_val (.int .i64 (y38.length : Int)) (y_len' Sl41 (rs_len hv37) rfl) ?_
    refine pl_val (.int .i64 0) (y_move rfl) ?_
    refine c_nil ?_
    obtain ⟨o50, hl51, hs⟩ := bind_some hs
    refine wp_block ?_
    refine wp_forR (id := 2) (I := fun i_ xs_ s46 a w47 => ∃ k48 : Nat, i_ = (k48 : Int) ∧ List.drop k48 y38 = xs_ ∧ (∃ (σ : Nat → Value), a = fr 33 (ovl σ [(0, (.slice pa0 pn0 pc0)), (6, (.slice a35 n35 c35)), (9, (.slice pa0 pn0 pc0)), (10, (.int .i64 (all.length : Int))), (11, (.int .i64 k29)), (19, (.slice a37 n37 c37)), (20, (.int .i64 (y38.length : Int))), (21, (.int .i64 (k48 : Int)))]) ∧ Chg [] w w47 ∧ Own (Nw w []) M w47 ([]) ∧ (RT.rs (RT.rs (RT.int .i64))).val M w47 (.slice pa0 pn0 pc0) all ([]) ∧ (RT.rs (RT.int .i64)).val M w47 (.slice a35 n35 c35) x33 ([]) ∧ (RT.rs (RT.rs (RT.int .i64))).val M w47 (.slice a37 n37 c37) y38 ([]))) (J := fun s46 a w47 => ∃ (σ : Nat → Value), a = fr 33 (ovl σ [(0, (.slice pa0 pn0 pc0)), (9, (.slice pa0 pn0 pc0)), (10, (.int .i64 (all.length : Int))), (11, (.int .i64 k29))]) ∧ Chg [] w w47 ∧ Own (Nw w []) M w47 ([]) ∧ (RT.rs (RT.rs (RT.int .i64))).val M w47 (.slice pa0 pn0 pc0) all ([]) ∧ (RT.rs (RT.int .i64)).val M w47 (.slice a35 n35 c35) x33 ([]) ∧ (RT.rs (RT.rs (RT.int .i64))).val M w47 (.slice a37 n37 c37) y38 ([])) (K := (k_impl_pairApart M w)) ?_ ?_ y38 0 () o50 _ _ ?_ hl51 ?_
    · rintro _ s46 a w47 ⟨k48, rfl, hd, σ, rfl, hC, hO, h0, hv35, hv37⟩
      have hlt := drop_nil_ge hd
      refine c_seq ?_
      refine c_region ?_
      refine pl_val (.bool (decide ((k48 : Int) < (y38.length : Int)))) (y_lss rfl rfl) ?_
      refine c_nil ?_
      refine c_seq ?_
      refine c_condF (congrArg Value.bool (decide_eq_false hlt)) ?_
      refine wp_exit ?_
      exact ⟨rfl, _, fr_ovl 33 ⟨rfl, rfl, rfl, rfl, trivial⟩, hC, hO, h0, hv35, hv37⟩
    · rintro _ x49 xs_ s46 o50 a w47 ⟨k48, rfl, hd, σ, rfl, hC, hO, h0, hv35, hv37⟩ hs
      have hlt := drop_cons_lt hd
      have hxk48 := drop_cons_idx hd
      refine c_seq ?_
      refine c_region ?_
      refine pl_val (.bool (decide ((k48 : Int) < (y38.length : Int)))) (y_lss rfl rfl) ?_
      refine c_nil ?_
      refine c_seq ?_
      refine c_condT (congrArg Value.bool (decide_eq_true hlt)) ?_
      refine wp_skip ?_
      refine c_seq ?_
      refine wp_block ?_
      refine c_seq ?_
      refine c_region ?_
      obtain ⟨b52, o52, hp52, ha52⟩ := rs_idx Sl41 Sz22 hv37 hxk48
      refine pl_val (.pointer (some ⟨b52, o52, none⟩)) (hp52 _ _ _ _ _ _ _ _ _ rfl rfl) ?_
      obtain ⟨v53, hl53, hv53⟩ := at_load Ag22 Sz22 (fun _ => rfl) ha52
      obtain ⟨a53, n53, c53, rfl⟩ := rs_sl hv53
      refine pl_val (.slice a53 n53 c53) (y_load rfl (hl53 _ (Chg.refl _ _))) ?_
      refine pl_val (.slice a53 n53 c53) (y_assign rfl) ?_
      refine c_nil ?_
      refine c_seq ?_
      refine c_region ?_
      refine pl_val (.slice a35 n35 c35) (y_move rfl) ?_
      refine pl_val (.slice a53 n53 c53) (y_move rfl) ?_
      obtain ⟨r56, hr56, hs⟩ := bind_some hs
      refine pl_call Bd92 rfl (c_impl_permute (M := M) x33 x49 hv35 hv53 hO.fut hr56) ?_
      rintro _ w55 ⟨rfl, hC55⟩
      have h0 := h0.ext hC55
      have hv35 := hv35.ext hC55
      have hv37 := hv37.ext hC55
      have hv53 := hv53.ext hC55
      have hC := hC.ext hC55
      have hO := hO.ext hC55
      refine pl_val (.bool (!r56)) (y_not rfl) ?_
      refine c_nil ?_
      rcases bif_some hs with ⟨hc57, hs⟩ | ⟨hc57, hs⟩
      · skip
        refine c_condT (congrArg Value.bool hc57) ?_
        refine c_seq ?_
        refine c_region ?_
        refine pl_val (.slice a35 n35 c35) (y_move rfl) ?_
        refine pl_val (.slice a53 n53 c53) (y_move rfl) ?_
        refine pl_val (.slice a35 n35 c35) (y_assign rfl) ?_
        refine pl_val (.slice a53 n53 c53) (y_assign rfl) ?_
        refine pl_val (.bool true) (y_assign rfl) ?_
        refine c_nil ?_
        refine wp_ret ?_
        cases hs
        exact ⟨_, a35, n35, c35, a53, n53, c53, fr_ovl 33 ⟨rfl, rfl, rfl, trivial⟩, hC, (Keeps.out Keeps.refl hv35), (Keeps.out Keeps.refl hv53)⟩
      · skip
        refine c_condF (congrArg Value.bool hc57) ?_
        refine wp_skip ?_
        refine c_region ?_
        refine pl_val (.int .i64 (w64 ((k48 : Int) + 1))) (y_add rfl rfl) ?_
        refine pl_val (.int .i64 (w64 ((k48 : Int) + 1))) (y_move rfl) ?_
        refine c_nil ?_
        cases hs
        exact ⟨_, rfl, drop_cons_next hd, _, fr_ovl 33 ⟨rfl, rfl, rfl, rfl, rfl, rfl, rfl, congrArg (Value.int .i64) (w64_succ hlt (Int.natCast_nonneg _) (rs_max hv37)), trivial⟩, hC, hO, h0, hv35, hv37⟩
    · skip
      exact ⟨0, rfl, rfl, _, fr_ovl 33 ⟨rfl, rfl, rfl, rfl, rfl, rfl, rfl, rfl, trivial⟩, hC, hO, h0, hv35, hv37⟩
    · cases o50 with
      | nx _ => exact True.intro
      | rt r_ =>
        have hs := after_rt hs
        intro a1 w1 hK
        cases hs
        exact hK
      | br s46 =>
        have hs := after_br hs
        rintro a1 w47 ⟨σ, rfl, hC, hO, h0, hv35, hv37⟩
        refine c_region ?_
        refine pl_val (.int .i64 (w64 (k29 + 1))) (y_add rfl rfl) ?_
        refine pl_val (.int .i64 (w64 (k29 + 1))) (y_move rfl) ?_
        refine c_nil ?_
        cases hs
        exact ⟨_, fr_ovl 33 ⟨rfl, rfl, rfl, congrArg (Value.int .i64) hw, trivial⟩, hC, hO, h0⟩
  · skip
    exact ⟨_, fr_ovl 33 ⟨rfl, rfl, rfl, rfl, trivial⟩, hC, hO, h0⟩
  · cases o31 with
    | nx _ => exact True.intro
    | rt r_ =>
      have hs := after_rt hs
      intro a1 w1 hK
      cases hs
      exact hK
    | br s27 =>
      have hs := after_br hs
      rintro a1 w28 ⟨σ, rfl, hC, hO, h0⟩
      refine c_seq ?_
      refine c_region ?_
      refine pl_val (.slice none 0 0) (y_assign rfl) ?_
      refine pl_val (.slice none 0 0) (y_assign rfl) ?_
      refine pl_val (.bool false) (y_assign rfl) ?_
      refine c_nil ?_
      refine wp_ret ?_
      cases hs
      exact ⟨_, none, 0, 0, none, 0, 0, fr_ovl 33 ⟨rfl, rfl, rfl, trivial⟩, hC, rs_nil, rs_nil⟩

theorem Bd53 : Bodied Try.prog 53 := bodied Try.func53 (by kernel_rfl) rfl

theorem Bd61 : Bodied Try.prog 61 := bodied Try.func61 (by kernel_rfl) rfl

def k_impl_ArePermutable (M : Nat → Prop) (w0 : World) (r : Bool × Bool) (a : Act) (w : World) : Prop :=
  ∃ (σ : Nat → Value) , a = fr 24 (ovl σ [(2, (.bool r.1)), (3, (.bool r.2))]) ∧ Chg [] w0 w
def s_impl_ArePermutable (a_ : Int × (List (Int × (List Int)))) : Option (Bool × Bool) :=
  (s_impl_fewCongruences (a_.1, a_.2)).bind fun r4 =>
  (bif (!r4.2) then some (false, false) else (s_impl_pairApart r4.1).bind fun r9 =>
  some ((!r9.2.2), true))
set_option maxHeartbeats 4000000 in
theorem c_impl_ArePermutable {M : Nat → Prop} {w : World} {pa0 : Option Addr} {pn0 pc0 : Nat} (a_ : Int × (List (Int × (List Int)))) (h0 : (RT.rs (RT.pr (RT.int .i64) (RT.rs (RT.int .i64)))).val M w (.slice pa0 pn0 pc0) a_.2 ([])) (hM : ∀ g, w.heap.size ≤ g → M g) {r : Bool × Bool} (hs : s_impl_ArePermutable a_ = some r) :
    Gives Try.prog 27 [(.agg #[(.int .i64 a_.1), (.slice pa0 pn0 pc0)])] w (fun v w' => v = (.tuple #[(.bool r.1), (.bool r.2)]) ∧ Chg [] w w') := by
  refine calls_fr Try.func27 rfl Try.ntmps27 (Nat.le_of_ble_eq_true rfl) ?_
  have hO := Own.start (N := Nw w []) hM Nw.fut
  have hC := Chg.refl [] w
  unfold s_impl_ArePermutable at hs
  refine wp_mono (Q := KPost (k_impl_ArePermutable M w r)) ?_ (fun e a w1 h => ?_)
  rotate_left
  · cases e
    case ret =>
      obtain ⟨σ, rfl, hrest⟩ := h
      exact ret2x Try.results27 (res_tmp rfl) (res_tmp rfl) ⟨rfl, hrest⟩
    all_goals exact (h : False).elim
  refine c_seq ?_
  refine c_region ?_
  obtain ⟨w2, g2, ew2, eg2, hC2, hb2⟩ := new_block w [(.int .i64 a_.1), (.slice pa0 pn0 pc0)] 35
  refine pl_val (w' := w2) (.pointer (some ⟨g2, 0, none⟩)) (y_box rfl (by rw [ew2, eg2]; kernel_rfl)) ?_
  have h0 := h0.ext hC2
  have hC := hC.ext hC2
  have hO := hO.new (X' := [g2]) hC2 (fun q hq => by rw [List.mem_singleton.1 hq, eg2]; exact Nat.le_refl _) (List.nodup_cons.2 ⟨(fun h => nomatch h), List.nodup_nil⟩) (fun q hq => by rw [List.mem_singleton.1 hq]; exact hb2.lt)
  refine pl_val (.bool false) (y_assign rfl) ?_
  refine pl_val (.bool false) (y_assign rfl) ?_
  refine c_nil ?_
  refine c_seq ?_
  refine c_region ?_
  refine pl_val (.agg #[(.int .i64 a_.1), (.slice pa0 pn0 pc0)]) (y_load rfl ((box_load Ag35 Sz35 hb2 [] [(.int .i64 a_.1), (.slice pa0 pn0 pc0)] [] rfl rfl (fun h => nomatch h)) _ (Chg.refl _ _))) ?_
  obtain ⟨r4, hr4, hs⟩ := bind_some hs
  refine pl_call Bd53 rfl (c_impl_fewCongruences (M := M) (a_.1, a_.2) h0 hO.fut hr4) ?_
  rintro _ w3 ⟨a3x0, n3x0, c3x0, f3x0, rfl, hC3, hv3x0, hOc3⟩
  have h0 := h0.ext hC3
  have hb2 := hb2.chg hC3 (fun h => nomatch h)
  have hC := hC.ext hC3
  have hO := Own.join0 hO hC3 hOc3
  have hO := hO.perm (R := f3x0 ++ (([g2]) ++ ([]))) (by simp)
  refine pl_val (.tuple #[(.slice a3x0 n3x0 c3x0), (.bool r4.2)]) (y_move rfl) ?_
  refine pl_val (.slice a3x0 n3x0 c3x0) (y_extract rfl (by kernel_rfl)) ?_
  refine pl_val (.bool r4.2) (y_extract rfl (by kernel_rfl)) ?_
  refine pl_val (.slice a3x0 n3x0 c3x0) (y_assign rfl) ?_
  refine pl_val (.bool r4.2) (y_assign rfl) ?_
  refine c_nil ?_
  refine c_seq ?_
  refine c_seq ?_
  refine c_region ?_
  refine pl_val (.bool r4.2) (y_move rfl) ?_
  refine pl_val (.bool (!r4.2)) (y_not rfl) ?_
  refine c_nil ?_
  rcases bif_some hs with ⟨hc6, hs⟩ | ⟨hc6, hs⟩
  · skip
    refine c_condT (congrArg Value.bool hc6) ?_
    refine c_seq ?_
    refine c_region ?_
    refine pl_val (.bool false) (y_assign rfl) ?_
    refine pl_val (.bool false) (y_assign rfl) ?_
    refine c_nil ?_
    refine wp_ret ?_
    cases hs
    exact ⟨_, fr_ovl 24 ⟨rfl, rfl, trivial⟩, hC⟩
  · skip
    refine c_condF (congrArg Value.bool hc6) ?_
    refine wp_skip ?_
    refine c_seq ?_
    refine c_region ?_
    refine pl_val (.slice a3x0 n3x0 c3x0) (y_move rfl) ?_
    obtain ⟨M8, eM8, hs8, hk8, hO, hv8⟩ := frz_own (Frz.os (Frz.os Frz.int)) hv3x0 hO
    have hK := hk8
    obtain ⟨r9, hr9, hs⟩ := bind_some hs
    refine pl_call Bd61 rfl (c_impl_pairApart (M := M8) r4.1 hv8 hO.fut hr9) ?_
    rintro _ w7 ⟨a7x0, n7x0, c7x0, a7x1, n7x1, c7x1, rfl, hC7, hv7x0, hv7x1⟩
    have hK := hK.trans (show Keeps w M8 (Past M8 w3 w7) from Keeps.past hC.size)
    have hb2 := hb2.chg hC7 (fun h => nomatch h)
    have hv8 := hv8.ext hC7
    have hC := hC.ext hC7
    have hO := hO.past hC7
    have hv8 := hv8.sub (M' := (Past M8 w3 w7)) (fun g hg => .inl hg.1)
    refine pl_val (.tuple #[(.slice a7x0 n7x0 c7x0), (.slice a7x1 n7x1 c7x1), (.bool r9.2.2)]) (y_move rfl) ?_
    refine pl_val (.slice a7x0 n7x0 c7x0) (y_extract rfl (by kernel_rfl)) ?_
    refine pl_val (.slice a7x1 n7x1 c7x1) (y_extract rfl (by kernel_rfl)) ?_
    refine pl_val (.bool r9.2.2) (y_extract rfl (by kernel_rfl)) ?_
    refine pl_val (.slice a7x0 n7x0 c7x0) (y_assign rfl) ?_
    refine pl_val (.slice a7x1 n7x1 c7x1) (y_assign rfl) ?_
    refine pl_val (.bool r9.2.2) (y_assign rfl) ?_
    refine c_nil ?_
    refine c_seq ?_
    refine c_region ?_
    refine pl_val (.bool r9.2.2) (y_move rfl) ?_
    refine pl_val (.bool (!r9.2.2)) (y_not rfl) ?_
    refine pl_val (.bool (!r9.2.2)) (y_assign rfl) ?_
    refine pl_val (.bool true) (y_assign rfl) ?_
    refine c_nil ?_
    refine wp_ret ?_
    cases hs
    exact ⟨_, fr_ovl 24 ⟨rfl, rfl, trivial⟩, hC⟩

def k_laws_eqIntS (M : Nat → Prop) (w0 : World) (r : Bool) (a : Act) (w : World) : Prop :=
  ∃ (σ : Nat → Value) , a = fr 26 (ovl σ [(4, (.bool r))]) ∧ Chg [] w0 w
def s_laws_eqIntS (a_ : List Int) (b : List Int) : Option (Bool) :=
  (bif ((a_.length : Int) != (b.length : Int)) then some false else (forC (S := Unit) (R := Bool) (fun k12 s10 =>
  (idx a_ k12).bind fun x17 =>
  (idx b k12).bind fun x19 =>
  (bif (x17 != x19) then some (.rt false) else some (.nx ()))) 0 (a_.length : Int) ()).bind fun o14 => after o14 (fun r_ => some r_) (fun s10 =>
  some true))
set_option maxHeartbeats 4000000 in
theorem c_laws_eqIntS {M : Nat → Prop} {w : World} {pa0 : Option Addr} {pn0 pc0 : Nat} {pa1 : Option Addr} {pn1 pc1 : Nat} (a_ : List Int) (b : List Int) (h0 : (RT.rs (RT.int .i64)).val M w (.slice pa0 pn0 pc0) a_ ([])) (h1 : (RT.rs (RT.int .i64)).val M w (.slice pa1 pn1 pc1) b ([])) (hM : ∀ g, w.heap.size ≤ g → M g) {r : Bool} (hs : s_laws_eqIntS a_ b = some r) :
    Gives Try.prog 16 [(.slice pa0 pn0 pc0), (.slice pa1 pn1 pc1)] w (fun v w' => v = (.bool r) ∧ Chg [] w w') := by
  refine calls_fr Try.func16 rfl Try.ntmps16 (Nat.le_of_ble_eq_true rfl) ?_
  have hO := Own.start (N := Nw w []) hM Nw.fut
  have hC := Chg.refl [] w
  unfold s_laws_eqIntS at hs
  refine wp_mono (Q := KPost (k_laws_eqIntS M w r)) ?_ (fun e a w1 h => ?_)
  rotate_left
  · cases e
    case ret =>
      obtain ⟨σ, rfl, hrest⟩ := h
      exact ret1x Try.results16 (res_tmp rfl) ⟨rfl, hrest⟩
    all_goals exact (h : False).elim
  refine c_seq ?_
  refine c_region ?_
  refine pl_val (.bool false) (y_assign rfl) ?_
  refine c_nil ?_
  refine c_seq ?_
  refine c_seq ?_
  refine c_region ?_
  refine pl_val (.slice pa0 pn0 pc0) (y_move rfl) ?_
  refine pl_val (.int .i64 (a_.length : Int)) (y_len' Sl22 (rs_len h0) rfl) ?_
  refine pl_val (.slice pa1 pn1 pc1) (y_move rfl) ?_
  refine pl_val (.int .i64 (b.length : Int)) (y_len' Sl22 (rs_len h1) rfl) ?_
  refine pl_val (.bool ((a_.length : Int) != (b.length : Int))) (y_neq rfl rfl) ?_
  refine c_nil ?_
  rcases bif_some hs with ⟨hc3, hs⟩ | ⟨hc3, hs⟩
  · skip
    refine c_condT (congrArg Value.bool hc3) ?_
    refine c_seq ?_
    refine c_region ?_
    refine pl_val (.bool false) (y_assign rfl) ?_
    refine c_nil ?_
    refine wp_ret ?_
    cases hs
    exact ⟨_, fr_ovl 26 ⟨rfl, trivial⟩, hC⟩
  · skip
    refine c_condF (congrArg Value.bool hc3) ?_
    refine wp_skip ?_
    refine c_seq ?_
    refine c_seq ?_
    refine c_region ?_
    refine pl_val (.int .i64 0) (y_assign rfl) ?_
    refine c_nil ?_
    obtain ⟨o14, hl15, hs⟩ := bind_some hs
    refine wp_block ?_
    refine wp_forC (id := 0) (a_.length : Int) (I := fun k12 s10 a w11 => ∃ (σ : Nat → Value), a = fr 26 (ovl σ [(0, (.slice pa0 pn0 pc0)), (1, (.slice pa1 pn1 pc1)), (5, (.int .i64 k12))]) ∧ Chg [] w w11 ∧ Own (Nw w []) M w11 ([]) ∧ (RT.rs (RT.int .i64)).val M w11 (.slice pa0 pn0 pc0) a_ ([]) ∧ (RT.rs (RT.int .i64)).val M w11 (.slice pa1 pn1 pc1) b ([])) (J := fun s10 a w11 => ∃ (σ : Nat → Value), a = fr 26 (ovl σ []) ∧ Chg [] w w11 ∧ Own (Nw w []) M w11 ([]) ∧ (RT.rs (RT.int .i64)).val M w11 (.slice pa0 pn0 pc0) a_ ([]) ∧ (RT.rs (RT.int .i64)).val M w11 (.slice pa1 pn1 pc1) b ([])) (K := (k_laws_eqIntS M w)) ?_ ?_ 0 () o14 _ _ ?_ hl15 ?_
    · rintro k12 s10 a w11 ⟨σ, rfl, hC, hO, h0, h1⟩ hlt
      refine c_seq ?_
      refine c_seq ?_
      refine c_region ?_
      refine pl_val (.int .i64 k12) (y_move rfl) ?_
      refine pl_val (.slice pa0 pn0 pc0) (y_move rfl) ?_
      refine pl_val (.int .i64 (a_.length : Int)) (y_len' Sl22 (rs_len h0) rfl) ?_
      refine pl_val (.bool (decide (k12 < (a_.length : Int)))) (y_lss rfl rfl) ?_
      refine c_nil ?_
      refine c_condF (congrArg Value.bool (decide_eq_false hlt)) ?_
      refine wp_exit ?_
      exact ⟨rfl, _, fr_ovl 26 trivial, hC, hO, h0, h1⟩
    · rintro k12 s10 o14 a w11 ⟨σ, rfl, hC, hO, h0, h1⟩ hlt hw hs
      refine c_seq ?_
      refine c_seq ?_
      refine c_region ?_
      refine pl_val (.int .i64 k12) (y_move rfl) ?_
      refine pl_val (.slice pa0 pn0 pc0) (y_move rfl) ?_
      refine pl_val (.int .i64 (a_.length : Int)) (y_len' Sl22 (rs_len h0) rfl) ?_
      refine pl_val (.bool (decide (k12 < (a_.length : Int)))) (y_lss rfl rfl) ?_
      refine c_nil ?_
      refine c_condT (congrArg Value.bool (decide_eq_true hlt)) ?_
      refine wp_skip ?_
      refine c_seq ?_
      refine wp_block ?_
      refine c_seq ?_
      refine x_start [] Mx rfl ?_
      have hCw16 := Chg.drew w11
      generalize World.drew w11 = w16 at hCw16 ⊢
      have h0 := h0.ext hCw16
      have h1 := h1.ext hCw16
      have hC := hC.ext hCw16
      have hO := hO.ext hCw16
      have hS := Chg.refl [] w16
      refine x_p 0 (.slice pa0 pn0 pc0) rfl (by kernel_rfl)  (fun _ => y_move rfl) (fun _ => hS) ?_
      refine x_p 1 (.int .i64 k12) rfl (by kernel_rfl)  (fun _ => y_move rfl) (fun _ => hS) ?_
      obtain ⟨x17, hx17, hs⟩ := bind_some hs
      obtain ⟨b18, o18, hp18, ha18⟩ := rs_idx Sl22 Sz3 h0 hx17
      refine x_p 2 (.pointer (some ⟨b18, o18, none⟩)) rfl (by kernel_rfl)  (fun _ => hp18 _ _ _ _ _ _ _ _ _ rfl rfl) (fun _ => hS) ?_
      refine x_l 3 (.int .i64 x17) rfl (by kernel_rfl)  (fun w' hw' => y_load rfl ((at_load_int Ag3 Sz3 ha18) w' hw')) hS ?_
      refine x_p 4 (.slice pa1 pn1 pc1) rfl (by kernel_rfl)  (fun _ => y_move rfl) (fun _ => hS) ?_
      refine x_p 5 (.int .i64 k12) rfl (by kernel_rfl)  (fun _ => y_move rfl) (fun _ => hS) ?_
      obtain ⟨x19, hx19, hs⟩ := bind_some hs
      obtain ⟨b20, o20, hp20, ha20⟩ := rs_idx Sl22 Sz3 h1 hx19
      refine x_p 6 (.pointer (some ⟨b20, o20, none⟩)) rfl (by kernel_rfl)  (fun _ => hp20 _ _ _ _ _ _ _ _ _ rfl rfl) (fun _ => hS) ?_
      refine x_l 7 (.int .i64 x19) rfl (by kernel_rfl)  (fun w' hw' => y_load rfl ((at_load_int Ag3 Sz3 ha20) w' hw')) hS ?_
      refine x_p 8 (.bool (x17 != x19)) rfl (by kernel_rfl)  (fun _ => y_neq rfl rfl) (fun _ => hS) ?_
      refine x_end (by kernel_rfl) ?_
      clear hS
      rcases bif_some hs with ⟨hc21, hs⟩ | ⟨hc21, hs⟩
      · skip
        refine c_condT (congrArg Value.bool hc21) ?_
        refine c_seq ?_
        refine c_region ?_
        refine pl_val (.bool false) (y_assign rfl) ?_
        refine c_nil ?_
        refine wp_ret ?_
        cases hs
        exact ⟨_, fr_ovl 26 ⟨rfl, trivial⟩, hC⟩
      · skip
        refine c_condF (congrArg Value.bool hc21) ?_
        refine wp_skip ?_
        refine c_region ?_
        refine pl_val (.int .i64 k12) (y_move rfl) ?_
        refine pl_val (.int .i64 (w64 (k12 + 1))) (y_add rfl rfl) ?_
        refine pl_val (.int .i64 (w64 (k12 + 1))) (y_assign rfl) ?_
        refine c_nil ?_
        cases hs
        exact ⟨_, fr_ovl 26 ⟨rfl, rfl, congrArg (Value.int .i64) hw, trivial⟩, hC, hO, h0, h1⟩
    · skip
      exact ⟨_, fr_ovl 26 ⟨rfl, rfl, rfl, trivial⟩, hC, hO, h0, h1⟩
    · cases o14 with
      | nx _ => exact True.intro
      | rt r_ =>
        have hs := after_rt hs
        intro a1 w1 hK
        cases hs
        exact hK
      | br s10 =>
        have hs := after_br hs
        rintro a1 w11 ⟨σ, rfl, hC, hO, h0, h1⟩
        refine c_seq ?_
        refine c_region ?_
        refine pl_val (.bool true) (y_assign rfl) ?_
        refine c_nil ?_
        refine wp_ret ?_
        cases hs
        exact ⟨_, fr_ovl 26 ⟨rfl, trivial⟩, hC⟩

theorem Bd16 : Bodied Try.prog 16 := bodied Try.func16 (by kernel_rfl) rfl

def k_laws_eqOp (M : Nat → Prop) (w0 : World) (r : Bool) (a : Act) (w : World) : Prop :=
  ∃ (σ : Nat → Value) , a = fr 16 (ovl σ [(4, (.bool r))]) ∧ Chg [] w0 w
def s_laws_eqOp (a_ : Int × (List Int)) (b : Int × (List Int)) : Option (Bool) :=
  (bif (a_.1 != b.1) then some false else (s_laws_eqIntS a_.2 b.2).bind fun r7 =>
  (bif (!r7) then some false else some true))
set_option maxHeartbeats 4000000 in
theorem c_laws_eqOp {M : Nat → Prop} {w : World} {pa0 : Option Addr} {pn0 pc0 : Nat} {pa1 : Option Addr} {pn1 pc1 : Nat} (a_ : Int × (List Int)) (b : Int × (List Int)) (h0 : (RT.rs (RT.int .i64)).val M w (.slice pa0 pn0 pc0) a_.2 ([])) (h1 : (RT.rs (RT.int .i64)).val M w (.slice pa1 pn1 pc1) b.2 ([])) (hM : ∀ g, w.heap.size ≤ g → M g) {r : Bool} (hs : s_laws_eqOp a_ b = some r) :
    Gives Try.prog 85 [(.agg #[(.int .i64 a_.1), (.slice pa0 pn0 pc0)]), (.agg #[(.int .i64 b.1), (.slice pa1 pn1 pc1)])] w (fun v w' => v = (.bool r) ∧ Chg [] w w') := by
  refine calls_fr Try.func85 rfl Try.ntmps85 (Nat.le_of_ble_eq_true rfl) ?_
  have hO := Own.start (N := Nw w []) hM Nw.fut
  have hC := Chg.refl [] w
  unfold s_laws_eqOp at hs
  refine wp_mono (Q := KPost (k_laws_eqOp M w r)) ?_ (fun e a w1 h => ?_)
  rotate_left
  · cases e
    case ret =>
      obtain ⟨σ, rfl, hrest⟩ := h
      exact ret1x Try.results85 (res_tmp rfl) ⟨rfl, hrest⟩
    all_goals exact (h : False).elim
  refine c_seq ?_
  refine c_region ?_
  obtain ⟨w3, g3, ew3, eg3, hC3, hb3⟩ := new_block w [(.int .i64 a_.1), (.slice pa0 pn0 pc0)] 81
  refine pl_val (w' := w3) (.pointer (some ⟨g3, 0, none⟩)) (y_box rfl (by rw [ew3, eg3]; kernel_rfl)) ?_
  have h0 := h0.ext hC3
  have h1 := h1.ext hC3
  have hC := hC.ext hC3
  have hO := hO.new (X' := [g3]) hC3 (fun q hq => by rw [List.mem_singleton.1 hq, eg3]; exact Nat.le_refl _) (List.nodup_cons.2 ⟨(fun h => nomatch h), List.nodup_nil⟩) (fun q hq => by rw [List.mem_singleton.1 hq]; exact hb3.lt)
  obtain ⟨w4, g4, ew4, eg4, hC4, hb4⟩ := new_block w3 [(.int .i64 b.1), (.slice pa1 pn1 pc1)] 81
  refine pl_val (w' := w4) (.pointer (some ⟨g4, 0, none⟩)) (y_box rfl (by rw [ew4, eg4]; kernel_rfl)) ?_
  have h0 := h0.ext hC4
  have h1 := h1.ext hC4
  have hb3 := hb3.chg hC4 (fun h => nomatch h)
  have hC := hC.ext hC4
  have hO := hO.new (X' := [g4]) hC4 (fun q hq => by rw [List.mem_singleton.1 hq, eg4]; exact Nat.le_refl _) (List.nodup_cons.2 ⟨(fun h => nomatch h), List.nodup_nil⟩) (fun q hq => by rw [List.mem_singleton.1 hq]; exact hb4.lt)
  refine pl_val (.bool false) (y_assign rfl) ?_
  refine c_nil ?_
  refine c_seq ?_
  refine c_seq ?_
  refine c_region ?_
  refine pl_val (.pointer (some ⟨g3, 0, none⟩)) (y_faddr rfl Fa81x0) ?_
  refine pl_val (.int .i64 a_.1) (y_load rfl ((box_load Ag3 Sz3 hb3 [] [(.int .i64 a_.1)] [(.slice pa0 pn0 pc0)] rfl rfl (fun _ => rfl)) _ (Chg.refl _ _))) ?_
  refine pl_val (.pointer (some ⟨g4, 0, none⟩)) (y_faddr rfl Fa81x0) ?_
  refine pl_val (.int .i64 b.1) (y_load rfl ((box_load Ag3 Sz3 hb4 [] [(.int .i64 b.1)] [(.slice pa1 pn1 pc1)] rfl rfl (fun _ => rfl)) _ (Chg.refl _ _))) ?_
  refine pl_val (.bool (a_.1 != b.1)) (y_neq rfl rfl) ?_
  refine c_nil ?_
  rcases bif_some hs with ⟨hc5, hs⟩ | ⟨hc5, hs⟩
  · skip
    refine c_condT (congrArg Value.bool hc5) ?_
    refine c_seq ?_
    refine c_region ?_
    refine pl_val (.bool false) (y_assign rfl) ?_
    refine c_nil ?_
    refine wp_ret ?_
    cases hs
    exact ⟨_, fr_ovl 16 ⟨rfl, trivial⟩, hC⟩
  · skip
    refine c_condF (congrArg Value.bool hc5) ?_
    refine wp_skip ?_
    refine c_seq ?_
    refine c_seq ?_
    refine c_region ?_
    refine pl_val (.pointer (some ⟨g3, 1, none⟩)) (y_faddr rfl Fa81x1) ?_
    refine pl_val (.slice pa0 pn0 pc0) (y_load rfl ((box_load Ag22 Sz22 hb3 [(.int .i64 a_.1)] [(.slice pa0 pn0 pc0)] [] rfl rfl (fun _ => rfl)) _ (Chg.refl _ _))) ?_
    refine pl_val (.pointer (some ⟨g4, 1, none⟩)) (y_faddr rfl Fa81x1) ?_
    refine pl_val (.slice pa1 pn1 pc1) (y_load rfl ((box_load Ag22 Sz22 hb4 [(.int .i64 b.1)] [(.slice pa1 pn1 pc1)] [] rfl rfl (fun _ => rfl)) _ (Chg.refl _ _))) ?_
    obtain ⟨r7, hr7, hs⟩ := bind_some hs
    refine pl_call Bd16 rfl (c_laws_eqIntS (M := M) a_.2 b.2 h0 h1 hO.fut hr7) ?_
    rintro _ w6 ⟨rfl, hC6⟩
    have h0 := h0.ext hC6
    have h1 := h1.ext hC6
    have hb3 := hb3.chg hC6 (fun h => nomatch h)
    have hb4 := hb4.chg hC6 (fun h => nomatch h)
    have hC := hC.ext hC6
    have hO := hO.ext hC6
    refine pl_val (.bool (!r7)) (y_not rfl) ?_
    refine c_nil ?_
    rcases bif_some hs with ⟨hc8, hs⟩ | ⟨hc8, hs⟩
    · skip
      refine c_condT (congrArg Value.bool hc8) ?_
      refine c_seq ?_
      refine c_region ?_
      refine pl_val (.bool false) (y_assign rfl) ?_
      refine c_nil ?_
      refine wp_ret ?_
      cases hs
      exact ⟨_, fr_ovl 16 ⟨rfl, trivial⟩, hC⟩
    · skip
      refine c_condF (congrArg Value.bool hc8) ?_
      refine wp_skip ?_
      refine c_seq ?_
      refine c_region ?_
      refine pl_val (.bool true) (y_assign rfl) ?_
      refine c_nil ?_
      refine wp_ret ?_
      cases hs
      exact ⟨_, fr_ovl 16 ⟨rfl, trivial⟩, hC⟩

theorem Bd85 : Bodied Try.prog 85 := bodied Try.func85 (by kernel_rfl) rfl

def k_laws_eqOpS (M : Nat → Prop) (w0 : World) (r : Bool) (a : Act) (w : World) : Prop :=
  ∃ (σ : Nat → Value) , a = fr 27 (ovl σ [(4, (.bool r))]) ∧ Chg [] w0 w
def s_laws_eqOpS (a_ : List (Int × (List Int))) (b : List (Int × (List Int))) : Option (Bool) :=
  (bif ((a_.length : Int) != (b.length : Int)) then some false else (forC (S := Unit) (R := Bool) (fun k18 s16 =>
  (idx a_ k18).bind fun x23 =>
  (idx b k18).bind fun x27 =>
  (s_laws_eqOp (x23.1, x23.2) (x27.1, x27.2)).bind fun r32 =>
  (bif (!r32) then some (.rt false) else some (.nx ()))) 0 (a_.length : Int) ()).bind fun o20 => after o20 (fun r_ => some r_) (fun s16 =>
  some true))
set_option maxHeartbeats 4000000 in
theorem c_laws_eqOpS {M : Nat → Prop} {w : World} {pa0 : Option Addr} {pn0 pc0 : Nat} {pa1 : Option Addr} {pn1 pc1 : Nat} (a_ : List (Int × (List Int))) (b : List (Int × (List Int))) (h0 : (RT.rs (RT.pr (RT.int .i64) (RT.rs (RT.int .i64)))).val M w (.slice pa0 pn0 pc0) a_ ([])) (h1 : (RT.rs (RT.pr (RT.int .i64) (RT.rs (RT.int .i64)))).val M w (.slice pa1 pn1 pc1) b ([])) (hM : ∀ g, w.heap.size ≤ g → M g) {r : Bool} (hs : s_laws_eqOpS a_ b = some r) :
    Gives Try.prog 55 [(.slice pa0 pn0 pc0), (.slice pa1 pn1 pc1)] w (fun v w' => v = (.bool r) ∧ Chg [] w w') := by
  refine calls_fr Try.func55 rfl Try.ntmps55 (Nat.le_of_ble_eq_true rfl) ?_
  have hO := Own.start (N := Nw w []) hM Nw.fut
  have hC := Chg.refl [] w
  unfold s_laws_eqOpS at hs
  refine wp_mono (Q := KPost (k_laws_eqOpS M w r)) ?_ (fun e a w1 h => ?_)
  rotate_left
  · cases e
    case ret =>
      obtain ⟨σ, rfl, hrest⟩ := h
      exact ret1x Try.results55 (res_tmp rfl) ⟨rfl, hrest⟩
    all_goals exact (h : False).elim
  refine c_seq ?_
  refine c_region ?_
  refine pl_val (.bool false) (y_assign rfl) ?_
  refine c_nil ?_
  refine c_seq ?_
  refine c_seq ?_
  refine c_region ?_
  refine pl_val (.slice pa0 pn0 pc0) (y_move rfl) ?_
  refine pl_val (.int .i64 (a_.length : Int)) (y_len' Sl33 (rs_len h0) rfl) ?_
  refine pl_val (.slice pa1 pn1 pc1) (y_move rfl) ?_
  refine pl_val (.int .i64 (b.length : Int)) (y_len' Sl33 (rs_len h1) rfl) ?_
  refine pl_val (.bool ((a_.length : Int) != (b.length : Int))) (y_neq rfl rfl) ?_
  refine c_nil ?_
  rcases bif_some hs with ⟨hc3, hs⟩ | ⟨hc3, hs⟩
  · skip
    refine c_condT (congrArg Value.bool hc3) ?_
    refine c_seq ?_
    refine c_region ?_
    refine pl_val (.bool false) (y_assign rfl) ?_
    refine c_nil ?_
    refine wp_ret ?_
    cases hs
    exact ⟨_, fr_ovl 27 ⟨rfl, trivial⟩, hC⟩
  · skip
    refine c_condF (congrArg Value.bool hc3) ?_
    refine wp_skip ?_
    refine c_seq ?_
    refine c_seq ?_
    refine c_region ?_
    refine pl_val (.int .i64 0) (y_assign rfl) ?_
    refine c_nil ?_
    obtain ⟨o20, hl21, hs⟩ := bind_some hs
    refine wp_block ?_
    refine wp_forC (id := 0) (a_.length : Int) (I := fun k18 s16 a w17 => ∃ (σ : Nat → Value), a = fr 27 (ovl σ [(0, (.slice pa0 pn0 pc0)), (1, (.slice pa1 pn1 pc1)), (5, (.int .i64 k18))]) ∧ Chg [] w w17 ∧ Own (Nw w []) M w17 ([]) ∧ (RT.rs (RT.pr (RT.int .i64) (RT.rs (RT.int .i64)))).val M w17 (.slice pa0 pn0 pc0) a_ ([]) ∧ (RT.rs (RT.pr (RT.int .i64) (RT.rs (RT.int .i64)))).val M w17 (.slice pa1 pn1 pc1) b ([])) (J := fun s16 a w17 => ∃ (σ : Nat → Value), a = fr 27 (ovl σ []) ∧ Chg [] w w17 ∧ Own (Nw w []) M w17 ([]) ∧ (RT.rs (RT.pr (RT.int .i64) (RT.rs (RT.int .i64)))).val M w17 (.slice pa0 pn0 pc0) a_ ([]) ∧ (RT.rs (RT.pr (RT.int .i64) (RT.rs (RT.int .i64)))).val M w17 (.slice pa1 pn1 pc1) b ([])) (K := (k_laws_eqOpS M w)) ?_ ?_ 0 () o20 _ _ ?_ hl21 ?_
    · rintro k18 s16 a w17 ⟨σ, rfl, hC, hO, h0, h1⟩ hlt
      refine c_seq ?_
      refine c_seq ?_
      refine c_region ?_
      refine pl_val (.int .i64 k18) (y_move rfl) ?_
      refine pl_val (.slice pa0 pn0 pc0) (y_move rfl) ?_
      refine pl_val (.int .i64 (a_.length : Int)) (y_len' Sl33 (rs_len h0) rfl) ?_
      refine pl_val (.bool (decide (k18 < (a_.length : Int)))) (y_lss rfl rfl) ?_
      refine c_nil ?_
      refine c_condF (congrArg Value.bool (decide_eq_false hlt)) ?_
      refine wp_exit ?_
      exact ⟨rfl, _, fr_ovl 27 trivial, hC, hO, h0, h1⟩
    · rintro k18 s16 o20 a w17 ⟨σ, rfl, hC, hO, h0, h1⟩ hlt hw hs
      refine c_seq ?_
      refine c_seq ?_
      refine c_region ?_
      refine pl_val (.int .i64 k18) (y_move rfl) ?_
      refine pl_val (.slice pa0 pn0 pc0) (y_move rfl) ?_
      refine pl_val (.int .i64 (a_.length : Int)) (y_len' Sl33 (rs_len h0) rfl) ?_
      refine pl_val (.bool (decide (k18 < (a_.length : Int)))) (y_lss rfl rfl) ?_
      refine c_nil ?_
      refine c_condT (congrArg Value.bool (decide_eq_true hlt)) ?_
      refine wp_skip ?_
      refine c_seq ?_
      refine wp_block ?_
      refine c_seq ?_
      refine x_start [] Mx rfl ?_
      have hCw22 := Chg.drew w17
      generalize World.drew w17 = w22 at hCw22 ⊢
      have h0 := h0.ext hCw22
      have h1 := h1.ext hCw22
      have hC := hC.ext hCw22
      have hO := hO.ext hCw22
      have hS := Chg.refl [] w22
      refine x_p 0 (.slice pa0 pn0 pc0) rfl (by kernel_rfl)  (fun _ => y_move rfl) (fun _ => hS) ?_
      refine x_p 1 (.int .i64 k18) rfl (by kernel_rfl)  (fun _ => y_move rfl) (fun _ => hS) ?_
      obtain ⟨x23, hx23, hs⟩ := bind_some hs
      obtain ⟨b24, o24, hp24, ha24⟩ := rs_idx Sl33 Sz81 h0 hx23
      refine x_p 2 (.pointer (some ⟨b24, o24, none⟩)) rfl (by kernel_rfl)  (fun _ => hp24 _ _ _ _ _ _ _ _ _ rfl rfl) (fun _ => hS) ?_
      obtain ⟨v25, hl25, hv25⟩ := at_load Ag81 Sz81 (by intro h; cases h) ha24
      obtain ⟨cs25, rfl, hr25⟩ := hv25
      obtain ⟨cc25x1, cd25x1, rfl, hh25x1, ht25x1⟩ := pr_open hr25
      obtain rfl := int_rel hh25x1
      obtain ⟨a25x2, n25x2, c25x2, rfl, hv25x2⟩ := rs_rel ht25x1
      refine x_l 3 (.agg #[(.int .i64 x23.1), (.slice a25x2 n25x2 c25x2)]) rfl (by kernel_rfl)  (fun w' hw' => y_load rfl (hl25 w' hw')) hS ?_
      refine x_p 4 (.slice pa1 pn1 pc1) rfl (by kernel_rfl)  (fun _ => y_move rfl) (fun _ => hS) ?_
      refine x_p 5 (.int .i64 k18) rfl (by kernel_rfl)  (fun _ => y_move rfl) (fun _ => hS) ?_
      obtain ⟨x27, hx27, hs⟩ := bind_some hs
      obtain ⟨b28, o28, hp28, ha28⟩ := rs_idx Sl33 Sz81 h1 hx27
      refine x_p 6 (.pointer (some ⟨b28, o28, none⟩)) rfl (by kernel_rfl)  (fun _ => hp28 _ _ _ _ _ _ _ _ _ rfl rfl) (fun _ => hS) ?_
      obtain ⟨v29, hl29, hv29⟩ := at_load Ag81 Sz81 (by intro h; cases h) ha28
      obtain ⟨cs29, rfl, hr29⟩ := hv29
      obtain ⟨cc29x1, cd29x1, rfl, hh29x1, ht29x1⟩ := pr_open hr29
      obtain rfl := int_rel hh29x1
      obtain ⟨a29x2, n29x2, c29x2, rfl, hv29x2⟩ := rs_rel ht29x1
      refine x_l 7 (.agg #[(.int .i64 x27.1), (.slice a29x2 n29x2 c29x2)]) rfl (by kernel_rfl)  (fun w' hw' => y_load rfl (hl29 w' hw')) hS ?_
      refine x_one (i := 8) (by kernel_rfl) ?_
      obtain ⟨r32, hr32, hs⟩ := bind_some hs
      refine xk_call (b := false) rfl  Bd85 rfl (c_laws_eqOp (M := M) (x23.1, x23.2) (x27.1, x27.2) hv25x2 hv29x2 hO.fut hr32) rfl (by rintro _ _ _ ⟨rfl, hC31⟩; exact hS.ext hC31) ?_
      rintro _ w31 ⟨rfl, hC31⟩
      have h0 := h0.ext hC31
      have h1 := h1.ext hC31
      have hv25x2 := hv25x2.ext hC31
      have hv29x2 := hv29x2.ext hC31
      have hC := hC.ext hC31
      have hO := hO.ext hC31
      have hS := hS.ext hC31
      refine x_p 9 (.bool (!r32)) rfl (by kernel_rfl)  (fun _ => y_not rfl) (fun _ => hS) ?_
      refine x_end (by kernel_rfl) ?_
      clear hS
      rcases bif_some hs with ⟨hc33, hs⟩ | ⟨hc33, hs⟩
      · skip
        refine c_condT (congrArg Value.bool hc33) ?_
        refine c_seq ?_
        refine c_region ?_
        refine pl_val (.bool false) (y_assign rfl) ?_
        refine c_nil ?_
        refine wp_ret ?_
        cases hs
        exact ⟨_, fr_ovl 27 ⟨rfl, trivial⟩, hC⟩
      · skip
        refine c_condF (congrArg Value.bool hc33) ?_
        refine wp_skip ?_
        refine c_region ?_
        refine pl_val (.int .i64 k18) (y_move rfl) ?_
        refine pl_val (.int .i64 (w64 (k18 + 1))) (y_add rfl rfl) ?_
        refine pl_val (.int .i64 (w64 (k18 + 1))) (y_assign rfl) ?_
        refine c_nil ?_
        cases hs
        exact ⟨_, fr_ovl 27 ⟨rfl, rfl, congrArg (Value.int .i64) hw, trivial⟩, hC, hO, h0, h1⟩
    · skip
      exact ⟨_, fr_ovl 27 ⟨rfl, rfl, rfl, trivial⟩, hC, hO, h0, h1⟩
    · cases o20 with
      | nx _ => exact True.intro
      | rt r_ =>
        have hs := after_rt hs
        intro a1 w1 hK
        cases hs
        exact hK
      | br s16 =>
        have hs := after_br hs
        rintro a1 w17 ⟨σ, rfl, hC, hO, h0, h1⟩
        refine c_seq ?_
        refine c_region ?_
        refine pl_val (.bool true) (y_assign rfl) ?_
        refine c_nil ?_
        refine wp_ret ?_
        cases hs
        exact ⟨_, fr_ovl 27 ⟨rfl, trivial⟩, hC⟩

theorem Bd55 : Bodied Try.prog 55 := bodied Try.func55 (by kernel_rfl) rfl

def k_laws_eqAlgebra (M : Nat → Prop) (w0 : World) (r : Bool) (a : Act) (w : World) : Prop :=
  ∃ (σ : Nat → Value) , a = fr 16 (ovl σ [(4, (.bool r))]) ∧ Chg [] w0 w
def s_laws_eqAlgebra (a_ : Int × (List (Int × (List Int)))) (b : Int × (List (Int × (List Int)))) : Option (Bool) :=
  (bif (a_.1 != b.1) then some false else (s_laws_eqOpS a_.2 b.2).bind fun r7 =>
  (bif (!r7) then some false else some true))
set_option maxHeartbeats 4000000 in
theorem c_laws_eqAlgebra {M : Nat → Prop} {w : World} {pa0 : Option Addr} {pn0 pc0 : Nat} {pa1 : Option Addr} {pn1 pc1 : Nat} (a_ : Int × (List (Int × (List Int)))) (b : Int × (List (Int × (List Int)))) (h0 : (RT.rs (RT.pr (RT.int .i64) (RT.rs (RT.int .i64)))).val M w (.slice pa0 pn0 pc0) a_.2 ([])) (h1 : (RT.rs (RT.pr (RT.int .i64) (RT.rs (RT.int .i64)))).val M w (.slice pa1 pn1 pc1) b.2 ([])) (hM : ∀ g, w.heap.size ≤ g → M g) {r : Bool} (hs : s_laws_eqAlgebra a_ b = some r) :
    Gives Try.prog 21 [(.agg #[(.int .i64 a_.1), (.slice pa0 pn0 pc0)]), (.agg #[(.int .i64 b.1), (.slice pa1 pn1 pc1)])] w (fun v w' => v = (.bool r) ∧ Chg [] w w') := by
  refine calls_fr Try.func21 rfl Try.ntmps21 (Nat.le_of_ble_eq_true rfl) ?_
  have hO := Own.start (N := Nw w []) hM Nw.fut
  have hC := Chg.refl [] w
  unfold s_laws_eqAlgebra at hs
  refine wp_mono (Q := KPost (k_laws_eqAlgebra M w r)) ?_ (fun e a w1 h => ?_)
  rotate_left
  · cases e
    case ret =>
      obtain ⟨σ, rfl, hrest⟩ := h
      exact ret1x Try.results21 (res_tmp rfl) ⟨rfl, hrest⟩
    all_goals exact (h : False).elim
  refine c_seq ?_
  refine c_region ?_
  obtain ⟨w3, g3, ew3, eg3, hC3, hb3⟩ := new_block w [(.int .i64 a_.1), (.slice pa0 pn0 pc0)] 35
  refine pl_val (w' := w3) (.pointer (some ⟨g3, 0, none⟩)) (y_box rfl (by rw [ew3, eg3]; kernel_rfl)) ?_
  have h0 := h0.ext hC3
  have h1 := h1.ext hC3
  have hC := hC.ext hC3
  have hO := hO.new (X' := [g3]) hC3 (fun q hq => by rw [List.mem_singleton.1 hq, eg3]; exact Nat.le_refl _) (List.nodup_cons.2 ⟨(fun h => nomatch h), List.nodup_nil⟩) (fun q hq => by rw [List.mem_singleton.1 hq]; exact hb3.lt)
  obtain ⟨w4, g4, ew4, eg4, hC4, hb4⟩ := new_block w3 [(.int .i64 b.1), (.slice pa1 pn1 pc1)] 35
  refine pl_val (w' := w4) (.pointer (some ⟨g4, 0, none⟩)) (y_box rfl (by rw [ew4, eg4]; kernel_rfl)) ?_
  have h0 := h0.ext hC4
  have h1 := h1.ext hC4
  have hb3 := hb3.chg hC4 (fun h => nomatch h)
  have hC := hC.ext hC4
  have hO := hO.new (X' := [g4]) hC4 (fun q hq => by rw [List.mem_singleton.1 hq, eg4]; exact Nat.le_refl _) (List.nodup_cons.2 ⟨(fun h => nomatch h), List.nodup_nil⟩) (fun q hq => by rw [List.mem_singleton.1 hq]; exact hb4.lt)
  refine pl_val (.bool false) (y_assign rfl) ?_
  refine c_nil ?_
  refine c_seq ?_
  refine c_seq ?_
  refine c_region ?_
  refine pl_val (.pointer (some ⟨g3, 0, none⟩)) (y_faddr rfl Fa35x0) ?_
  refine pl_val (.int .i64 a_.1) (y_load rfl ((box_load Ag3 Sz3 hb3 [] [(.int .i64 a_.1)] [(.slice pa0 pn0 pc0)] rfl rfl (fun _ => rfl)) _ (Chg.refl _ _))) ?_
  refine pl_val (.pointer (some ⟨g4, 0, none⟩)) (y_faddr rfl Fa35x0) ?_
  refine pl_val (.int .i64 b.1) (y_load rfl ((box_load Ag3 Sz3 hb4 [] [(.int .i64 b.1)] [(.slice pa1 pn1 pc1)] rfl rfl (fun _ => rfl)) _ (Chg.refl _ _))) ?_
  refine pl_val (.bool (a_.1 != b.1)) (y_neq rfl rfl) ?_
  refine c_nil ?_
  rcases bif_some hs with ⟨hc5, hs⟩ | ⟨hc5, hs⟩
  · skip
    refine c_condT (congrArg Value.bool hc5) ?_
    refine c_seq ?_
    refine c_region ?_
    refine pl_val (.bool false) (y_assign rfl) ?_
    refine c_nil ?_
    refine wp_ret ?_
    cases hs
    exact ⟨_, fr_ovl 16 ⟨rfl, trivial⟩, hC⟩
  · skip
    refine c_condF (congrArg Value.bool hc5) ?_
    refine wp_skip ?_
    refine c_seq ?_
    refine c_seq ?_
    refine c_region ?_
    refine pl_val (.pointer (some ⟨g3, 1, none⟩)) (y_faddr rfl Fa35x1) ?_
    refine pl_val (.slice pa0 pn0 pc0) (y_load rfl ((box_load Ag33 Sz33 hb3 [(.int .i64 a_.1)] [(.slice pa0 pn0 pc0)] [] rfl rfl (fun _ => rfl)) _ (Chg.refl _ _))) ?_
    refine pl_val (.pointer (some ⟨g4, 1, none⟩)) (y_faddr rfl Fa35x1) ?_
    refine pl_val (.slice pa1 pn1 pc1) (y_load rfl ((box_load Ag33 Sz33 hb4 [(.int .i64 b.1)] [(.slice pa1 pn1 pc1)] [] rfl rfl (fun _ => rfl)) _ (Chg.refl _ _))) ?_
    obtain ⟨r7, hr7, hs⟩ := bind_some hs
    refine pl_call Bd55 rfl (c_laws_eqOpS (M := M) a_.2 b.2 h0 h1 hO.fut hr7) ?_
    rintro _ w6 ⟨rfl, hC6⟩
    have h0 := h0.ext hC6
    have h1 := h1.ext hC6
    have hb3 := hb3.chg hC6 (fun h => nomatch h)
    have hb4 := hb4.chg hC6 (fun h => nomatch h)
    have hC := hC.ext hC6
    have hO := hO.ext hC6
    refine pl_val (.bool (!r7)) (y_not rfl) ?_
    refine c_nil ?_
    rcases bif_some hs with ⟨hc8, hs⟩ | ⟨hc8, hs⟩
    · skip
      refine c_condT (congrArg Value.bool hc8) ?_
      refine c_seq ?_
      refine c_region ?_
      refine pl_val (.bool false) (y_assign rfl) ?_
      refine c_nil ?_
      refine wp_ret ?_
      cases hs
      exact ⟨_, fr_ovl 16 ⟨rfl, trivial⟩, hC⟩
    · skip
      refine c_condF (congrArg Value.bool hc8) ?_
      refine wp_skip ?_
      refine c_seq ?_
      refine c_region ?_
      refine pl_val (.bool true) (y_assign rfl) ?_
      refine c_nil ?_
      refine wp_ret ?_
      cases hs
      exact ⟨_, fr_ovl 16 ⟨rfl, trivial⟩, hC⟩

theorem Ag30 : AggT Try.prog 30 true := fun _ => by kernel_rfl

theorem Sz30 : SzT Try.prog 30 2 := ⟨_, rfl, rfl⟩

theorem Bd17 : Bodied Try.prog 17 := bodied Try.func17 (by kernel_rfl) rfl

theorem Bd19 : Bodied Try.prog 19 := bodied Try.func19 (by kernel_rfl) rfl

theorem Bd26 : Bodied Try.prog 26 := bodied Try.func26 (by kernel_rfl) rfl

theorem Bd27 : Bodied Try.prog 27 := bodied Try.func27 (by kernel_rfl) rfl

theorem Bd21 : Bodied Try.prog 21 := bodied Try.func21 (by kernel_rfl) rfl

def k_laws_FnExactArePermutable (M : Nat → Prop) (w0 : World) (r : Bool) (a : Act) (w : World) : Prop :=
  ∃ (σ : Nat → Value) , a = fr 40 (ovl σ [(2, (.bool r))]) ∧ Chg [] w0 w
def s_laws_FnExactArePermutable (aA : Int × (List (Int × (List Int)))) : Option (Bool) :=
  (s_laws_szAlgebra (aA.1, aA.2) 1048576).bind fun r4 =>
  (bif (decide (r4 < 0)) then some true else (s_laws_toAlgebra (aA.1, aA.2)).bind fun r7 =>
  (s_spec_ArePermutable (r7.1, r7.2)).bind fun r10 =>
  (s_laws_toAlgebra (aA.1, aA.2)).bind fun r12 =>
  (s_impl_ArePermutable (r12.1, r12.2)).bind fun r17 =>
  (bif ((!(r17.1 == r10.1)) || (!(r17.2 == r10.2))) then some false else (s_laws_toAlgebra (aA.1, aA.2)).bind fun r25 =>
  (s_laws_eqAlgebra (r12.1, r12.2) (r25.1, r25.2)).bind fun r28 =>
  (bif (!r28) then some false else some true)))
set_option maxHeartbeats 4000000 in
theorem c_laws_FnExactArePermutable {M : Nat → Prop} {w : World} {pa0 : Option Addr} {pn0 pc0 : Nat} (aA : Int × (List (Int × (List Int)))) (h0 : (RT.rs (RT.pr (RT.int .i64) (RT.rs (RT.int .i64)))).val M w (.slice pa0 pn0 pc0) aA.2 ([])) (hM : ∀ g, w.heap.size ≤ g → M g) {r : Bool} (hs : s_laws_FnExactArePermutable aA = some r) :
    Gives Try.prog 7 [(.agg #[(.int .i64 aA.1), (.slice pa0 pn0 pc0)])] w (fun v w' => v = (.bool r) ∧ Chg [] w w') := by
  refine calls_fr Try.func7 rfl Try.ntmps7 (Nat.le_of_ble_eq_true rfl) ?_
  have hO := Own.start (N := Nw w []) hM Nw.fut
  have hC := Chg.refl [] w
  unfold s_laws_FnExactArePermutable at hs
  refine wp_mono (Q := KPost (k_laws_FnExactArePermutable M w r)) ?_ (fun e a w1 h => ?_)
  rotate_left
  · cases e
    case ret =>
      obtain ⟨σ, rfl, hrest⟩ := h
      exact ret1x Try.results7 (res_tmp rfl) ⟨rfl, hrest⟩
    all_goals exact (h : False).elim
  refine c_seq ?_
  refine c_region ?_
  obtain ⟨w2, g2, ew2, eg2, hC2, hb2⟩ := new_block w [(.int .i64 aA.1), (.slice pa0 pn0 pc0)] 30
  refine pl_val (w' := w2) (.pointer (some ⟨g2, 0, none⟩)) (y_box rfl (by rw [ew2, eg2]; kernel_rfl)) ?_
  have h0 := h0.ext hC2
  have hC := hC.ext hC2
  have hO := hO.new (X' := [g2]) hC2 (fun q hq => by rw [List.mem_singleton.1 hq, eg2]; exact Nat.le_refl _) (List.nodup_cons.2 ⟨(fun h => nomatch h), List.nodup_nil⟩) (fun q hq => by rw [List.mem_singleton.1 hq]; exact hb2.lt)
  refine pl_val (.bool false) (y_assign rfl) ?_
  refine c_nil ?_
  refine c_seq ?_
  refine c_region ?_
  refine pl_val (.int .i64 1048576) (y_assign rfl) ?_
  refine c_nil ?_
  refine c_seq ?_
  refine c_region ?_
  refine pl_val (.agg #[(.int .i64 aA.1), (.slice pa0 pn0 pc0)]) (y_load rfl ((box_load Ag30 Sz30 hb2 [] [(.int .i64 aA.1), (.slice pa0 pn0 pc0)] [] rfl rfl (fun h => nomatch h)) _ (Chg.refl _ _))) ?_
  refine pl_val (.int .i64 1048576) (y_move rfl) ?_
  obtain ⟨r4, hr4, hs⟩ := bind_some hs
  refine pl_call Bd17 rfl (c_laws_szAlgebra (M := M) (aA.1, aA.2) 1048576 h0 hO.fut hr4) ?_
  rintro _ w3 ⟨rfl, hC3⟩
  have h0 := h0.ext hC3
  have hb2 := hb2.chg hC3 (fun h => nomatch h)
  have hC := hC.ext hC3
  have hO := hO.ext hC3
  refine pl_val (.int .i64 r4) (y_assign rfl) ?_
  refine c_nil ?_
  refine c_seq ?_
  refine c_seq ?_
  refine c_region ?_
  refine pl_val (.int .i64 r4) (y_move rfl) ?_
  refine pl_val (.bool (decide (r4 < 0))) (y_lss rfl rfl) ?_
  refine c_nil ?_
  rcases bif_some hs with ⟨hc5, hs⟩ | ⟨hc5, hs⟩
  · skip
    refine c_condT (congrArg Value.bool hc5) ?_
    refine c_seq ?_
    refine c_region ?_
    refine pl_val (.bool true) (y_assign rfl) ?_
    refine c_nil ?_
    refine wp_ret ?_
    cases hs
    exact ⟨_, fr_ovl 40 ⟨rfl, trivial⟩, hC⟩
  · skip
    refine c_condF (congrArg Value.bool hc5) ?_
    refine wp_skip ?_
    refine c_seq ?_
    refine c_region ?_
    refine pl_val (.agg #[(.int .i64 aA.1), (.slice pa0 pn0 pc0)]) (y_load rfl ((box_load Ag30 Sz30 hb2 [] [(.int .i64 aA.1), (.slice pa0 pn0 pc0)] [] rfl rfl (fun h => nomatch h)) _ (Chg.refl _ _))) ?_
    obtain ⟨r7, hr7, hs⟩ := bind_some hs
    refine pl_call Bd19 rfl (c_laws_toAlgebra (M := M) (aA.1, aA.2) h0 hO.fut hr7) ?_
    rintro _ w6 ⟨a6x0, n6x0, c6x0, f6x0, rfl, hC6, hv6x0, hOc6⟩
    have h0 := h0.ext hC6
    have hb2 := hb2.chg hC6 (fun h => nomatch h)
    have hC := hC.ext hC6
    have hO := Own.join0 hO hC6 hOc6
    have hO := hO.perm (R := f6x0 ++ (([g2]) ++ ([]))) (by simp)
    obtain ⟨r10, hr10, hs⟩ := bind_some hs
    refine pl_call Bd26 rfl (c_spec_ArePermutable (M := (Less M f6x0)) (r7.1, r7.2) (((Frz.os (Frz.pr Frz.int (Frz.os Frz.int)))).val hv6x0 Less.sub Less.not) hO.less.fut hr10) ?_
    rintro _ w9 ⟨rfl, hC9⟩
    have h0 := h0.ext hC9
    have hb2 := hb2.chg hC9 (fun h => nomatch h)
    have hv6x0 := hv6x0.ext hC9
    have hC := hC.ext hC9
    have hO := hO.ext hC9
    refine pl_val (.tuple #[(.bool r10.1), (.bool r10.2)]) (y_move rfl) ?_
    refine pl_val (.bool r10.1) (y_extract rfl (by kernel_rfl)) ?_
    refine pl_val (.bool r10.2) (y_extract rfl (by kernel_rfl)) ?_
    refine pl_val (.bool r10.1) (y_assign rfl) ?_
    refine pl_val (.bool r10.2) (y_assign rfl) ?_
    refine c_nil ?_
    refine c_seq ?_
    refine c_region ?_
    refine pl_val (.agg #[(.int .i64 aA.1), (.slice pa0 pn0 pc0)]) (y_load rfl ((box_load Ag30 Sz30 hb2 [] [(.int .i64 aA.1), (.slice pa0 pn0 pc0)] [] rfl rfl (fun h => nomatch h)) _ (Chg.refl _ _))) ?_
    obtain ⟨r12, hr12, hs⟩ := bind_some hs
    refine pl_call Bd19 rfl (c_laws_toAlgebra (M := M) (aA.1, aA.2) h0 hO.fut hr12) ?_
    rintro _ w11 ⟨a11x0, n11x0, c11x0, f11x0, rfl, hC11, hv11x0, hOc11⟩
    have h0 := h0.ext hC11
    have hb2 := hb2.chg hC11 (fun h => nomatch h)
    have hv6x0 := hv6x0.ext hC11
    have hC := hC.ext hC11
    have hO := Own.join0 hO hC11 hOc11
    have hO := hO.perm (R := f11x0 ++ (f6x0 ++ (([g2]) ++ ([])))) (by simp)
    obtain ⟨w14, g14, ew14, eg14, hC14, hb14⟩ := new_block w11 [(.int .i64 0), (.slice none 0 0)] 35
    refine pl_val (w' := w14) (.pointer (some ⟨g14, 0, none⟩)) (y_alloc (by rw [ew14, eg14]; kernel_rfl)) ?_
    have h0 := h0.ext hC14
    have hb2 := hb2.chg hC14 (fun h => nomatch h)
    have hv6x0 := hv6x0.ext hC14
    have hv11x0 := hv11x0.ext hC14
    have hC := hC.ext hC14
    have hO := hO.new (X' := [g14]) hC14 (fun q hq => by rw [List.mem_singleton.1 hq, eg14]; exact Nat.le_refl _) (List.nodup_cons.2 ⟨(fun h => nomatch h), List.nodup_nil⟩) (fun q hq => by rw [List.mem_singleton.1 hq]; exact hb14.lt)
    obtain ⟨w15, hst15, hC15, hb15⟩ := box_store (P := Try.prog) hb14 [] [(.int .i64 0), (.slice none 0 0)] [] [(.int .i64 r12.1), (.slice a11x0 n11x0 c11x0)] rfl rfl (by intro u hu; simp only [List.mem_cons, List.not_mem_nil, or_false] at hu; rcases hu with rfl | rfl <;> rfl)
    refine pl_skip (w' := w15) (ys_store rfl rfl (hst15 _ _ rfl Sz35)) ?_
    have h0 := h0.mut hC15 (fun g hg => hO.inM g ((fun _ h => h) g hg)) (fun _ _ h => nomatch h)
    have hb2 := hb2.chg hC15 (fun hg => hO.apart _ ((fun _ h => h) _ hg) (mem_r (mem_r (mem_l (List.mem_singleton.2 rfl)))))
    have hv6x0 := hv6x0.mut hC15 (fun g hg => hO.inM g ((fun _ h => h) g hg)) (fun g hg e => hO.apart g ((fun _ h => h) g hg) (mem_r (mem_l (e))))
    have hv11x0 := hv11x0.mut hC15 (fun g hg => hO.inM g ((fun _ h => h) g hg)) (fun g hg e => hO.apart g ((fun _ h => h) g hg) (mem_l (e)))
    have hC := hC.step hC15 (fun g hg => hO.inN g ((fun _ h => h) g hg))
    have hO := hO.ext hC15
    have hb15 : BoxV w15 g14 35 [(.int .i64 r12.1), (.slice a11x0 n11x0 c11x0)] := hb15
    refine c_nil ?_
    refine c_seq ?_
    refine c_region ?_
    refine pl_val (.agg #[(.int .i64 r12.1), (.slice a11x0 n11x0 c11x0)]) (y_load rfl ((box_load Ag35 Sz35 hb15 [] [(.int .i64 r12.1), (.slice a11x0 n11x0 c11x0)] [] rfl rfl (fun h => nomatch h)) _ (Chg.refl _ _))) ?_
    have hO := hO.fr1
    obtain ⟨r17, hr17, hs⟩ := bind_some hs
    refine pl_call Bd27 rfl (c_impl_ArePermutable (M := (Less M f11x0)) (r12.1, r12.2) (((Frz.os (Frz.pr Frz.int (Frz.os Frz.int)))).val hv11x0 Less.sub Less.not) hO.less.fut hr17) ?_
    rintro _ w16 ⟨rfl, hC16⟩
    have h0 := h0.ext hC16
    have hb2 := hb2.chg hC16 (fun h => nomatch h)
    have hv6x0 := hv6x0.ext hC16
    have hv11x0 := hv11x0.ext hC16
    have hb15 := hb15.chg hC16 (fun h => nomatch h)
    have hC := hC.ext hC16
    have hO := hO.ext hC16
    refine pl_val (.tuple #[(.bool r17.1), (.bool r17.2)]) (y_move rfl) ?_
    refine pl_val (.bool r17.1) (y_extract rfl (by kernel_rfl)) ?_
    refine pl_val (.bool r17.2) (y_extract rfl (by kernel_rfl)) ?_
    refine pl_val (.bool r17.1) (y_assign rfl) ?_
    refine pl_val (.bool r17.2) (y_assign rfl) ?_
    refine c_nil ?_
    refine c_seq ?_
    refine c_seq ?_
    refine c_mid (I := fun a w19 => ∃ (σ : Nat → Value), a = fr 40 (ovl σ [(1, (.pointer (some ⟨g2, 0, none⟩))), (2, (.bool false)), (6, (.pointer (some ⟨g14, 0, none⟩))), (34, (.bool ((!(r17.1 == r10.1)) || (!(r17.2 == r10.2)))))]) ∧ Chg [] w16 w19) ?_ ?_
    · have hMid := Chg.refl [] w16
      refine c_region ?_
      refine pl_val (.bool r17.1) (y_move rfl) ?_
      refine pl_val (.bool r10.1) (y_move rfl) ?_
      refine pl_val (.bool (!(r17.1 == r10.1))) (y_bneq Try.underlying4 rfl rfl) ?_
      refine pl_val (.bool (!(r17.1 == r10.1))) (y_move rfl) ?_
      rcases Bool.eq_false_or_eq_true ((!(r17.1 == r10.1))) with hc21 | hc21
      · skip
        refine pl_not (tg := 30) (by kernel_rfl) (congrArg Value.bool hc21) ?_
        refine pl_not (tg := 30) (by kernel_rfl) (congrArg Value.bool hc21) ?_
        refine pl_not (tg := 30) (by kernel_rfl) (congrArg Value.bool hc21) ?_
        refine pl_val (.bool ((!(r17.1 == r10.1)) || (!(r17.2 == r10.2)))) (y_pick_t (congrArg Value.bool hc21) (congrArg Value.bool (by rw [hc21]; rfl))) ?_
        refine c_nil ?_
        exact ⟨_, fr_ovl 40 ⟨rfl, rfl, rfl, rfl, trivial⟩, hMid⟩
      · skip
        refine pl_yes (.bool r17.2) (tg := 30) (by kernel_rfl) (congrArg Value.bool hc21) (y_move rfl) ?_
        refine pl_yes (.bool r10.2) (tg := 30) (by kernel_rfl) (congrArg Value.bool hc21) (y_move rfl) ?_
        refine pl_yes (.bool (!(r17.2 == r10.2))) (tg := 30) (by kernel_rfl) (congrArg Value.bool hc21) (y_bneq Try.underlying4 rfl rfl) ?_
        refine pl_val (.bool ((!(r17.1 == r10.1)) || (!(r17.2 == r10.2)))) (y_pick_f (congrArg Value.bool hc21) (congrArg Value.bool (by rw [hc21]; rfl))) ?_
        refine c_nil ?_
        exact ⟨_, fr_ovl 40 ⟨rfl, rfl, rfl, rfl, trivial⟩, hMid⟩
    · rintro a1 w19 ⟨σ, rfl, hCs18⟩
      have h0 := h0.ext hCs18
      have hb2 := hb2.chg hCs18 (fun h => nomatch h)
      have hv6x0 := hv6x0.ext hCs18
      have hv11x0 := hv11x0.ext hCs18
      have hb15 := hb15.chg hCs18 (fun h => nomatch h)
      have hC := hC.ext hCs18
      have hO := hO.ext hCs18
      rcases bif_some hs with ⟨hc22, hs⟩ | ⟨hc22, hs⟩
      · skip
        refine c_condT (congrArg Value.bool hc22) ?_
        refine c_seq ?_
        refine c_region ?_
        refine pl_val (.bool false) (y_assign rfl) ?_
        refine c_nil ?_
        refine wp_ret ?_
        cases hs
        exact ⟨_, fr_ovl 40 ⟨rfl, trivial⟩, hC⟩
      · skip
        refine c_condF (congrArg Value.bool hc22) ?_
        refine wp_skip ?_
        refine c_seq ?_
        refine c_seq ?_
        refine x_start [] Mx rfl ?_
        have hCw23 := Chg.drew w19
        generalize World.drew w19 = w23 at hCw23 ⊢
        have h0 := h0.ext hCw23
        have hb2 := hb2.chg hCw23 (fun h => nomatch h)
        have hv6x0 := hv6x0.ext hCw23
        have hv11x0 := hv11x0.ext hCw23
        have hb15 := hb15.chg hCw23 (fun h => nomatch h)
        have hC := hC.ext hCw23
        have hO := hO.ext hCw23
        have hS := Chg.refl [] w23
        refine x_l 0 (.agg #[(.int .i64 r12.1), (.slice a11x0 n11x0 c11x0)]) rfl (by kernel_rfl)  (fun w' hw' => y_load rfl ((box_load Ag35 Sz35 hb15 [] [(.int .i64 r12.1), (.slice a11x0 n11x0 c11x0)] [] rfl rfl (fun h => nomatch h)) w' hw')) hS ?_
        refine x_l 1 (.agg #[(.int .i64 aA.1), (.slice pa0 pn0 pc0)]) rfl (by kernel_rfl)  (fun w' hw' => y_load rfl ((box_load Ag30 Sz30 hb2 [] [(.int .i64 aA.1), (.slice pa0 pn0 pc0)] [] rfl rfl (fun h => nomatch h)) w' hw')) hS ?_
        refine x_one (i := 2) (by kernel_rfl) ?_
        obtain ⟨r25, hr25, hs⟩ := bind_some hs
        refine xk_call (b := false) rfl  Bd19 rfl (c_laws_toAlgebra (M := M) (aA.1, aA.2) h0 hO.fut hr25) rfl (by rintro _ _ _ ⟨a24x0, n24x0, c24x0, f24x0, rfl, hC24, hv24x0, hOc24⟩; exact hS.ext hC24) ?_
        rintro _ w24 ⟨a24x0, n24x0, c24x0, f24x0, rfl, hC24, hv24x0, hOc24⟩
        have h0 := h0.ext hC24
        have hb2 := hb2.chg hC24 (fun h => nomatch h)
        have hv6x0 := hv6x0.ext hC24
        have hv11x0 := hv11x0.ext hC24
        have hb15 := hb15.chg hC24 (fun h => nomatch h)
        have hC := hC.ext hC24
        have hO := Own.join0 hO hC24 hOc24
        have hO := hO.perm (R := f24x0 ++ (f11x0 ++ (([g14]) ++ (f6x0 ++ (([g2]) ++ ([])))))) (by simp)
        have hS := hS.ext hC24
        refine x_one (i := 3) (by kernel_rfl) ?_
        have hO := hO.fr1
        obtain ⟨r28, hr28, hs⟩ := bind_some hs
        refine xk_call (b := false) rfl  Bd21 rfl (c_laws_eqAlgebra (M := (Less (Less M f11x0) f24x0)) (r12.1, r12.2) (r25.1, r25.2) ((((Frz.os (Frz.pr Frz.int (Frz.os Frz.int)))).val hv11x0 Less.sub Less.not).sub Less.sub) (((Frz.os (Frz.pr Frz.int (Frz.os Frz.int)))).val (hv24x0.sub Less.sub) Less.sub Less.not) (hO.less).less.fut hr28) rfl (by rintro _ _ _ ⟨rfl, hC27⟩; exact hS.ext hC27) ?_
        rintro _ w27 ⟨rfl, hC27⟩
        have h0 := h0.ext hC27
        have hb2 := hb2.chg hC27 (fun h => nomatch h)
        have hv6x0 := hv6x0.ext hC27
        have hv11x0 := hv11x0.ext hC27
        have hb15 := hb15.chg hC27 (fun h => nomatch h)
        have hv24x0 := hv24x0.ext hC27
        have hC := hC.ext hC27
        have hO := hO.ext hC27
        have hS := hS.ext hC27
        refine x_p 4 (.bool (!r28)) rfl (by kernel_rfl)  (fun _ => y_not rfl) (fun _ => hS) ?_
        refine x_end (by kernel_rfl) ?_
        clear hS
        rcases bif_some hs with ⟨hc29, hs⟩ | ⟨hc29, hs⟩
        · skip
          refine c_condT (congrArg Value.bool hc29) ?_
          refine c_seq ?_
          refine c_region ?_
          refine pl_val (.bool false) (y_assign rfl) ?_
          refine c_nil ?_
          refine wp_ret ?_
          cases hs
          exact ⟨_, fr_ovl 40 ⟨rfl, trivial⟩, hC⟩
        · skip
          refine c_condF (congrArg Value.bool hc29) ?_
          refine wp_skip ?_
          refine c_seq ?_
          refine c_region ?_
          refine pl_val (.bool true) (y_assign rfl) ?_
          refine c_nil ?_
          refine wp_ret ?_
          cases hs
          exact ⟨_, fr_ovl 40 ⟨rfl, trivial⟩, hC⟩

end Go.Proofs
