/- What functions of the program compute, as plain functions, and that a call gives just that. Conditions: those named in each theorem. -/
import Derived.Test.YtchgbcjecdnclaaF2
set_option linter.unusedVariables false
namespace Go.Proofs
open Go.G Go.RowKit
set_option maxRecDepth 100000

def k_impl_allCongruences (M : Nat → Prop) (w0 : World) (r : (List (List Int)) × Bool) (a : Act) (w : World) : Prop :=
  ∃ (σ : Nat → Value) (ra0 : Option Addr) (rn0 rc0 : Nat) (rf0 : List Nat), a = fr 85 (ovl σ [(2, (.slice ra0 rn0 rc0)), (3, (.bool r.2))]) ∧ Chg [] w0 w ∧ (RT.os 22 (RT.os 3 (RT.int .i64))).val M w (.slice ra0 rn0 rc0) r.1 rf0 ∧ Own (Nw w0 []) (fun _ => True) w (rf0 ++ ([]))
def s_impl_allCongruences (a_ : Int × (List (Int × (List Int)))) : Option ((List (List Int)) × Bool) :=
  (forC (S := (List (List Int))) (R := (List (List Int)) × Bool) (fun k41 s39 =>
  (forC (S := (List (List Int))) (R := (List (List Int)) × Bool) (fun k63 s61 =>
  (s_impl_congruenceOf (a_.1, a_.2) ([(k41, k63)])).bind fun r74 =>
  (app s61 ([r74])).bind fun y79 =>
  some (.nx y79)) (w64 (k41 + 1)) a_.1 s39).bind fun o65 => after o65 (fun r_ => some (.rt r_)) (fun s61 =>
  some (.nx s61))) 0 a_.1 ([])).bind fun o43 => after o43 (fun r_ => some r_) (fun s39 =>
  (s_impl_identityOf a_.1).bind fun r82 =>
  (idx ([r82]) 0).bind fun x88 =>
  (s_impl_keyOf x88).bind fun r93 =>
  (iter (S := (List (List Int)) × Int × (List (ByteArray × Bool))) (R := (List (List Int)) × Bool) (fun s640 =>
  (bif (decide (s640.2.1 < (s640.1.length : Int))) then (forR (S := (List (List Int)) × (List (ByteArray × Bool))) (R := (List (List Int)) × Bool) (fun _ x737 s734 =>
  (idx s734.1 s640.2.1).bind fun x749 =>
  (s_impl_join x749 x737).bind fun r754 =>
  (s_impl_keyOf r754).bind fun r757 =>
  (bif (!((mget s734.2 r757).getD false)) then (app s734.1 ([r754])).bind fun y781 =>
  some (y781, mput s734.2 r757 true) else some (s734.1, s734.2)).bind fun s770 =>
  (bif (decide (200 < (s770.1.length : Int))) then some (.rt ([], false)) else some (.nx (s770.1, s770.2)))) 0 s39 (s640.1, s640.2.2)).bind fun o738 => after o738 (fun r_ => some (.rt r_)) (fun s734 =>
  some (.nx (s734.1, w64 (s640.2.1 + 1), s734.2))) else some (.br (s640.1, s640.2.1, s640.2.2)))) FU ([r82], 0, mput ([]) r93 true)).bind fun o644 => after o644 (fun r_ => some r_) (fun s640 =>
  (s_impl_sortRows__impl_compareCongruences s640.1).bind fun r785 =>
  some (r785, true)))
set_option maxHeartbeats 4000000 in
theorem c_impl_allCongruences {M : Nat → Prop} {w : World} {pa0 : Option Addr} {pn0 pc0 : Nat} (a_ : Int × (List (Int × (List Int)))) (h0 : (RT.rs (RT.pr (RT.int .i64) (RT.rs (RT.int .i64)))).val M w (.slice pa0 pn0 pc0) a_.2 ([])) (hM : ∀ g, w.heap.size ≤ g → M g) {r : (List (List Int)) × Bool} (hs : s_impl_allCongruences a_ = some r) :
    Gives Try.prog 110 [(.agg #[(.int .i64 a_.1), (.slice pa0 pn0 pc0)])] w (fun v w' => ∃ (ra0 : Option Addr) (rn0 rc0 : Nat) (rf0 : List Nat), v = (.tuple #[(.slice ra0 rn0 rc0), (.bool r.2)]) ∧ Chg [] w w' ∧ (RT.os 22 (RT.os 3 (RT.int .i64))).val M w' (.slice ra0 rn0 rc0) r.1 rf0 ∧ Own (Nw w []) (fun _ => True) w' (rf0 ++ ([]))) := by
 refine calls_fr Try.func110 rfl Try.ntmps110 (Nat.le_of_ble_eq_true rfl) ?_
 have hO := Own.start (N := Nw w []) hM Nw.fut
 have hC := Chg.refl [] w
 unfold s_impl_allCongruences at hs
 refine wp_mono (Q := KPost (k_impl_allCongruences M w r)) ?_ (fun e a w1 h => ?_)
 rotate_left
 ·cases e
  case ret =>
   obtain ⟨σ, ra0, rn0, rc0, rf0, rfl, hrest⟩ := h
   exact ret2x Try.results110 (res_tmp rfl) (res_tmp rfl) ⟨ra0, rn0, rc0, rf0, rfl, hrest⟩
  all_goals exact (h : False).elim
 refine c_seq (c_region ?_)
 obtain ⟨w2, g2, ew2, eg2, hC2, hb2⟩ := new_block w [(.int .i64 a_.1), (.slice pa0 pn0 pc0)] 35
 refine pl_val (w' := w2) (.pointer (some ⟨g2, 0, none⟩)) (y_box rfl (by rw [ew2, eg2]; kernel_rfl)) ?_
 have h0 := h0.ext hC2
 have hC := hC.ext hC2
 have hO := hO.new1 hC2 eg2 hb2.lt
 refine pl_val (.slice none 0 0) (y_assign rfl) ?_
 refine pl_val (.bool false) (y_assign rfl) ?_
 refine c_nil ?_
 refine c_seq (c_region ?_)
 obtain ⟨w3, g3, ew3, eg3, hC3, hb3⟩ := new_block w2 [] 22
 refine pl_val (w' := w3) (.slice (some ⟨g3, 0, none⟩) 0 0) (y_bslice rfl (by rw [ew3, eg3]; kernel_rfl)) ?_
 have h0 := h0.ext hC3
 have hb2 := hb2.chg hC3 (fun h => nomatch h)
 have hC := hC.ext hC3
 have hO := hO.new1 hC3 eg3 hb3.lt
 have hv3 := os_of_box (r := (RT.os 3 (RT.int .i64))) (M := M) (css := []) (fps := []) (xs := ([] : List (List Int))) hb3 trivial (Nat.zero_le _) (List.nodup_cons.2 ⟨(fun h => nomatch h), List.nodup_nil⟩)
 have hv3 : (RT.os 22 (RT.os 3 (RT.int .i64))).val M w3 (.slice (some ⟨g3, 0, none⟩) 0 0) [] [g3] := hv3
 refine pl_val (.slice (some ⟨g3, 0, none⟩) 0 0) (y_assign rfl) ?_
 refine c_nil ?_
 refine c_seq ?_
 refine c_seq (c_region ?_)
 refine pl_val (.int .i64 0) (y_assign rfl) ?_
 refine c_nil ?_
 obtain ⟨o43, hl44, hs⟩ := bind_some hs
 refine wp_block ?_
 refine wp_forC (id := 0) a_.1 (I := fun k41 s39 a w40 => ∃ (σ : Nat → Value) (a45 : Option Addr) (n45 : Nat) (c45 : Nat) (f45 : List Nat), a = fr 85 (ovl σ [(1, (.pointer (some ⟨g2, 0, none⟩))), (4, (.slice a45 n45 c45)), (5, (.int .i64 k41))]) ∧ Chg [] w w40 ∧ Own (Nw w []) M w40 (f45 ++ (([g2]) ++ [])) ∧ (RT.rs (RT.pr (RT.int .i64) (RT.rs (RT.int .i64)))).val M w40 (.slice pa0 pn0 pc0) a_.2 ([]) ∧ BoxV w40 g2 35 [(.int .i64 a_.1), (.slice pa0 pn0 pc0)] ∧ (RT.os 22 (RT.os 3 (RT.int .i64))).val M w40 (.slice a45 n45 c45) s39 f45) (J := fun s39 a w40 => ∃ (σ : Nat → Value) (a47 : Option Addr) (n47 : Nat) (c47 : Nat) (f47 : List Nat), a = fr 85 (ovl σ [(1, (.pointer (some ⟨g2, 0, none⟩))), (4, (.slice a47 n47 c47))]) ∧ Chg [] w w40 ∧ Own (Nw w []) M w40 (f47 ++ (([g2]) ++ [])) ∧ (RT.rs (RT.pr (RT.int .i64) (RT.rs (RT.int .i64)))).val M w40 (.slice pa0 pn0 pc0) a_.2 ([]) ∧ BoxV w40 g2 35 [(.int .i64 a_.1), (.slice pa0 pn0 pc0)] ∧ (RT.os 22 (RT.os 3 (RT.int .i64))).val M w40 (.slice a47 n47 c47) s39 f47) (K := (k_impl_allCongruences M w)) ?_ ?_ 0 ([]) o43 _ _ ?_ hl44 ?_
 ·rintro k41 s39 a w40 ⟨σ, a45, n45, c45, f45, rfl, hC, hO, h0, hb2, hv45⟩ hlt
  refine c_seq ?_
  refine c_seq (c_region ?_)
  refine pl_val (.int .i64 k41) (y_move rfl) ?_
  refine pl_val (.pointer (some ⟨g2, 0, none⟩)) (y_faddr rfl Fa35x0) ?_
  refine pl_val (.int .i64 a_.1) (y_load rfl ((box_load Ag3 Sz3 hb2 [] [(.int .i64 a_.1)] [(.slice pa0 pn0 pc0)] rfl rfl (fun _ => rfl)) _ (Chg.refl _ _))) ?_
  refine pl_val (.bool (decide (k41 < a_.1))) (y_lss rfl rfl) ?_
  refine c_nil ?_
  refine c_condF (congrArg Value.bool (decide_eq_false hlt)) ?_
  refine wp_exit ?_
  have hO := hO.fr1
  have hO := hO.fr1
  exact ⟨rfl, _, a45, n45, c45, f45, fr_ovl 85 ⟨rfl, rfl, trivial⟩, hC, hO, h0, hb2, hv45⟩
 ·rintro k41 s39 o43 a w40 ⟨σ, a45, n45, c45, f45, rfl, hC, hO, h0, hb2, hv45⟩ hlt hw hs
  refine c_seq ?_
  refine c_seq (c_region ?_)
  refine pl_val (.int .i64 k41) (y_move rfl) ?_
  refine pl_val (.pointer (some ⟨g2, 0, none⟩)) (y_faddr rfl Fa35x0) ?_
  refine pl_val (.int .i64 a_.1) (y_load rfl ((box_load Ag3 Sz3 hb2 [] [(.int .i64 a_.1)] [(.slice pa0 pn0 pc0)] rfl rfl (fun _ => rfl)) _ (Chg.refl _ _))) ?_
  refine pl_val (.bool (decide (k41 < a_.1))) (y_lss rfl rfl) ?_
  refine c_nil ?_
  refine c_condT (congrArg Value.bool (decide_eq_true hlt)) ?_
  refine wp_skip ?_
  refine c_seq ?_
  refine wp_block ?_
  refine c_seq (c_region ?_)
  refine pl_val (.int .i64 k41) (y_move rfl) ?_
  refine pl_val (.int .i64 (w64 (k41 + 1))) (y_add rfl rfl) ?_
  refine pl_val (.int .i64 (w64 (k41 + 1))) (y_assign rfl) ?_
  refine c_nil ?_
  obtain ⟨o65, hl66, hs⟩ := bind_some hs
  refine wp_block ?_
  refine wp_forC (id := 2) a_.1 (I := fun k63 s61 a w62 => ∃ (σ : Nat → Value) (a67 : Option Addr) (n67 : Nat) (c67 : Nat) (f67 : List Nat), a = fr 85 (ovl σ [(1, (.pointer (some ⟨g2, 0, none⟩))), (4, (.slice a67 n67 c67)), (5, (.int .i64 k41)), (6, (.int .i64 k63))]) ∧ Chg [] w w62 ∧ Own (Nw w []) M w62 (f67 ++ (([g2]) ++ [])) ∧ (RT.rs (RT.pr (RT.int .i64) (RT.rs (RT.int .i64)))).val M w62 (.slice pa0 pn0 pc0) a_.2 ([]) ∧ BoxV w62 g2 35 [(.int .i64 a_.1), (.slice pa0 pn0 pc0)] ∧ (RT.os 22 (RT.os 3 (RT.int .i64))).val M w62 (.slice a67 n67 c67) s61 f67) (J := fun s61 a w62 => ∃ (σ : Nat → Value) (a69 : Option Addr) (n69 : Nat) (c69 : Nat) (f69 : List Nat), a = fr 85 (ovl σ [(1, (.pointer (some ⟨g2, 0, none⟩))), (4, (.slice a69 n69 c69)), (5, (.int .i64 k41))]) ∧ Chg [] w w62 ∧ Own (Nw w []) M w62 (f69 ++ (([g2]) ++ [])) ∧ (RT.rs (RT.pr (RT.int .i64) (RT.rs (RT.int .i64)))).val M w62 (.slice pa0 pn0 pc0) a_.2 ([]) ∧ BoxV w62 g2 35 [(.int .i64 a_.1), (.slice pa0 pn0 pc0)] ∧ (RT.os 22 (RT.os 3 (RT.int .i64))).val M w62 (.slice a69 n69 c69) s61 f69) (K := (k_impl_allCongruences M w)) ?_ ?_ (w64 (k41 + 1)) s39 o65 _ _ ?_ hl66 ?_
  ·rintro k63 s61 a w62 ⟨σ, a67, n67, c67, f67, rfl, hC, hO, h0, hb2, hv67⟩ hlt
   refine c_seq ?_
   refine c_seq (c_region ?_)
   refine pl_val (.int .i64 k63) (y_move rfl) ?_
   refine pl_val (.pointer (some ⟨g2, 0, none⟩)) (y_faddr rfl Fa35x0) ?_
   refine pl_val (.int .i64 a_.1) (y_load rfl ((box_load Ag3 Sz3 hb2 [] [(.int .i64 a_.1)] [(.slice pa0 pn0 pc0)] rfl rfl (fun _ => rfl)) _ (Chg.refl _ _))) ?_
   refine pl_val (.bool (decide (k63 < a_.1))) (y_lss rfl rfl) ?_
   refine c_nil ?_
   refine c_condF (congrArg Value.bool (decide_eq_false hlt)) ?_
   refine wp_exit ?_
   have hO := hO.fr1
   have hO := hO.fr1
   exact ⟨rfl, _, a67, n67, c67, f67, fr_ovl 85 ⟨rfl, rfl, rfl, trivial⟩, hC, hO, h0, hb2, hv67⟩
  ·rintro k63 s61 o65 a w62 ⟨σ, a67, n67, c67, f67, rfl, hC, hO, h0, hb2, hv67⟩ hlt hw hs
   refine c_seq ?_
   refine c_seq (c_region ?_)
   refine pl_val (.int .i64 k63) (y_move rfl) ?_
   refine pl_val (.pointer (some ⟨g2, 0, none⟩)) (y_faddr rfl Fa35x0) ?_
   refine pl_val (.int .i64 a_.1) (y_load rfl ((box_load Ag3 Sz3 hb2 [] [(.int .i64 a_.1)] [(.slice pa0 pn0 pc0)] rfl rfl (fun _ => rfl)) _ (Chg.refl _ _))) ?_
   refine pl_val (.bool (decide (k63 < a_.1))) (y_lss rfl rfl) ?_
   refine c_nil ?_
   refine c_condT (congrArg Value.bool (decide_eq_true hlt)) ?_
   refine wp_skip ?_
   refine c_seq ?_
   refine wp_block ?_
   refine c_region ?_
   refine pl_val (.slice a67 n67 c67) (y_move rfl) ?_
   refine pl_val (.agg #[(.int .i64 a_.1), (.slice pa0 pn0 pc0)]) (y_load rfl ((box_load Ag35 Sz35 hb2 [] [(.int .i64 a_.1), (.slice pa0 pn0 pc0)] [] rfl rfl (fun h => nomatch h)) _ (Chg.refl _ _))) ?_
   refine pl_val (.int .i64 k41) (y_move rfl) ?_
   refine pl_val (.int .i64 k63) (y_move rfl) ?_
   refine pl_val (.agg #[(.int .i64 k41), (.int .i64 k63)]) (y_build rfl (by kernel_rfl)) ?_
   obtain ⟨w71, g71, ew71, eg71, hC71, hb71⟩ := new_block w62 [(.int .i64 k41), (.int .i64 k63)] 103
   refine pl_val (w' := w71) (.slice (some ⟨g71, 0, none⟩) 1 1) (y_bslice rfl (by rw [ew71, eg71]; kernel_rfl)) ?_
   have h0 := h0.ext hC71
   have hb2 := hb2.chg hC71 (fun h => nomatch h)
   have hv67 := hv67.ext hC71
   have hC := hC.ext hC71
   have hO := hO.new1 hC71 eg71 hb71.lt
   have hv71 := os_of_box (r := (RT.pr (RT.int .i64) (RT.int .i64))) (M := M) (css := [[(.int .i64 k41), (.int .i64 k63)]]) (fps := [([] : List Nat)]) (xs := ([(k41, k63)] : List (Int × Int))) hb71 ⟨⟨_, _, _, _, rfl, rfl, ⟨rfl, rfl⟩, ⟨rfl, rfl⟩⟩, trivial⟩ (Nat.le_of_ble_eq_true rfl) (List.nodup_cons.2 ⟨(fun h => nomatch h), List.nodup_nil⟩)
   have hv71 : (RT.os 103 (RT.pr (RT.int .i64) (RT.int .i64))).val M w71 (.slice (some ⟨g71, 0, none⟩) 1 1) [(k41, k63)] [g71] := hv71
   obtain ⟨r74, hr74, hs⟩ := bind_some hs
   refine pl_call Bd125 rfl (c_impl_congruenceOf (M := (Less M ([g71]))) (a_.1, a_.2) ([(k41, k63)]) (h0.sub Less.sub) (((Frz.os (Frz.pr Frz.int Frz.int))).val hv71 Less.sub Less.not) hO.less.fut hr74) ?_
   rintro _ w73 ⟨a73x0, n73x0, c73x0, f73x0, rfl, hC73, hv73x0, hOc73⟩
   have h0 := h0.ext hC73
   have hb2 := hb2.chg hC73 (fun h => nomatch h)
   have hv67 := hv67.ext hC73
   have hv71 := hv71.ext hC73
   have hC := hC.ext hC73
   have hO := Own.join0 hO hC73 hOc73
   have hO := hO.perm (R := f73x0 ++ (([g71]) ++ (f67 ++ (([g2]) ++ ([]))))) (by simp)
   have hv73x0 := hv73x0.free (M' := M) (Free.os Free.int)
   obtain ⟨w76, g76, ew76, eg76, hC76, hb76⟩ := new_block w73 [(.slice a73x0 n73x0 c73x0)] 22
   refine pl_val (w' := w76) (.slice (some ⟨g76, 0, none⟩) 1 1) (y_bslice rfl (by rw [ew76, eg76]; kernel_rfl)) ?_
   have h0 := h0.ext hC76
   have hb2 := hb2.chg hC76 (fun h => nomatch h)
   have hv67 := hv67.ext hC76
   have hv71 := hv71.ext hC76
   have hv73x0 := hv73x0.ext hC76
   have hC := hC.ext hC76
   have hO := hO.new1 hC76 eg76 hb76.lt
   have hO := hO.perm (R := (g76 :: ((f73x0) ++ ([]))) ++ (([g71]) ++ (f67 ++ (([g2]) ++ ([]))))) (by simp)
   have hnd76 := hO.nd
   have hv76 := os_of_box (r := (RT.os 3 (RT.int .i64))) (M := M) (css := [[(.slice a73x0 n73x0 c73x0)]]) (fps := [(f73x0 : List Nat)]) (xs := ([r74] : List (List Int))) hb76 ⟨(os_unval hv73x0), trivial⟩ (Nat.le_of_ble_eq_true rfl) hnd76
   have hv76 : (RT.os 22 (RT.os 3 (RT.int .i64))).val M w76 (.slice (some ⟨g76, 0, none⟩) 1 1) [r74] (g76 :: ((f73x0) ++ ([]))) := hv76
   obtain ⟨y79, hy79, hs⟩ := bind_some hs
   have hO := hO.fr2
   obtain ⟨a78, n78, c78, w78, f78, hr78, hC78, hf78, hv78⟩ := app_os Rw41 hy79 hv67 hv76 hO.inM (fun g hg hq => hO.apart g hq (mem_l hg))
   have hG78 := os_block hv67
   refine pl_val (w' := w78) (.slice a78 n78 c78) (y_append rfl rfl (hr78 _)) ?_
   have hO := hO.fr1
   have hO := hO.fr1
   have h0 := h0.mut hC78 (fun g hg => hO.inM g (hG78 g hg)) (fun _ _ h => nomatch h)
   have hb2 := hb2.chg hC78 (fun hg => hO.apart _ (hG78 _ hg) (mem_r (mem_r (mem_l (List.mem_singleton.2 rfl)))))
   have hv71 := hv71.mut hC78 (fun g hg => hO.inM g (hG78 g hg)) (fun g hg e => hO.apart g (hG78 g hg) (mem_r (mem_l (e))))
   have hC := hC.step hC78 (fun g hg => hO.inN g (hG78 g hg))
   have hO := hO.eat hC78 hf78 (os_nodup hv78) hv78.fpl
   refine pl_val (.slice a78 n78 c78) (y_assign rfl) ?_
   refine c_nil ?_
   refine c_region ?_
   refine pl_val (.int .i64 k63) (y_move rfl) ?_
   refine pl_val (.int .i64 (w64 (k63 + 1))) (y_add rfl rfl) ?_
   refine pl_val (.int .i64 (w64 (k63 + 1))) (y_assign rfl) ?_
   refine c_nil ?_
   cases hs
   have hO := hO.fr1
   have hO := hO.drop
   have hO := hO.fr1
   have hO := hO.fr1
   exact ⟨_, a78, n78, c78, f78, fr_ovl 85 ⟨rfl, rfl, rfl, congrArg (Value.int .i64) hw, trivial⟩, hC, hO, h0, hb2, hv78⟩
  ·skip
   have hO := hO.fr1
   have hO := hO.fr1
   exact ⟨_, a45, n45, c45, f45, fr_ovl 85 ⟨rfl, rfl, rfl, rfl, trivial⟩, hC, hO, h0, hb2, hv45⟩
  ·cases o65 with
   | nx _ => exact True.intro
   | rt r_ =>
    have hs := after_rt hs
    intro a1 w1 hK
    cases hs
    exact hK
   | br s61 =>
    have hs := after_br hs
    rintro a1 w62 ⟨σ, a69, n69, c69, f69, rfl, hC, hO, h0, hb2, hv69⟩
    refine c_region ?_
    refine pl_val (.int .i64 k41) (y_move rfl) ?_
    refine pl_val (.int .i64 (w64 (k41 + 1))) (y_add rfl rfl) ?_
    refine pl_val (.int .i64 (w64 (k41 + 1))) (y_assign rfl) ?_
    refine c_nil ?_
    cases hs
    have hO := hO.fr1
    have hO := hO.fr1
    exact ⟨_, a69, n69, c69, f69, fr_ovl 85 ⟨rfl, rfl, congrArg (Value.int .i64) hw, trivial⟩, hC, hO, h0, hb2, hv69⟩
 ·skip
  have hO := hO.fr1
  have hO := hO.fr1
  exact ⟨_, (some ⟨g3, 0, none⟩), 0, 0, ([g3]), fr_ovl 85 ⟨rfl, rfl, rfl, trivial⟩, hC, hO, h0, hb2, hv3⟩
 ·cases o43 with
  | nx _ => exact True.intro
  | rt r_ =>
   have hs := after_rt hs
   intro a1 w1 hK
   cases hs
   exact hK
  | br s39 =>
   have hs := after_br hs
   rintro a1 w40 ⟨σ, a47, n47, c47, f47, rfl, hC, hO, h0, hb2, hv47⟩
   refine c_seq (c_region ?_)
   refine pl_val (.pointer (some ⟨g2, 0, none⟩)) (y_faddr rfl Fa35x0) ?_
   refine pl_val (.int .i64 a_.1) (y_load rfl ((box_load Ag3 Sz3 hb2 [] [(.int .i64 a_.1)] [(.slice pa0 pn0 pc0)] rfl rfl (fun _ => rfl)) _ (Chg.refl _ _))) ?_
   obtain ⟨r82, hr82, hs⟩ := bind_some hs
   refine pl_call Bd126 rfl (c_impl_identityOf (M := M) a_.1  hO.fut hr82) ?_
   rintro _ w81 ⟨a81x0, n81x0, c81x0, f81x0, rfl, hC81, hv81x0, hOc81⟩
   have h0 := h0.ext hC81
   have hb2 := hb2.chg hC81 (fun h => nomatch h)
   have hv47 := hv47.ext hC81
   have hC := hC.ext hC81
   have hO := Own.join0 hO hC81 hOc81
   have hO := hO.perm (R := f81x0 ++ (f47 ++ (([g2]) ++ ([])))) (by simp)
   obtain ⟨w84, g84, ew84, eg84, hC84, hb84⟩ := new_block w81 [(.slice a81x0 n81x0 c81x0)] 22
   refine pl_val (w' := w84) (.slice (some ⟨g84, 0, none⟩) 1 1) (y_bslice rfl (by rw [ew84, eg84]; kernel_rfl)) ?_
   have h0 := h0.ext hC84
   have hb2 := hb2.chg hC84 (fun h => nomatch h)
   have hv47 := hv47.ext hC84
   have hv81x0 := hv81x0.ext hC84
   have hC := hC.ext hC84
   have hO := hO.new1 hC84 eg84 hb84.lt
   have hO := hO.perm (R := (g84 :: ((f81x0) ++ ([]))) ++ (f47 ++ (([g2]) ++ ([])))) (by simp)
   have hnd84 := hO.nd
   have hv84 := os_of_box (r := (RT.os 3 (RT.int .i64))) (M := M) (css := [[(.slice a81x0 n81x0 c81x0)]]) (fps := [(f81x0 : List Nat)]) (xs := ([r82] : List (List Int))) hb84 ⟨(os_unval hv81x0), trivial⟩ (Nat.le_of_ble_eq_true rfl) hnd84
   have hv84 : (RT.os 22 (RT.os 3 (RT.int .i64))).val M w84 (.slice (some ⟨g84, 0, none⟩) 1 1) [r82] (g84 :: ((f81x0) ++ ([]))) := hv84
   refine pl_val (.slice (some ⟨g84, 0, none⟩) 1 1) (y_assign rfl) ?_
   refine c_nil ?_
   refine c_seq (c_region ?_)
   obtain ⟨w86, b86, ew86, eb86, hC86, hv86⟩ := mo_make (enc := Value.bool) (M := M) w84
   refine pl_val (w' := w86) (.map (some b86)) (by rw [ew86, eb86]; exact y_mmap) ?_
   have hb2 := hb2.chg hC86 (fun h => nomatch h)
   have hv47 := hv47.ext hC86
   have hv84 := hv84.ext hC86
   have hC := hC.ext hC86
   have hO := hO.new (X' := [b86]) hC86 (fun q hq => by rw [List.mem_singleton.1 hq, eb86]; exact Nat.le_refl _) (List.nodup_cons.2 ⟨(fun h => nomatch h), List.nodup_nil⟩) hv86.fpl
   refine pl_val (.slice (some ⟨g84, 0, none⟩) 1 1) (y_move rfl) ?_
   obtain ⟨x88, hx88, hs⟩ := bind_some hs
   obtain ⟨g89, f89, hg89, hk89, hp89, ha89, hf89⟩ := os_idx Sl41 Sz22 hv84 hx88
   have hb89 := own_row (Frz.os Frz.int) ha89 hf89
   refine pl_val (.pointer (some ⟨g89, 0 + Int.toNat 0 * 1, none⟩)) (hp89 _ _ _ _ _ _ _ _ _ rfl rfl) ?_
   obtain ⟨v90, hl90, hrow90, hv90⟩ := at_load1 Ag22 Sz22 rfl rfl hb89
   obtain ⟨a90, n90, c90, rfl⟩ := rs_sl hv90
   refine pl_val (.slice a90 n90 c90) (y_load rfl (hl90 _ (Chg.refl _ _))) ?_
   have hO := hO.fr1
   obtain ⟨r93, hr93, hs⟩ := bind_some hs
   refine pl_call Bd127 rfl (c_impl_keyOf (M := (Less M (g84 :: ((f81x0) ++ ([]))))) x88 hv90 hO.less.fut hr93) ?_
   rintro _ w92 ⟨rfl, hC92⟩
   have hb2 := hb2.chg hC92 (fun h => nomatch h)
   have hv47 := hv47.ext hC92
   have hv84 := hv84.ext hC92
   have hv86 := hv86.ext hC92
   have hv90 := hv90.ext hC92
   have hrow90 := hrow90.chg hC92 (fun h => nomatch h)
   have hC := hC.ext hC92
   have hO := hO.ext hC92
   have hO := hO.fr1
   obtain ⟨w94, hst94, hC94, hv94⟩ := mo_put (P := Try.prog) (t := 105) (key := r93) (x := true) Try.underlying105 Try.underlying9 hv86
   refine pl_skip (w' := w94) (ys_ins rfl rfl rfl hst94) ?_
   have hb2 := hb2.chg hC94 (fun hg => hO.apart _ ((fun _ h => h) _ hg) (mem_r (mem_r (mem_l (List.mem_singleton.2 rfl)))))
   have hv47 := hv47.mut hC94 (fun g hg => hO.inM g ((fun _ h => h) g hg)) (fun g hg e => hO.apart g ((fun _ h => h) g hg) (mem_r (mem_l (e))))
   have hv84 := hv84.mut hC94 (fun g hg => hO.inM g ((fun _ h => h) g hg)) (fun g hg e => hO.apart g ((fun _ h => h) g hg) (mem_l (e)))
   have hv90 := hv90.mut hC94 (fun g hg => ⟨hO.inM g ((fun _ h => h) g hg), fun e => hO.apart g ((fun _ h => h) g hg) (mem_l (e))⟩) (fun _ _ h => nomatch h)
   have hC := hC.step hC94 (fun g hg => hO.inN g ((fun _ h => h) g hg))
   have hO := hO.ext hC94
   refine pl_val (.map (some b86)) (y_move rfl) ?_
   refine pl_val (.map (some b86)) (y_assign rfl) ?_
   refine c_nil ?_
   refine c_seq ?_
   refine c_seq (c_region ?_)
   refine pl_val (.int .i64 0) (y_assign rfl) ?_
   refine c_nil ?_
   have hO := hO.fr3
   have hO := hO.drop
   obtain ⟨o644, hl645, hs⟩ := bind_some hs
   refine wp_block ?_
   refine wp_iter (id := 4) (I := fun s640 a w641 => ∃ (σ : Nat → Value) (a646 : Option Addr) (n646 : Nat) (c646 : Nat) (f646 : List Nat) (f648 : List Nat), a = fr 85 (ovl σ [(4, (.slice a47 n47 c47)), (7, (.slice a646 n646 c646)), (8, (.map (some b86))), (9, (.int .i64 s640.2.1))]) ∧ Chg [] w w641 ∧ Own (Nw w []) M w641 (f646 ++ (f648 ++ (f47 ++ []))) ∧ (RT.os 22 (RT.os 3 (RT.int .i64))).val M w641 (.slice a47 n47 c47) s39 f47 ∧ (RT.mo Value.bool).val M w641 (.map (some b86)) s640.2.2 f648 ∧ (RT.os 22 (RT.os 3 (RT.int .i64))).val M w641 (.slice a646 n646 c646) s640.1 f646) (J := fun s640 a w641 => ∃ (σ : Nat → Value) (a649 : Option Addr) (n649 : Nat) (c649 : Nat) (f649 : List Nat) (f651 : List Nat), a = fr 85 (ovl σ [(7, (.slice a649 n649 c649))]) ∧ Chg [] w w641 ∧ Own (Nw w []) M w641 (f649 ++ (f651 ++ (f47 ++ []))) ∧ (RT.os 22 (RT.os 3 (RT.int .i64))).val M w641 (.slice a47 n47 c47) s39 f47 ∧ (RT.mo Value.bool).val M w641 (.map (some b86)) s640.2.2 f651 ∧ (RT.os 22 (RT.os 3 (RT.int .i64))).val M w641 (.slice a649 n649 c649) s640.1 f649) (K := (k_impl_allCongruences M w)) ?_ FU ([r82], 0, mput ([]) r93 true) o644 _ _ ?_ hl645 ?_
   ·rintro s640 o644 a w641 ⟨σ, a646, n646, c646, f646, f648, rfl, hC, hO, hv47, hv648, hv646⟩ hs
    refine c_seq ?_
    refine c_seq (c_region ?_)
    refine pl_val (.int .i64 s640.2.1) (y_move rfl) ?_
    refine pl_val (.slice a646 n646 c646) (y_move rfl) ?_
    refine pl_val (.int .i64 (s640.1.length : Int)) (y_len' Sl41 (os_len hv646) rfl) ?_
    refine pl_val (.bool (decide (s640.2.1 < (s640.1.length : Int)))) (y_lss rfl rfl) ?_
    refine c_nil ?_
    rcases bif_some hs with ⟨hc652, hs⟩ | ⟨hc652, hs⟩
    ·skip
     refine c_condT (congrArg Value.bool hc652) ?_
     refine wp_skip ?_
     refine c_seq ?_
     refine wp_block ?_
     refine c_seq (c_region ?_)
     refine pl_val (.slice a47 n47 c47) (y_move rfl) ?_
     refine pl_val (.int .i64 (s39.length : Int)) (y_len' Sl41 (os_len hv47) rfl) ?_
     refine pl_val (.int .i64 0) (y_move rfl) ?_
     refine c_nil ?_
     obtain ⟨o738, hl739, hs⟩ := bind_some hs
     refine wp_block ?_
     refine wp_forR (id := 6) (I := fun i_ xs_ s734 a w735 => ∃ k736 : Nat, i_ = (k736 : Int) ∧ List.drop k736 s39 = xs_ ∧ (∃ (σ : Nat → Value) (a740 : Option Addr) (n740 : Nat) (c740 : Nat) (f740 : List Nat) (f742 : List Nat), a = fr 85 (ovl σ [(4, (.slice a47 n47 c47)), (7, (.slice a740 n740 c740)), (8, (.map (some b86))), (9, (.int .i64 s640.2.1)), (54, (.slice a47 n47 c47)), (55, (.int .i64 (s39.length : Int))), (56, (.int .i64 (k736 : Int)))]) ∧ Chg [] w w735 ∧ Own (Nw w []) M w735 (f740 ++ (f742 ++ (f47 ++ []))) ∧ (RT.os 22 (RT.os 3 (RT.int .i64))).val M w735 (.slice a47 n47 c47) s39 f47 ∧ (RT.mo Value.bool).val M w735 (.map (some b86)) s734.2 f742 ∧ (RT.os 22 (RT.os 3 (RT.int .i64))).val M w735 (.slice a740 n740 c740) s734.1 f740)) (J := fun s734 a w735 => ∃ (σ : Nat → Value) (a743 : Option Addr) (n743 : Nat) (c743 : Nat) (f743 : List Nat) (f745 : List Nat), a = fr 85 (ovl σ [(4, (.slice a47 n47 c47)), (7, (.slice a743 n743 c743)), (8, (.map (some b86))), (9, (.int .i64 s640.2.1))]) ∧ Chg [] w w735 ∧ Own (Nw w []) M w735 (f743 ++ (f745 ++ (f47 ++ []))) ∧ (RT.os 22 (RT.os 3 (RT.int .i64))).val M w735 (.slice a47 n47 c47) s39 f47 ∧ (RT.mo Value.bool).val M w735 (.map (some b86)) s734.2 f745 ∧ (RT.os 22 (RT.os 3 (RT.int .i64))).val M w735 (.slice a743 n743 c743) s734.1 f743) (K := (k_impl_allCongruences M w)) ?_ ?_ s39 0 (s640.1, s640.2.2) o738 _ _ ?_ hl739 ?_
     ·rintro _ s734 a w735 ⟨k736, rfl, hd, σ, a740, n740, c740, f740, f742, rfl, hC, hO, hv47, hv742, hv740⟩
      have hlt := drop_nil_ge hd
      refine c_seq (c_region ?_)
      refine pl_val (.bool (decide ((k736 : Int) < (s39.length : Int)))) (y_lss rfl rfl) ?_
      refine c_nil ?_
      refine c_seq ?_
      refine c_condF (congrArg Value.bool (decide_eq_false hlt)) ?_
      refine wp_exit ?_
      have hO := hO.fr2
      have hO := hO.fr2
      have hO := hO.fr2
      exact ⟨rfl, _, a740, n740, c740, f740, f742, fr_ovl 85 ⟨rfl, rfl, rfl, rfl, trivial⟩, hC, hO, hv47, hv742, hv740⟩
     ·rintro _ x737 xs_ s734 o738 a w735 ⟨k736, rfl, hd, σ, a740, n740, c740, f740, f742, rfl, hC, hO, hv47, hv742, hv740⟩ hs
      have hlt := drop_cons_lt hd
      have hxk736 := drop_cons_idx hd
      refine c_seq (c_region ?_)
      refine pl_val (.bool (decide ((k736 : Int) < (s39.length : Int)))) (y_lss rfl rfl) ?_
      refine c_nil ?_
      refine c_seq ?_
      refine c_condT (congrArg Value.bool (decide_eq_true hlt)) ?_
      refine wp_skip ?_
      refine c_seq ?_
      refine wp_block ?_
      refine c_seq (c_region ?_)
      obtain ⟨g746, f746, hg746, hk746, hp746, ha746, hf746⟩ := os_idx Sl41 Sz22 hv47 hxk736
      have hb746 := own_row (Frz.os Frz.int) ha746 hf746
      refine pl_val (.pointer (some ⟨g746, 0 + Int.toNat (k736 : Int) * 1, none⟩)) (hp746 _ _ _ _ _ _ _ _ _ rfl rfl) ?_
      obtain ⟨v747, hl747, hrow747, hv747⟩ := at_load1 Ag22 Sz22 rfl rfl hb746
      obtain ⟨a747, n747, c747, rfl⟩ := rs_sl hv747
      refine pl_val (.slice a747 n747 c747) (y_load rfl (hl747 _ (Chg.refl _ _))) ?_
      refine pl_val (.slice a747 n747 c747) (y_assign rfl) ?_
      refine c_nil ?_
      refine c_seq (c_region ?_)
      refine pl_val (.slice a740 n740 c740) (y_move rfl) ?_
      refine pl_val (.int .i64 s640.2.1) (y_move rfl) ?_
      obtain ⟨x749, hx749, hs⟩ := bind_some hs
      obtain ⟨g750, f750, hg750, hk750, hp750, ha750, hf750⟩ := os_idx Sl41 Sz22 hv740 hx749
      have hb750 := own_row (Frz.os Frz.int) ha750 hf750
      refine pl_val (.pointer (some ⟨g750, 0 + Int.toNat s640.2.1 * 1, none⟩)) (hp750 _ _ _ _ _ _ _ _ _ rfl rfl) ?_
      obtain ⟨v751, hl751, hrow751, hv751⟩ := at_load1 Ag22 Sz22 rfl rfl hb750
      obtain ⟨a751, n751, c751, rfl⟩ := rs_sl hv751
      refine pl_val (.slice a751 n751 c751) (y_load rfl (hl751 _ (Chg.refl _ _))) ?_
      refine pl_val (.slice a747 n747 c747) (y_move rfl) ?_
      have hO := hO.fr2
      have hO := hO.fr1
      obtain ⟨r754, hr754, hs⟩ := bind_some hs
      refine pl_call Bd78 rfl (c_impl_join (M := (Less (Less M f740) f47)) x749 x737 (hv751.sub (M' := (Less (Less M f740) f47)) (fun g h => .inl (by simp only [Less] at h ⊢; simp [h]))) (hv747.sub (M' := (Less (Less M f740) f47)) (fun g h => .inl (by simp only [Less] at h ⊢; simp [h]))) (hO.less).less.fut hr754) ?_
      rintro _ w753 ⟨a753x0, n753x0, c753x0, f753x0, rfl, hC753, hv753x0, hOc753⟩
      have hv47 := hv47.ext hC753
      have hv742 := hv742.ext hC753
      have hv740 := hv740.ext hC753
      have hv747 := hv747.ext hC753
      have hrow747 := hrow747.chg hC753 (fun h => nomatch h)
      have hv751 := hv751.ext hC753
      have hrow751 := hrow751.chg hC753 (fun h => nomatch h)
      have hC := hC.ext hC753
      have hO := Own.join0 hO hC753 hOc753
      have hO := hO.perm (R := f753x0 ++ (f740 ++ (f47 ++ (f742 ++ ([]))))) (by simp)
      have hv753x0 := hv753x0.free (M' := M) (Free.os Free.int)
      refine pl_val (.slice a753x0 n753x0 c753x0) (y_assign rfl) ?_
      refine c_nil ?_
      refine c_seq ?_
      refine c_seq (c_region ?_)
      refine pl_val (.slice a753x0 n753x0 c753x0) (y_move rfl) ?_
      obtain ⟨r757, hr757, hs⟩ := bind_some hs
      refine pl_call Bd127 rfl (c_impl_keyOf (M := (Less M f753x0)) r754 (((Frz.os Frz.int)).val hv753x0 Less.sub Less.not) hO.less.fut hr757) ?_
      rintro _ w756 ⟨rfl, hC756⟩
      have hv47 := hv47.ext hC756
      have hv742 := hv742.ext hC756
      have hv740 := hv740.ext hC756
      have hv753x0 := hv753x0.ext hC756
      have hC := hC.ext hC756
      have hO := hO.ext hC756
      refine pl_val (.string r757) (y_assign rfl) ?_
      refine c_nil ?_
      refine c_seq (c_region ?_)
      refine pl_val (.map (some b86)) (y_move rfl) ?_
      refine pl_val (.string r757) (y_move rfl) ?_
      refine pl_val (.bool ((mget s734.2 r757).getD false)) (y_look (enc := Value.bool) Try.underlying105 Try.underlying9 Zv4 (mo_at hv742) rfl rfl) ?_
      refine pl_val (.bool (!((mget s734.2 r757).getD false))) (y_not rfl) ?_
      refine c_nil ?_
      obtain ⟨s770, hm772, hs⟩ := bind_some hs
      refine c_mid (I := fun a w771 => ∃ (σ : Nat → Value) (a773 : Option Addr) (n773 : Nat) (c773 : Nat) (f773 : List Nat) (f775 : List Nat), a = fr 85 (ovl σ [(4, (.slice a47 n47 c47)), (7, (.slice a773 n773 c773)), (8, (.map (some b86))), (9, (.int .i64 s640.2.1)), (54, (.slice a47 n47 c47)), (55, (.int .i64 (s39.length : Int))), (56, (.int .i64 (k736 : Int)))]) ∧ Chg [] w w771 ∧ Own (Nw w []) M w771 (f773 ++ (f47 ++ (f775 ++ []))) ∧ (RT.os 22 (RT.os 3 (RT.int .i64))).val M w771 (.slice a47 n47 c47) s39 f47 ∧ (RT.mo Value.bool).val M w771 (.map (some b86)) s770.2 f775 ∧ (RT.os 22 (RT.os 3 (RT.int .i64))).val M w771 (.slice a773 n773 c773) s770.1 f773) ?_ ?_
      ·replace hs := hm772
       rcases bif_some hs with ⟨hc776, hs⟩ | ⟨hc776, hs⟩
       ·skip
        refine c_condT (congrArg Value.bool hc776) ?_
        refine c_seq (c_region ?_)
        refine pl_val (.map (some b86)) (y_move rfl) ?_
        refine pl_val (.string r757) (y_move rfl) ?_
        have hO := hO.fr3
        obtain ⟨w777, hst777, hC777, hv777⟩ := mo_put (P := Try.prog) (t := 105) (key := r757) (x := true) Try.underlying105 Try.underlying9 hv742
        refine pl_skip (w' := w777) (ys_put rfl rfl rfl hst777) ?_
        have hv47 := hv47.mut hC777 (fun g hg => hO.inM g ((fun _ h => h) g hg)) (fun g hg e => hO.apart g ((fun _ h => h) g hg) (mem_r (mem_r (mem_l (e)))))
        have hv740 := hv740.mut hC777 (fun g hg => hO.inM g ((fun _ h => h) g hg)) (fun g hg e => hO.apart g ((fun _ h => h) g hg) (mem_r (mem_l (e))))
        have hv753x0 := hv753x0.mut hC777 (fun g hg => hO.inM g ((fun _ h => h) g hg)) (fun g hg e => hO.apart g ((fun _ h => h) g hg) (mem_l (e)))
        have hC := hC.step hC777 (fun g hg => hO.inN g ((fun _ h => h) g hg))
        have hO := hO.ext hC777
        refine c_nil ?_
        refine c_region ?_
        refine pl_val (.slice a740 n740 c740) (y_move rfl) ?_
        refine pl_val (.slice a753x0 n753x0 c753x0) (y_move rfl) ?_
        obtain ⟨w778, g778, ew778, eg778, hC778, hb778⟩ := new_block w777 [(.slice a753x0 n753x0 c753x0)] 22
        refine pl_val (w' := w778) (.slice (some ⟨g778, 0, none⟩) 1 1) (y_bslice rfl (by rw [ew778, eg778]; kernel_rfl)) ?_
        have hv47 := hv47.ext hC778
        have hv777 := hv777.ext hC778
        have hv740 := hv740.ext hC778
        have hv753x0 := hv753x0.ext hC778
        have hC := hC.ext hC778
        have hO := hO.fr1
        have hO := hO.new1 hC778 eg778 hb778.lt
        have hO := hO.perm (R := (g778 :: ((f753x0) ++ ([]))) ++ (f742 ++ (f740 ++ (f47 ++ ([]))))) (by simp)
        have hnd778 := hO.nd
        have hv778 := os_of_box (r := (RT.os 3 (RT.int .i64))) (M := M) (css := [[(.slice a753x0 n753x0 c753x0)]]) (fps := [(f753x0 : List Nat)]) (xs := ([r754] : List (List Int))) hb778 ⟨(os_unval hv753x0), trivial⟩ (Nat.le_of_ble_eq_true rfl) hnd778
        have hv778 : (RT.os 22 (RT.os 3 (RT.int .i64))).val M w778 (.slice (some ⟨g778, 0, none⟩) 1 1) [r754] (g778 :: ((f753x0) ++ ([]))) := hv778
        obtain ⟨y781, hy781, hs⟩ := bind_some hs
        have hO := hO.fr2
        obtain ⟨a780, n780, c780, w780, f780, hr780, hC780, hf780, hv780⟩ := app_os Rw41 hy781 hv740 hv778 hO.inM (fun g hg hq => hO.apart g hq (mem_l hg))
        have hG780 := os_block hv740
        refine pl_val (w' := w780) (.slice a780 n780 c780) (y_append rfl rfl (hr780 _)) ?_
        have hO := hO.fr1
        have hO := hO.fr1
        have hv47 := hv47.mut hC780 (fun g hg => hO.inM g (hG780 g hg)) (fun g hg e => hO.apart g (hG780 g hg) (mem_r (mem_r (mem_l (e)))))
        have hv777 := hv777.mut hC780 (fun g hg => hO.inM g (hG780 g hg)) (fun g hg e => hO.apart g (hG780 g hg) (mem_r (mem_l (e))))
        have hC := hC.step hC780 (fun g hg => hO.inN g (hG780 g hg))
        have hO := hO.eat hC780 hf780 (os_nodup hv780) hv780.fpl
        refine pl_val (.slice a780 n780 c780) (y_assign rfl) ?_
        refine c_nil ?_
        cases hs
        have hO := hO.fr1
        have hO := hO.fr2
        have hO := hO.fr2
        exact ⟨_, a780, n780, c780, f780, f742, fr_ovl 85 ⟨rfl, rfl, rfl, rfl, rfl, rfl, rfl, trivial⟩, hC, hO, hv47, hv777, hv780⟩
       ·skip
        refine c_condF (congrArg Value.bool hc776) ?_
        refine wp_skip ?_
        cases hs
        have hO := hO.drop
        have hO := hO.fr2
        have hO := hO.fr2
        have hO := hO.fr2
        exact ⟨_, a740, n740, c740, f740, f742, fr_ovl 85 ⟨rfl, rfl, rfl, rfl, rfl, rfl, rfl, trivial⟩, hC, hO, hv47, hv742, hv740⟩
      ·rintro a1 w771 ⟨σ, a773, n773, c773, f773, f775, rfl, hC, hO, hv47, hv775, hv773⟩
       refine c_seq (c_region ?_)
       refine pl_val (.slice a773 n773 c773) (y_move rfl) ?_
       refine pl_val (.int .i64 (s770.1.length : Int)) (y_len' Sl41 (os_len hv773) rfl) ?_
       refine pl_val (.bool (decide (200 < (s770.1.length : Int)))) (y_gtr rfl rfl) ?_
       refine c_nil ?_
       rcases bif_some hs with ⟨hc783, hs⟩ | ⟨hc783, hs⟩
       ·skip
        refine c_condT (congrArg Value.bool hc783) ?_
        refine c_seq (c_region ?_)
        refine pl_val (.slice none 0 0) (y_assign rfl) ?_
        refine pl_val (.bool false) (y_assign rfl) ?_
        refine c_nil ?_
        refine wp_ret ?_
        cases hs
        have hO := hO.drop
        have hO := hO.drop
        have hO := hO.drop
        have hO := hO.nil
        exact ⟨_, none, 0, 0, [], fr_ovl 85 ⟨rfl, rfl, trivial⟩, hC, os_nil, hO.top⟩
       ·skip
        refine c_condF (congrArg Value.bool hc783) ?_
        refine wp_skip ?_
        refine c_region ?_
        refine pl_val (.int .i64 (w64 ((k736 : Int) + 1))) (y_add rfl rfl) ?_
        refine pl_val (.int .i64 (w64 ((k736 : Int) + 1))) (y_move rfl) ?_
        refine c_nil ?_
        cases hs
        have hO := hO.fr1
        have hO := hO.fr2
        have hO := hO.fr2
        exact ⟨_, rfl, drop_cons_next hd, _, a773, n773, c773, f773, f775, fr_ovl 85 ⟨rfl, rfl, rfl, rfl, rfl, rfl, congrArg (Value.int .i64) (w64_succ hlt (Int.natCast_nonneg _) (os_max hv47)), trivial⟩, hC, hO, hv47, hv775, hv773⟩
     ·skip
      have hO := hO.fr2
      have hO := hO.fr2
      have hO := hO.fr2
      exact ⟨0, rfl, rfl, _, a646, n646, c646, f646, f648, fr_ovl 85 ⟨rfl, rfl, rfl, rfl, rfl, rfl, rfl, trivial⟩, hC, hO, hv47, hv648, hv646⟩
     ·cases o738 with
      | nx _ => exact True.intro
      | rt r_ =>
       have hs := after_rt hs
       intro a1 w1 hK
       cases hs
       exact hK
      | br s734 =>
       have hs := after_br hs
       rintro a1 w735 ⟨σ, a743, n743, c743, f743, f745, rfl, hC, hO, hv47, hv745, hv743⟩
       refine c_region ?_
       refine pl_val (.int .i64 s640.2.1) (y_move rfl) ?_
       refine pl_val (.int .i64 (w64 (s640.2.1 + 1))) (y_add rfl rfl) ?_
       refine pl_val (.int .i64 (w64 (s640.2.1 + 1))) (y_assign rfl) ?_
       refine c_nil ?_
       cases hs
       have hO := hO.fr2
       have hO := hO.fr2
       have hO := hO.fr2
       exact ⟨_, a743, n743, c743, f743, f745, fr_ovl 85 ⟨rfl, rfl, rfl, rfl, trivial⟩, hC, hO, hv47, hv745, hv743⟩
    ·skip
     refine c_condF (congrArg Value.bool hc652) ?_
     refine wp_exit ?_
     cases hs
     have hO := hO.fr2
     have hO := hO.fr2
     have hO := hO.fr2
     exact ⟨rfl, _, a646, n646, c646, f646, f648, fr_ovl 85 ⟨rfl, trivial⟩, hC, hO, hv47, hv648, hv646⟩
   ·skip
    have hO := hO.fr2
    have hO := hO.fr1
    have hO := hO.fr2
    exact ⟨_, (some ⟨g84, 0, none⟩), 1, 1, (g84 :: ((f81x0) ++ ([]))), [b86], fr_ovl 85 ⟨rfl, rfl, rfl, rfl, trivial⟩, hC, hO, hv47, hv94, hv84⟩
   ·cases o644 with
    | nx _ => exact True.intro
    | rt r_ =>
     have hs := after_rt hs
     intro a1 w1 hK
     cases hs
     exact hK
    | br s640 =>
     have hs := after_br hs
     rintro a1 w641 ⟨σ, a649, n649, c649, f649, f651, rfl, hC, hO, hv47, hv651, hv649⟩
     refine c_seq (c_region ?_)
     refine pl_val (.slice a649 n649 c649) (y_move rfl) ?_
     have hL784 := hO
     have hI784 := Own.lend (F := (f649 ++ ([]))) (R := f651 ++ (f47 ++ ([]))) (Own.perm (hL784) (by simp))
     obtain ⟨r785, hr785, hs⟩ := bind_some hs
     refine pl_call Bd128 rfl (c_impl_sortRows__impl_compareCongruences (M := M) s640.1 hv649 hI784 hI784.fut hr785) ?_
     rintro _ w784 ⟨fi784x0, rfl, hC784, hvi784x0, hOc784⟩
     have hO := hO.perm (R := (f649 ++ ([])) ++ (f651 ++ (f47 ++ ([])))) (by simp)
     have hv47 := hv47.mut hC784 (fun g hg => hO.inM g ((fun _ h => h) g hg)) (fun g hg e => hO.apart g ((fun _ h => h) g hg) (mem_r (mem_l (e))))
     have hv651 := hv651.mut hC784 (fun g hg => hO.inM g ((fun _ h => h) g hg)) (fun g hg e => hO.apart g ((fun _ h => h) g hg) (mem_l (e)))
     have hC := hC.step hC784 (fun g hg => hO.inN g ((fun _ h => h) g hg))
     have hO := Own.join hO hC784 hOc784
     have hO := hO.perm (R := fi784x0 ++ (f651 ++ (f47 ++ ([])))) (by simp)
     refine c_nil ?_
     refine c_seq (c_region ?_)
     refine pl_val (.slice a649 n649 c649) (y_move rfl) ?_
     refine pl_val (.slice a649 n649 c649) (y_assign rfl) ?_
     refine pl_val (.bool true) (y_assign rfl) ?_
     refine c_nil ?_
     refine wp_ret ?_
     cases hs
     have hO := hO.fr1
     have hO := hO.drop
     have hO := hO.fr1
     have hO := hO.drop
     exact ⟨_, a649, n649, c649, fi784x0, fr_ovl 85 ⟨rfl, rfl, trivial⟩, hC, hvi784x0, hO.top⟩

theorem Bd109 : Bodied Try.prog 109 := bodied Try.func109 (by kernel_rfl) rfl

theorem Bd110 : Bodied Try.prog 110 := bodied Try.func110 (by kernel_rfl) rfl

def k_impl_congruences (M : Nat → Prop) (w0 : World) (r : (List (List Int)) × Bool) (a : Act) (w : World) : Prop :=
  ∃ (σ : Nat → Value) (ra0 : Option Addr) (rn0 rc0 : Nat) (rf0 : List Nat), a = fr 11 (ovl σ [(2, (.slice ra0 rn0 rc0)), (3, (.bool r.2))]) ∧ Chg [] w0 w ∧ (RT.os 22 (RT.os 3 (RT.int .i64))).val M w (.slice ra0 rn0 rc0) r.1 rf0 ∧ Own (Nw w0 []) (fun _ => True) w (rf0 ++ ([]))
def s_impl_congruences (a_ : Int × (List (Int × (List Int)))) : Option ((List (List Int)) × Bool) :=
  (s_impl_IsAlgebra (a_.1, a_.2)).bind fun r4 =>
  (bif (!r4) then some ([], false) else (s_impl_allCongruences (a_.1, a_.2)).bind fun r7 =>
  some (r7.1, r7.2))
set_option maxHeartbeats 4000000 in
theorem c_impl_congruences {M : Nat → Prop} {w : World} {pa0 : Option Addr} {pn0 pc0 : Nat} (a_ : Int × (List (Int × (List Int)))) (h0 : (RT.rs (RT.pr (RT.int .i64) (RT.rs (RT.int .i64)))).val M w (.slice pa0 pn0 pc0) a_.2 ([])) (hM : ∀ g, w.heap.size ≤ g → M g) {r : (List (List Int)) × Bool} (hs : s_impl_congruences a_ = some r) :
    Gives Try.prog 84 [(.agg #[(.int .i64 a_.1), (.slice pa0 pn0 pc0)])] w (fun v w' => ∃ (ra0 : Option Addr) (rn0 rc0 : Nat) (rf0 : List Nat), v = (.tuple #[(.slice ra0 rn0 rc0), (.bool r.2)]) ∧ Chg [] w w' ∧ (RT.os 22 (RT.os 3 (RT.int .i64))).val M w' (.slice ra0 rn0 rc0) r.1 rf0 ∧ Own (Nw w []) (fun _ => True) w' (rf0 ++ ([]))) := by
 refine calls_fr Try.func84 rfl Try.ntmps84 (Nat.le_of_ble_eq_true rfl) ?_
 have hO := Own.start (N := Nw w []) hM Nw.fut
 have hC := Chg.refl [] w
 unfold s_impl_congruences at hs
 refine wp_mono (Q := KPost (k_impl_congruences M w r)) ?_ (fun e a w1 h => ?_)
 rotate_left
 ·cases e
  case ret =>
   obtain ⟨σ, ra0, rn0, rc0, rf0, rfl, hrest⟩ := h
   exact ret2x Try.results84 (res_tmp rfl) (res_tmp rfl) ⟨ra0, rn0, rc0, rf0, rfl, hrest⟩
  all_goals exact (h : False).elim
 refine c_seq (c_region ?_)
 obtain ⟨w2, g2, ew2, eg2, hC2, hb2⟩ := new_block w [(.int .i64 a_.1), (.slice pa0 pn0 pc0)] 35
 refine pl_val (w' := w2) (.pointer (some ⟨g2, 0, none⟩)) (y_box rfl (by rw [ew2, eg2]; kernel_rfl)) ?_
 have h0 := h0.ext hC2
 have hC := hC.ext hC2
 have hO := hO.new1 hC2 eg2 hb2.lt
 refine pl_val (.slice none 0 0) (y_assign rfl) ?_
 refine pl_val (.bool false) (y_assign rfl) ?_
 refine c_nil ?_
 refine c_seq ?_
 refine c_seq (c_region ?_)
 refine pl_val (.agg #[(.int .i64 a_.1), (.slice pa0 pn0 pc0)]) (y_load rfl ((box_load Ag35 Sz35 hb2 [] [(.int .i64 a_.1), (.slice pa0 pn0 pc0)] [] rfl rfl (fun h => nomatch h)) _ (Chg.refl _ _))) ?_
 obtain ⟨r4, hr4, hs⟩ := bind_some hs
 refine pl_call Bd109 rfl (c_impl_IsAlgebra (M := M) (a_.1, a_.2) h0 hO.fut hr4) ?_
 rintro _ w3 ⟨rfl, hC3⟩
 have h0 := h0.ext hC3
 have hb2 := hb2.chg hC3 (fun h => nomatch h)
 have hC := hC.ext hC3
 have hO := hO.ext hC3
 refine pl_val (.bool (!r4)) (y_not rfl) ?_
 refine c_nil ?_
 rcases bif_some hs with ⟨hc5, hs⟩ | ⟨hc5, hs⟩
 ·skip
  refine c_condT (congrArg Value.bool hc5) ?_
  refine c_seq (c_region ?_)
  refine pl_val (.slice none 0 0) (y_assign rfl) ?_
  refine pl_val (.bool false) (y_assign rfl) ?_
  refine c_nil ?_
  refine wp_ret ?_
  cases hs
  have hO := hO.drop
  have hO := hO.nil
  exact ⟨_, none, 0, 0, [], fr_ovl 11 ⟨rfl, rfl, trivial⟩, hC, os_nil, hO.top⟩
 ·skip
  refine c_condF (congrArg Value.bool hc5) ?_
  refine wp_skip ?_
  refine c_seq (c_region ?_)
  refine pl_val (.agg #[(.int .i64 a_.1), (.slice pa0 pn0 pc0)]) (y_load rfl ((box_load Ag35 Sz35 hb2 [] [(.int .i64 a_.1), (.slice pa0 pn0 pc0)] [] rfl rfl (fun h => nomatch h)) _ (Chg.refl _ _))) ?_
  obtain ⟨r7, hr7, hs⟩ := bind_some hs
  refine pl_call Bd110 rfl (c_impl_allCongruences (M := M) (a_.1, a_.2) h0 hO.fut hr7) ?_
  rintro _ w6 ⟨a6x0, n6x0, c6x0, f6x0, rfl, hC6, hv6x0, hOc6⟩
  have h0 := h0.ext hC6
  have hb2 := hb2.chg hC6 (fun h => nomatch h)
  have hC := hC.ext hC6
  have hO := Own.join0 hO hC6 hOc6
  have hO := hO.perm (R := f6x0 ++ (([g2]) ++ ([]))) (by simp)
  refine pl_val (.slice a6x0 n6x0 c6x0) (y_extract rfl (by kernel_rfl)) ?_
  refine pl_val (.bool r7.2) (y_extract rfl (by kernel_rfl)) ?_
  refine pl_val (.slice a6x0 n6x0 c6x0) (y_assign rfl) ?_
  refine pl_val (.bool r7.2) (y_assign rfl) ?_
  refine c_nil ?_
  refine wp_ret ?_
  cases hs
  have hO := hO.fr1
  have hO := hO.drop
  exact ⟨_, a6x0, n6x0, c6x0, f6x0, fr_ovl 11 ⟨rfl, rfl, trivial⟩, hC, hv6x0, hO.top⟩

theorem Bd84 : Bodied Try.prog 84 := bodied Try.func84 (by kernel_rfl) rfl

def k_impl_fewCongruences (M : Nat → Prop) (w0 : World) (r : (List (List Int)) × Bool) (a : Act) (w : World) : Prop :=
  ∃ (σ : Nat → Value) (ra0 : Option Addr) (rn0 rc0 : Nat) (rf0 : List Nat), a = fr 19 (ovl σ [(2, (.slice ra0 rn0 rc0)), (3, (.bool r.2))]) ∧ Chg [] w0 w ∧ (RT.os 22 (RT.os 3 (RT.int .i64))).val M w (.slice ra0 rn0 rc0) r.1 rf0 ∧ Own (Nw w0 []) (fun _ => True) w (rf0 ++ ([]))
def s_impl_fewCongruences (a_ : Int × (List (Int × (List Int)))) : Option ((List (List Int)) × Bool) :=
  (s_impl_congruences (a_.1, a_.2)).bind fun r4 =>
  (bif ((!r4.2) || (decide (60 < (r4.1.length : Int)))) then some ([], false) else some (r4.1, true))
set_option maxHeartbeats 4000000 in
theorem c_impl_fewCongruences {M : Nat → Prop} {w : World} {pa0 : Option Addr} {pn0 pc0 : Nat} (a_ : Int × (List (Int × (List Int)))) (h0 : (RT.rs (RT.pr (RT.int .i64) (RT.rs (RT.int .i64)))).val M w (.slice pa0 pn0 pc0) a_.2 ([])) (hM : ∀ g, w.heap.size ≤ g → M g) {r : (List (List Int)) × Bool} (hs : s_impl_fewCongruences a_ = some r) :
    Gives Try.prog 53 [(.agg #[(.int .i64 a_.1), (.slice pa0 pn0 pc0)])] w (fun v w' => ∃ (ra0 : Option Addr) (rn0 rc0 : Nat) (rf0 : List Nat), v = (.tuple #[(.slice ra0 rn0 rc0), (.bool r.2)]) ∧ Chg [] w w' ∧ (RT.os 22 (RT.os 3 (RT.int .i64))).val M w' (.slice ra0 rn0 rc0) r.1 rf0 ∧ Own (Nw w []) (fun _ => True) w' (rf0 ++ ([]))) := by
 refine calls_fr Try.func53 rfl Try.ntmps53 (Nat.le_of_ble_eq_true rfl) ?_
 have hO := Own.start (N := Nw w []) hM Nw.fut
 have hC := Chg.refl [] w
 unfold s_impl_fewCongruences at hs
 refine wp_mono (Q := KPost (k_impl_fewCongruences M w r)) ?_ (fun e a w1 h => ?_)
 rotate_left
 ·cases e
  case ret =>
   obtain ⟨σ, ra0, rn0, rc0, rf0, rfl, hrest⟩ := h
   exact ret2x Try.results53 (res_tmp rfl) (res_tmp rfl) ⟨ra0, rn0, rc0, rf0, rfl, hrest⟩
  all_goals exact (h : False).elim
 refine c_seq (c_region ?_)
 obtain ⟨w2, g2, ew2, eg2, hC2, hb2⟩ := new_block w [(.int .i64 a_.1), (.slice pa0 pn0 pc0)] 35
 refine pl_val (w' := w2) (.pointer (some ⟨g2, 0, none⟩)) (y_box rfl (by rw [ew2, eg2]; kernel_rfl)) ?_
 have h0 := h0.ext hC2
 have hC := hC.ext hC2
 have hO := hO.new1 hC2 eg2 hb2.lt
 refine pl_val (.slice none 0 0) (y_assign rfl) ?_
 refine pl_val (.bool false) (y_assign rfl) ?_
 refine c_nil ?_
 refine c_seq (c_region ?_)
 refine pl_val (.agg #[(.int .i64 a_.1), (.slice pa0 pn0 pc0)]) (y_load rfl ((box_load Ag35 Sz35 hb2 [] [(.int .i64 a_.1), (.slice pa0 pn0 pc0)] [] rfl rfl (fun h => nomatch h)) _ (Chg.refl _ _))) ?_
 obtain ⟨r4, hr4, hs⟩ := bind_some hs
 refine pl_call Bd84 rfl (c_impl_congruences (M := M) (a_.1, a_.2) h0 hO.fut hr4) ?_
 rintro _ w3 ⟨a3x0, n3x0, c3x0, f3x0, rfl, hC3, hv3x0, hOc3⟩
 have h0 := h0.ext hC3
 have hb2 := hb2.chg hC3 (fun h => nomatch h)
 have hC := hC.ext hC3
 have hO := Own.join0 hO hC3 hOc3
 have hO := hO.perm (R := f3x0 ++ (([g2]) ++ ([]))) (by simp)
 refine pl_val (.tuple #[(.slice a3x0 n3x0 c3x0), (.bool r4.2)]) (y_move rfl) ?_
 refine pl_val (.slice a3x0 n3x0 c3x0) (y_extract rfl (by kernel_rfl)) ?_
 refine pl_val (.bool r4.2) (y_extract rfl (by kernel_rfl)) ?_
 refine pl_val (.slice a3x0 n3x0 c3x0) (y_assign rfl) ?_
 refine pl_val (.bool r4.2) (y_assign rfl) ?_
 refine c_nil ?_
 refine c_seq ?_
 refine c_seq ?_
 refine c_mid (I := fun a w7 => ∃ (σ : Nat → Value), a = fr 19 (ovl σ [(2, (.slice none 0 0)), (3, (.bool false)), (4, (.slice a3x0 n3x0 c3x0)), (17, (.bool ((!r4.2) || (decide (60 < (r4.1.length : Int))))))]) ∧ Chg [] w3 w7) ?_ ?_
 ·have hMid := Chg.refl [] w3
  refine c_region ?_
  refine pl_val (.bool r4.2) (y_move rfl) ?_
  refine pl_val (.bool (!r4.2)) (y_not rfl) ?_
  refine pl_val (.bool (!r4.2)) (y_move rfl) ?_
  rcases Bool.eq_false_or_eq_true ((!r4.2)) with hc9 | hc9
  ·skip
   refine pl_not (tg := 13) (by kernel_rfl) (congrArg Value.bool hc9) ?_
   refine pl_not (tg := 13) (by kernel_rfl) (congrArg Value.bool hc9) ?_
   refine pl_not (tg := 13) (by kernel_rfl) (congrArg Value.bool hc9) ?_
   refine pl_val (.bool ((!r4.2) || (decide (60 < (r4.1.length : Int))))) (y_pick_t (congrArg Value.bool hc9) (congrArg Value.bool (by rw [hc9]; rfl))) ?_
   refine c_nil ?_
   exact ⟨_, fr_ovl 19 ⟨rfl, rfl, rfl, rfl, trivial⟩, hMid⟩
  ·skip
   refine pl_yes (.slice a3x0 n3x0 c3x0) (tg := 13) (by kernel_rfl) (congrArg Value.bool hc9) (y_move rfl) ?_
   refine pl_yes (.int .i64 (r4.1.length : Int)) (tg := 13) (by kernel_rfl) (congrArg Value.bool hc9) (y_len' Sl41 (os_len hv3x0) rfl) ?_
   refine pl_yes (.bool (decide (60 < (r4.1.length : Int)))) (tg := 13) (by kernel_rfl) (congrArg Value.bool hc9) (y_gtr rfl rfl) ?_
   refine pl_val (.bool ((!r4.2) || (decide (60 < (r4.1.length : Int))))) (y_pick_f (congrArg Value.bool hc9) (congrArg Value.bool (by rw [hc9]; rfl))) ?_
   refine c_nil ?_
   exact ⟨_, fr_ovl 19 ⟨rfl, rfl, rfl, rfl, trivial⟩, hMid⟩
 ·rintro a1 w7 ⟨σ, rfl, hCs6⟩
  have hb2 := hb2.chg hCs6 (fun h => nomatch h)
  have hv3x0 := hv3x0.ext hCs6
  have hC := hC.ext hCs6
  have hO := hO.ext hCs6
  rcases bif_some hs with ⟨hc10, hs⟩ | ⟨hc10, hs⟩
  ·skip
   refine c_condT (congrArg Value.bool hc10) ?_
   refine c_seq (c_region ?_)
   refine pl_val (.slice none 0 0) (y_assign rfl) ?_
   refine pl_val (.bool false) (y_assign rfl) ?_
   refine c_nil ?_
   refine wp_ret ?_
   cases hs
   have hO := hO.drop
   have hO := hO.drop
   have hO := hO.nil
   exact ⟨_, none, 0, 0, [], fr_ovl 19 ⟨rfl, rfl, trivial⟩, hC, os_nil, hO.top⟩
  ·skip
   refine c_condF (congrArg Value.bool hc10) ?_
   refine wp_skip ?_
   refine c_seq (c_region ?_)
   refine pl_val (.slice a3x0 n3x0 c3x0) (y_move rfl) ?_
   refine pl_val (.slice a3x0 n3x0 c3x0) (y_assign rfl) ?_
   refine pl_val (.bool true) (y_assign rfl) ?_
   refine c_nil ?_
   refine wp_ret ?_
   cases hs
   have hO := hO.fr1
   have hO := hO.drop
   exact ⟨_, a3x0, n3x0, c3x0, f3x0, fr_ovl 19 ⟨rfl, rfl, trivial⟩, hC, hv3x0, hO.top⟩

def k_impl_isPartition (M : Nat → Prop) (w0 : World) (r : Bool) (a : Act) (w : World) : Prop :=
  ∃ (σ : Nat → Value) , a = fr 34 (ovl σ [(4, (.bool r))]) ∧ Chg [] w0 w
def s_impl_isPartition (n : Int) (p : List Int) : Option (Bool) :=
  (bif ((p.length : Int) != n) then some false else (forC (S := Unit) (R := Bool) (fun k12 s10 =>
  (idx p k12).bind fun x16 =>
  (bif (decide (x16 < 0)) then some (.rt false) else (bif (decide (k12 < x16)) then some (.rt false) else (idx p x16).bind fun x20 =>
  (bif (x20 != x16) then some (.rt false) else some (.nx ()))))) 0 (p.length : Int) ()).bind fun o14 => after o14 (fun r_ => some r_) (fun s10 =>
  some true))
set_option maxHeartbeats 4000000 in
theorem c_impl_isPartition {M : Nat → Prop} {w : World} {pa0 : Option Addr} {pn0 pc0 : Nat} (n : Int) (p : List Int) (h0 : (RT.rs (RT.int .i64)).val M w (.slice pa0 pn0 pc0) p ([])) (hM : ∀ g, w.heap.size ≤ g → M g) {r : Bool} (hs : s_impl_isPartition n p = some r) :
    Gives Try.prog 76 [(.int .i64 n), (.slice pa0 pn0 pc0)] w (fun v w' => v = (.bool r) ∧ Chg [] w w') := by
 refine calls_fr Try.func76 rfl Try.ntmps76 (Nat.le_of_ble_eq_true rfl) ?_
 have hO := Own.start (N := Nw w []) hM Nw.fut
 have hC := Chg.refl [] w
 unfold s_impl_isPartition at hs
 refine wp_mono (Q := KPost (k_impl_isPartition M w r)) ?_ (fun e a w1 h => ?_)
 rotate_left
 ·cases e
  case ret =>
   obtain ⟨σ, rfl, hrest⟩ := h
   exact ret1x Try.results76 (res_tmp rfl) ⟨rfl, hrest⟩
  all_goals exact (h : False).elim
 refine c_seq (c_region ?_)
 refine pl_val (.bool false) (y_assign rfl) ?_
 refine c_nil ?_
 refine c_seq ?_
 refine c_seq (c_region ?_)
 refine pl_val (.slice pa0 pn0 pc0) (y_move rfl) ?_
 refine pl_val (.int .i64 (p.length : Int)) (y_len' Sl22 (rs_len h0) rfl) ?_
 refine pl_val (.int .i64 n) (y_move rfl) ?_
 refine pl_val (.bool ((p.length : Int) != n)) (y_neq rfl rfl) ?_
 refine c_nil ?_
 rcases bif_some hs with ⟨hc2, hs⟩ | ⟨hc2, hs⟩
 ·skip
  refine c_condT (congrArg Value.bool hc2) ?_
  refine c_seq (c_region ?_)
  refine pl_val (.bool false) (y_assign rfl) ?_
  refine c_nil ?_
  refine wp_ret ?_
  cases hs
  exact ⟨_, fr_ovl 34 ⟨rfl, trivial⟩, hC⟩
 ·skip
  refine c_condF (congrArg Value.bool hc2) ?_
  refine wp_skip ?_
  refine c_seq ?_
  refine c_seq (c_region ?_)
  refine pl_val (.slice pa0 pn0 pc0) (y_move rfl) ?_
  refine pl_val (.int .i64 (p.length : Int)) (y_len' Sl22 (rs_len h0) rfl) ?_
  refine pl_val (.int .i64 0) (y_move rfl) ?_
  refine c_nil ?_
  obtain ⟨o14, hl15, hs⟩ := bind_some hs
  refine wp_block ?_
  refine wp_forC (id := 0) (p.length : Int) (I := fun k12 s10 a w11 => ∃ (σ : Nat → Value), a = fr 34 (ovl σ [(1, (.slice pa0 pn0 pc0)), (11, (.slice pa0 pn0 pc0)), (12, (.int .i64 (p.length : Int))), (13, (.int .i64 k12))]) ∧ Chg [] w w11 ∧ Own (Nw w []) M w11 ([]) ∧ (RT.rs (RT.int .i64)).val M w11 (.slice pa0 pn0 pc0) p ([])) (J := fun s10 a w11 => ∃ (σ : Nat → Value), a = fr 34 (ovl σ []) ∧ Chg [] w w11 ∧ Own (Nw w []) M w11 ([]) ∧ (RT.rs (RT.int .i64)).val M w11 (.slice pa0 pn0 pc0) p ([])) (K := (k_impl_isPartition M w)) ?_ ?_ 0 () o14 _ _ ?_ hl15 ?_
  ·rintro k12 s10 a w11 ⟨σ, rfl, hC, hO, h0⟩ hlt
   refine c_seq (c_region ?_)
   refine pl_val (.bool (decide (k12 < (p.length : Int)))) (y_lss rfl rfl) ?_
   refine c_nil ?_
   refine c_seq ?_
   refine c_condF (congrArg Value.bool (decide_eq_false hlt)) ?_
   refine wp_exit ?_
   exact ⟨rfl, _, fr_ovl 34 trivial, hC, hO, h0⟩
  ·rintro k12 s10 o14 a w11 ⟨σ, rfl, hC, hO, h0⟩ hlt hw hs
   refine c_seq (c_region ?_)
   refine pl_val (.bool (decide (k12 < (p.length : Int)))) (y_lss rfl rfl) ?_
   refine c_nil ?_
   refine c_seq ?_
   refine c_condT (congrArg Value.bool (decide_eq_true hlt)) ?_
   refine wp_skip ?_
   refine c_seq ?_
   refine wp_block ?_
   refine c_seq (c_region ?_)
   refine pl_val (.int .i64 k12) (y_move rfl) ?_
   obtain ⟨x16, hx16, hs⟩ := bind_some hs
   obtain ⟨b17, o17, hp17, ha17⟩ := rs_idx Sl22 Sz3 h0 hx16
   refine pl_val (.pointer (some ⟨b17, o17, none⟩)) (hp17 _ _ _ _ _ _ _ _ _ rfl rfl) ?_
   refine pl_val (.int .i64 x16) (y_load rfl ((at_load_int Ag3 Sz3 ha17) _ (Chg.refl _ _))) ?_
   refine pl_val (.int .i64 k12) (y_assign rfl) ?_
   refine pl_val (.int .i64 x16) (y_assign rfl) ?_
   refine c_nil ?_
   refine c_seq (c_region ?_)
   refine pl_val (.int .i64 x16) (y_move rfl) ?_
   refine pl_val (.bool (decide (x16 < 0))) (y_lss rfl rfl) ?_
   refine pl_val (.bool (decide (x16 < 0))) (y_move rfl) ?_
   rcases bif_some hs with ⟨hc18, hs⟩ | ⟨hc18, hs⟩
   ·skip
    refine pl_not (tg := 20) (by kernel_rfl) (congrArg Value.bool hc18) ?_
    refine pl_not (tg := 20) (by kernel_rfl) (congrArg Value.bool hc18) ?_
    refine pl_not (tg := 20) (by kernel_rfl) (congrArg Value.bool hc18) ?_
    refine pl_val (.bool true) (y_pick_t (congrArg Value.bool hc18) rfl) ?_
    refine pl_val (.bool true) (y_move rfl) ?_
    refine pl_not (tg := 25) (by kernel_rfl) (by rfl) ?_
    refine pl_not (tg := 25) (by kernel_rfl) (by rfl) ?_
    refine pl_not (tg := 25) (by kernel_rfl) (by rfl) ?_
    refine pl_not (tg := 25) (by kernel_rfl) (by rfl) ?_
    refine pl_not (tg := 25) (by kernel_rfl) (by rfl) ?_
    refine pl_not (tg := 25) (by kernel_rfl) (by rfl) ?_
    refine pl_val (.bool true) (y_pick_t (by rfl) rfl) ?_
    refine c_nil ?_
    refine c_condT (by rfl) ?_
    refine c_seq (c_region ?_)
    refine pl_val (.bool false) (y_assign rfl) ?_
    refine c_nil ?_
    refine wp_ret ?_
    cases hs
    exact ⟨_, fr_ovl 34 ⟨rfl, trivial⟩, hC⟩
   ·skip
    refine pl_yes (.int .i64 x16) (tg := 20) (by kernel_rfl) (congrArg Value.bool hc18) (y_move rfl) ?_
    refine pl_yes (.int .i64 k12) (tg := 20) (by kernel_rfl) (congrArg Value.bool hc18) (y_move rfl) ?_
    refine pl_yes (.bool (decide (k12 < x16))) (tg := 20) (by kernel_rfl) (congrArg Value.bool hc18) (y_gtr rfl rfl) ?_
    refine pl_val (.bool (decide (k12 < x16))) (y_pick_f (congrArg Value.bool hc18) rfl) ?_
    refine pl_val (.bool (decide (k12 < x16))) (y_move rfl) ?_
    rcases bif_some hs with ⟨hc19, hs⟩ | ⟨hc19, hs⟩
    ·skip
     refine pl_not (tg := 25) (by kernel_rfl) (congrArg Value.bool hc19) ?_
     refine pl_not (tg := 25) (by kernel_rfl) (congrArg Value.bool hc19) ?_
     refine pl_not (tg := 25) (by kernel_rfl) (congrArg Value.bool hc19) ?_
     refine pl_not (tg := 25) (by kernel_rfl) (congrArg Value.bool hc19) ?_
     refine pl_not (tg := 25) (by kernel_rfl) (congrArg Value.bool hc19) ?_
     refine pl_not (tg := 25) (by kernel_rfl) (congrArg Value.bool hc19) ?_
     refine pl_val (.bool true) (y_pick_t (congrArg Value.bool hc19) rfl) ?_
     refine c_nil ?_
     refine c_condT (by rfl) ?_
     refine c_seq (c_region ?_)
     refine pl_val (.bool false) (y_assign rfl) ?_
     refine c_nil ?_
     refine wp_ret ?_
     cases hs
     exact ⟨_, fr_ovl 34 ⟨rfl, trivial⟩, hC⟩
    ·skip
     refine pl_yes (.slice pa0 pn0 pc0) (tg := 25) (by kernel_rfl) (congrArg Value.bool hc19) (y_move rfl) ?_
     refine pl_yes (.int .i64 x16) (tg := 25) (by kernel_rfl) (congrArg Value.bool hc19) (y_move rfl) ?_
     obtain ⟨x20, hx20, hs⟩ := bind_some hs
     obtain ⟨b21, o21, hp21, ha21⟩ := rs_idx Sl22 Sz3 h0 hx20
     refine pl_yes (.pointer (some ⟨b21, o21, none⟩)) (tg := 25) (by kernel_rfl) (congrArg Value.bool hc19) (hp21 _ _ _ _ _ _ _ _ _ rfl rfl) ?_
     refine pl_yes (.int .i64 x20) (tg := 25) (by kernel_rfl) (congrArg Value.bool hc19) (y_load rfl ((at_load_int Ag3 Sz3 ha21) _ (Chg.refl _ _))) ?_
     refine pl_yes (.int .i64 x16) (tg := 25) (by kernel_rfl) (congrArg Value.bool hc19) (y_move rfl) ?_
     refine pl_yes (.bool (x20 != x16)) (tg := 25) (by kernel_rfl) (congrArg Value.bool hc19) (y_neq rfl rfl) ?_
     refine pl_val (.bool (x20 != x16)) (y_pick_f (congrArg Value.bool hc19) rfl) ?_
     refine c_nil ?_
     rcases bif_some hs with ⟨hc22, hs⟩ | ⟨hc22, hs⟩
     ·skip
      refine c_condT (congrArg Value.bool hc22) ?_
      refine c_seq (c_region ?_)
      refine pl_val (.bool false) (y_assign rfl) ?_
      refine c_nil ?_
      refine wp_ret ?_
      cases hs
      exact ⟨_, fr_ovl 34 ⟨rfl, trivial⟩, hC⟩
     ·skip
      refine c_condF (congrArg Value.bool hc22) ?_
      refine wp_skip ?_
      refine c_region ?_
      refine pl_val (.int .i64 (w64 (k12 + 1))) (y_add rfl rfl) ?_
      refine pl_val (.int .i64 (w64 (k12 + 1))) (y_move rfl) ?_
      refine c_nil ?_
      cases hs
      exact ⟨_, fr_ovl 34 ⟨rfl, rfl, rfl, congrArg (Value.int .i64) hw, trivial⟩, hC, hO, h0⟩
  ·skip
   exact ⟨_, fr_ovl 34 ⟨rfl, rfl, rfl, rfl, trivial⟩, hC, hO, h0⟩
  ·cases o14 with
   | nx _ => exact True.intro
   | rt r_ =>
    have hs := after_rt hs
    intro a1 w1 hK
    cases hs
    exact hK
   | br s10 =>
    have hs := after_br hs
    rintro a1 w11 ⟨σ, rfl, hC, hO, h0⟩
    refine c_seq (c_region ?_)
    refine pl_val (.bool true) (y_assign rfl) ?_
    refine c_nil ?_
    refine wp_ret ?_
    cases hs
    exact ⟨_, fr_ovl 34 ⟨rfl, trivial⟩, hC⟩

theorem Bd76 : Bodied Try.prog 76 := bodied Try.func76 (by kernel_rfl) rfl

def k_impl_isCongruence (M : Nat → Prop) (w0 : World) (r : Bool) (a : Act) (w : World) : Prop :=
  ∃ (σ : Nat → Value) , a = fr 16 (ovl σ [(4, (.bool r))]) ∧ Chg [] w0 w
def s_impl_isCongruence (a_ : Int × (List (Int × (List Int)))) (p : List Int) : Option (Bool) :=
  (s_impl_isPartition a_.1 p).bind fun r6 =>
  (bif r6 then (s_impl_clone p).bind fun r9 =>
  (s_impl_closePartition (a_.1, a_.2) r9).bind fun r12 =>
  some (!r12.1) else some false)
set_option maxHeartbeats 4000000 in
theorem c_impl_isCongruence {M : Nat → Prop} {w : World} {pa0 : Option Addr} {pn0 pc0 : Nat} {pa1 : Option Addr} {pn1 pc1 : Nat} (a_ : Int × (List (Int × (List Int)))) (p : List Int) (h0 : (RT.rs (RT.pr (RT.int .i64) (RT.rs (RT.int .i64)))).val M w (.slice pa0 pn0 pc0) a_.2 ([])) (h1 : (RT.rs (RT.int .i64)).val M w (.slice pa1 pn1 pc1) p ([])) (hM : ∀ g, w.heap.size ≤ g → M g) {r : Bool} (hs : s_impl_isCongruence a_ p = some r) :
    Gives Try.prog 65 [(.agg #[(.int .i64 a_.1), (.slice pa0 pn0 pc0)]), (.slice pa1 pn1 pc1)] w (fun v w' => v = (.bool r) ∧ Chg [] w w') := by
 refine calls_fr Try.func65 rfl Try.ntmps65 (Nat.le_of_ble_eq_true rfl) ?_
 have hO := Own.start (N := Nw w []) hM Nw.fut
 have hC := Chg.refl [] w
 unfold s_impl_isCongruence at hs
 refine wp_mono (Q := KPost (k_impl_isCongruence M w r)) ?_ (fun e a w1 h => ?_)
 rotate_left
 ·cases e
  case ret =>
   obtain ⟨σ, rfl, hrest⟩ := h
   exact ret1x Try.results65 (res_tmp rfl) ⟨rfl, hrest⟩
  all_goals exact (h : False).elim
 refine c_seq (c_region ?_)
 obtain ⟨w3, g3, ew3, eg3, hC3, hb3⟩ := new_block w [(.int .i64 a_.1), (.slice pa0 pn0 pc0)] 35
 refine pl_val (w' := w3) (.pointer (some ⟨g3, 0, none⟩)) (y_box rfl (by rw [ew3, eg3]; kernel_rfl)) ?_
 have h0 := h0.ext hC3
 have h1 := h1.ext hC3
 have hC := hC.ext hC3
 have hO := hO.new1 hC3 eg3 hb3.lt
 refine pl_val (.bool false) (y_assign rfl) ?_
 refine c_nil ?_
 refine c_seq ?_
 refine x_start [8] Mx rfl ?_
 have hCw4 := Chg.drew w3
 generalize World.drew w3 = w4 at hCw4 ⊢
 have h0 := h0.ext hCw4
 have h1 := h1.ext hCw4
 have hb3 := hb3.chg hCw4 (fun h => nomatch h)
 have hC := hC.ext hCw4
 have hO := hO.ext hCw4
 have hS := Chg.refl [] w4
 refine x_p 0 (.pointer (some ⟨g3, 0, none⟩)) rfl (by kernel_rfl)  (fun _ => y_faddr rfl Fa35x0) (fun _ => hS) ?_
 refine x_l 1 (.int .i64 a_.1) rfl (by kernel_rfl)  (fun w' hw' => y_load rfl ((box_load Ag3 Sz3 hb3 [] [(.int .i64 a_.1)] [(.slice pa0 pn0 pc0)] rfl rfl (fun _ => rfl)) w' hw')) hS ?_
 refine x_p 2 (.slice pa1 pn1 pc1) rfl (by kernel_rfl)  (fun _ => y_move rfl) (fun _ => hS) ?_
 refine x_one (i := 3) (by kernel_rfl) ?_
 obtain ⟨r6, hr6, hs⟩ := bind_some hs
 refine xk_call (b := false) rfl  Bd76 rfl (c_impl_isPartition (M := M) a_.1 p h1 hO.fut hr6) rfl (by rintro _ _ _ ⟨rfl, hC5⟩; exact hS.ext hC5) ?_
 rintro _ w5 ⟨rfl, hC5⟩
 have h0 := h0.ext hC5
 have h1 := h1.ext hC5
 have hb3 := hb3.chg hC5 (fun h => nomatch h)
 have hC := hC.ext hC5
 have hO := hO.ext hC5
 have hS := hS.ext hC5
 refine x_p 4 (.bool r6) rfl (by kernel_rfl)  (fun _ => y_move rfl) (fun _ => hS) ?_
 rcases bif_some hs with ⟨hc7, hs⟩ | ⟨hc7, hs⟩
 ·skip
  refine x_py 6 (.slice pa1 pn1 pc1) rfl (by kernel_rfl) (tg := 9) (by kernel_rfl) (congrArg Value.bool hc7) (fun _ => y_move rfl) (fun _ => hS) ?_
  refine x_two (i := 5) (j := 7) (by kernel_rfl) ?_ ?_
  ·skip
   refine xk_valy (b := false) (.agg #[(.int .i64 a_.1), (.slice pa0 pn0 pc0)]) rfl (tg := 9) (by kernel_rfl) (congrArg Value.bool hc7) (y_load rfl ((box_load Ag35 Sz35 hb3 [] [(.int .i64 a_.1), (.slice pa0 pn0 pc0)] [] rfl rfl (fun h => nomatch h)) _ (Chg.refl _ _))) rfl (fun _ => hS) ?_
   refine x_one (i := 7) (by kernel_rfl) ?_
   obtain ⟨r9, hr9, hs⟩ := bind_some hs
   refine xk_cally (b := false) rfl (tg := 9) (by kernel_rfl) (congrArg Value.bool hc7) Bd98 rfl (c_impl_clone (M := M) p h1 hO.fut hr9) rfl (by rintro _ _ _ ⟨a8x0, n8x0, c8x0, f8x0, rfl, hC8, hv8x0, hOc8⟩; exact hS.ext hC8) ?_
   rintro _ w8 ⟨a8x0, n8x0, c8x0, f8x0, rfl, hC8, hv8x0, hOc8⟩
   have h0 := h0.ext hC8
   have h1 := h1.ext hC8
   have hb3 := hb3.chg hC8 (fun h => nomatch h)
   have hC := hC.ext hC8
   have hO := Own.join0 hO hC8 hOc8
   have hO := hO.perm (R := f8x0 ++ (([g3]) ++ ([]))) (by simp)
   have hS := hS.ext hC8
   refine x_one (i := 8) (by kernel_rfl) ?_
   have hL11 := hO
   have hI11 := Own.lend (F := (f8x0 ++ ([]))) (R := ([g3]) ++ ([])) (Own.perm (hL11) (by simp))
   obtain ⟨r12, hr12, hs⟩ := bind_some hs
   refine xk_cally (b := true) rfl (tg := 9) (by kernel_rfl) (congrArg Value.bool hc7) Bd97 rfl (c_impl_closePartition (M := M) (a_.1, a_.2) r9 h0 hv8x0 hI11 hI11.fut hr12) rfl (fun h => nomatch h) ?_
   rintro _ w11 ⟨fi11x0, rfl, hC11, hvi11x0, hOc11⟩
   have hO := hO.perm (R := (f8x0 ++ ([])) ++ (([g3]) ++ ([]))) (by simp)
   have h0 := h0.mut hC11 (fun g hg => hO.inM g ((fun _ h => h) g hg)) (fun _ _ h => nomatch h)
   have h1 := h1.mut hC11 (fun g hg => hO.inM g ((fun _ h => h) g hg)) (fun _ _ h => nomatch h)
   have hb3 := hb3.chg hC11 (fun hg => hO.apart _ ((fun _ h => h) _ hg) (mem_l (List.mem_singleton.2 rfl)))
   have hC := hC.step hC11 (fun g hg => hO.inN g ((fun _ h => h) g hg))
   have hO := Own.join hO hC11 hOc11
   have hO := hO.perm (R := fi11x0 ++ (([g3]) ++ ([]))) (by simp)
   refine x_py 9 (.bool (!r12.1)) rfl (by kernel_rfl) (tg := 9) (by kernel_rfl) (congrArg Value.bool hc7) (fun _ => y_not rfl) (fun h => nomatch h) ?_
   refine x_p 10 (.bool (!r12.1)) rfl (by kernel_rfl)  (fun _ => y_pick_t (congrArg Value.bool hc7) rfl) (fun h => nomatch h) ?_
   refine x_p 11 (.bool (!r12.1)) rfl (by kernel_rfl)  (fun _ => y_assign rfl) (fun h => nomatch h) ?_
   refine x_end (by kernel_rfl) ?_
   clear hS
   refine wp_ret ?_
   cases hs
   exact ⟨_, fr_ovl 16 ⟨rfl, trivial⟩, hC⟩
  ·skip
   obtain ⟨r9, hr9, hs⟩ := bind_some hs
   refine xk_cally (b := false) rfl (tg := 9) (by kernel_rfl) (congrArg Value.bool hc7) Bd98 rfl (c_impl_clone (M := M) p h1 hO.fut hr9) rfl (by rintro _ _ _ ⟨a13x0, n13x0, c13x0, f13x0, rfl, hC13, hv13x0, hOc13⟩; exact hS.ext hC13) ?_
   rintro _ w13 ⟨a13x0, n13x0, c13x0, f13x0, rfl, hC13, hv13x0, hOc13⟩
   have h0 := h0.ext hC13
   have h1 := h1.ext hC13
   have hb3 := hb3.chg hC13 (fun h => nomatch h)
   have hC := hC.ext hC13
   have hO := Own.join0 hO hC13 hOc13
   have hO := hO.perm (R := f13x0 ++ (([g3]) ++ ([]))) (by simp)
   have hS := hS.ext hC13
   refine x_one (i := 5) (by kernel_rfl) ?_
   refine xk_valy (b := false) (.agg #[(.int .i64 a_.1), (.slice pa0 pn0 pc0)]) rfl (tg := 9) (by kernel_rfl) (congrArg Value.bool hc7) (y_load rfl ((box_load Ag35 Sz35 hb3 [] [(.int .i64 a_.1), (.slice pa0 pn0 pc0)] [] rfl rfl (fun h => nomatch h)) _ (Chg.refl _ _))) rfl (fun _ => hS) ?_
   refine x_one (i := 8) (by kernel_rfl) ?_
   have hL16 := hO
   have hI16 := Own.lend (F := (f13x0 ++ ([]))) (R := ([g3]) ++ ([])) (Own.perm (hL16) (by simp))
   obtain ⟨r12, hr12, hs⟩ := bind_some hs
   refine xk_cally (b := true) rfl (tg := 9) (by kernel_rfl) (congrArg Value.bool hc7) Bd97 rfl (c_impl_closePartition (M := M) (a_.1, a_.2) r9 h0 hv13x0 hI16 hI16.fut hr12) rfl (fun h => nomatch h) ?_
   rintro _ w16 ⟨fi16x0, rfl, hC16, hvi16x0, hOc16⟩
   have hO := hO.perm (R := (f13x0 ++ ([])) ++ (([g3]) ++ ([]))) (by simp)
   have h0 := h0.mut hC16 (fun g hg => hO.inM g ((fun _ h => h) g hg)) (fun _ _ h => nomatch h)
   have h1 := h1.mut hC16 (fun g hg => hO.inM g ((fun _ h => h) g hg)) (fun _ _ h => nomatch h)
   have hb3 := hb3.chg hC16 (fun hg => hO.apart _ ((fun _ h => h) _ hg) (mem_l (List.mem_singleton.2 rfl)))
   have hC := hC.step hC16 (fun g hg => hO.inN g ((fun _ h => h) g hg))
   have hO := Own.join hO hC16 hOc16
   have hO := hO.perm (R := fi16x0 ++ (([g3]) ++ ([]))) (by simp)
   refine x_py 9 (.bool (!r12.1)) rfl (by kernel_rfl) (tg := 9) (by kernel_rfl) (congrArg Value.bool hc7) (fun _ => y_not rfl) (fun h => nomatch h) ?_
   refine x_p 10 (.bool (!r12.1)) rfl (by kernel_rfl)  (fun _ => y_pick_t (congrArg Value.bool hc7) rfl) (fun h => nomatch h) ?_
   refine x_p 11 (.bool (!r12.1)) rfl (by kernel_rfl)  (fun _ => y_assign rfl) (fun h => nomatch h) ?_
   refine x_end (by kernel_rfl) ?_
   clear hS
   refine wp_ret ?_
   cases hs
   exact ⟨_, fr_ovl 16 ⟨rfl, trivial⟩, hC⟩
 ·skip
  refine x_pn 5 rfl (by kernel_rfl) (tg := 9) (by kernel_rfl) (congrArg Value.bool hc7) (fun _ => hS) ?_
  refine x_pn 6 rfl (by kernel_rfl) (tg := 9) (by kernel_rfl) (congrArg Value.bool hc7) (fun _ => hS) ?_
  refine x_pn 7 rfl (by kernel_rfl) (tg := 9) (by kernel_rfl) (congrArg Value.bool hc7) (fun _ => hS) ?_
  refine x_one (i := 8) (by kernel_rfl) ?_
  refine xk_no (b := true) rfl (tg := 9) (by kernel_rfl) (congrArg Value.bool hc7) rfl (fun h => nomatch h) ?_
  refine x_pn 9 rfl (by kernel_rfl) (tg := 9) (by kernel_rfl) (congrArg Value.bool hc7) (fun h => nomatch h) ?_
  refine x_p 10 (.bool false) rfl (by kernel_rfl)  (fun _ => y_pick_f (congrArg Value.bool hc7) rfl) (fun h => nomatch h) ?_
  refine x_p 11 (.bool false) rfl (by kernel_rfl)  (fun _ => y_assign rfl) (fun h => nomatch h) ?_
  refine x_end (by kernel_rfl) ?_
  clear hS
  refine wp_ret ?_
  cases hs
  exact ⟨_, fr_ovl 16 ⟨rfl, trivial⟩, hC⟩

def k_impl_kernelOf (M : Nat → Prop) (w0 : World) (r : (List Int)) (a : Act) (w : World) : Prop :=
  ∃ (σ : Nat → Value) (ra0 : Option Addr) (rn0 rc0 : Nat) (rf0 : List Nat), a = fr 36 (ovl σ [(2, (.slice ra0 rn0 rc0))]) ∧ Chg [] w0 w ∧ (RT.os 3 (RT.int .i64)).val M w (.slice ra0 rn0 rc0) r rf0 ∧ Own (Nw w0 []) (fun _ => True) w (rf0 ++ ([]))
def s_impl_kernelOf (list : List Int) : Option ((List Int)) :=
  (mks (list.length : Int) (0 : Int)).bind fun y3 =>
  (forC (S := (List Int)) (R := (List Int)) (fun k153 s151 =>
  (idx s151 k153).bind fun x159 =>
  (iter (S := (List Int)) (R := (List Int)) (fun s203 =>
  (idx s203 k153).bind fun x219 =>
  (idx list x219).bind fun x221 =>
  (idx list k153).bind fun x223 =>
  (bif (x221 != x223) then (idx s203 k153).bind fun x226 =>
  (idx s203 k153).bind fun x228 =>
  some (.nx (List.set s203 (Int.toNat k153) (w64 (x226 + 1)))) else some (.br s203))) FU (List.set s151 (Int.toNat k153) 0)).bind fun o207 => after o207 (fun r_ => some (.rt r_)) (fun s203 =>
  some (.nx s203))) 0 (list.length : Int) y3).bind fun o155 => after o155 (fun r_ => some r_) (fun s151 =>
  some s151)
set_option maxHeartbeats 4000000 in
theorem c_impl_kernelOf {M : Nat → Prop} {w : World} {pa0 : Option Addr} {pn0 pc0 : Nat} (list : List Int) (h0 : (RT.rs (RT.int .i64)).val M w (.slice pa0 pn0 pc0) list ([])) (hM : ∀ g, w.heap.size ≤ g → M g) {r : (List Int)} (hs : s_impl_kernelOf list = some r) :
    Gives Try.prog 111 [(.slice pa0 pn0 pc0)] w (fun v w' => ∃ (ra0 : Option Addr) (rn0 rc0 : Nat) (rf0 : List Nat), v = (.slice ra0 rn0 rc0) ∧ Chg [] w w' ∧ (RT.os 3 (RT.int .i64)).val M w' (.slice ra0 rn0 rc0) r rf0 ∧ Own (Nw w []) (fun _ => True) w' (rf0 ++ ([]))) := by
 refine calls_fr Try.func111 rfl Try.ntmps111 (Nat.le_of_ble_eq_true rfl) ?_
 have hO := Own.start (N := Nw w []) hM Nw.fut
 have hC := Chg.refl [] w
 unfold s_impl_kernelOf at hs
 refine wp_mono (Q := KPost (k_impl_kernelOf M w r)) ?_ (fun e a w1 h => ?_)
 rotate_left
 ·cases e
  case ret =>
   obtain ⟨σ, ra0, rn0, rc0, rf0, rfl, hrest⟩ := h
   exact ret1x Try.results111 (res_tmp rfl) ⟨ra0, rn0, rc0, rf0, rfl, hrest⟩
  all_goals exact (h : False).elim
 refine c_seq (c_region ?_)
 refine pl_val (.slice none 0 0) (y_assign rfl) ?_
 refine c_nil ?_
 refine c_seq (c_region ?_)
 refine pl_val (.slice pa0 pn0 pc0) (y_move rfl) ?_
 refine pl_val (.int .i64 (list.length : Int)) (y_len' Sl22 (rs_len h0) rfl) ?_
 obtain ⟨y3, hy3, hs⟩ := bind_some hs
 obtain ⟨a2, n2, c2, w2, f2, hm2, hC2, hfr2, hv2⟩ := mk_os (M := M) (w := w) (r := (RT.int .i64)) Rw22 hy3 (fun _ _ => ⟨rfl, rfl⟩)
 refine pl_val (w' := w2) (.slice a2 n2 c2) (y_make rfl rfl hm2) ?_
 have h0 := h0.ext hC2
 have hC := hC.ext hC2
 have hO := hO.new hC2 hfr2 (os_nodup hv2) hv2.fpl
 refine pl_val (.slice a2 n2 c2) (y_assign rfl) ?_
 refine c_nil ?_
 refine c_seq ?_
 refine c_seq (c_region ?_)
 refine pl_val (.slice pa0 pn0 pc0) (y_move rfl) ?_
 refine pl_val (.int .i64 (list.length : Int)) (y_len' Sl22 (rs_len h0) rfl) ?_
 refine pl_val (.int .i64 0) (y_move rfl) ?_
 refine c_nil ?_
 obtain ⟨o155, hl156, hs⟩ := bind_some hs
 refine wp_block ?_
 refine wp_forC (id := 0) (list.length : Int) (I := fun k153 s151 a w152 => ∃ (σ : Nat → Value) (f157 : List Nat), a = fr 36 (ovl σ [(0, (.slice pa0 pn0 pc0)), (3, (.slice a2 n2 c2)), (9, (.int .i64 (list.length : Int))), (10, (.int .i64 k153))]) ∧ Chg [] w w152 ∧ Own (Nw w []) M w152 (f157 ++ []) ∧ (RT.rs (RT.int .i64)).val M w152 (.slice pa0 pn0 pc0) list ([]) ∧ (RT.os 3 (RT.int .i64)).val M w152 (.slice a2 n2 c2) s151 f157) (J := fun s151 a w152 => ∃ (σ : Nat → Value) (f158 : List Nat), a = fr 36 (ovl σ [(3, (.slice a2 n2 c2))]) ∧ Chg [] w w152 ∧ Own (Nw w []) M w152 (f158 ++ []) ∧ (RT.rs (RT.int .i64)).val M w152 (.slice pa0 pn0 pc0) list ([]) ∧ (RT.os 3 (RT.int .i64)).val M w152 (.slice a2 n2 c2) s151 f158) (K := (k_impl_kernelOf M w)) ?_ ?_ 0 y3 o155 _ _ ?_ hl156 ?_
 ·rintro k153 s151 a w152 ⟨σ, f157, rfl, hC, hO, h0, hv157⟩ hlt
  refine c_seq (c_region ?_)
  refine pl_val (.bool (decide (k153 < (list.length : Int)))) (y_lss rfl rfl) ?_
  refine c_nil ?_
  refine c_seq ?_
  refine c_condF (congrArg Value.bool (decide_eq_false hlt)) ?_
  refine wp_exit ?_
  exact ⟨rfl, _, f157, fr_ovl 36 ⟨rfl, trivial⟩, hC, hO, h0, hv157⟩
 ·rintro k153 s151 o155 a w152 ⟨σ, f157, rfl, hC, hO, h0, hv157⟩ hlt hw hs
  refine c_seq (c_region ?_)
  refine pl_val (.bool (decide (k153 < (list.length : Int)))) (y_lss rfl rfl) ?_
  refine c_nil ?_
  refine c_seq ?_
  refine c_condT (congrArg Value.bool (decide_eq_true hlt)) ?_
  refine wp_skip ?_
  refine c_seq ?_
  refine wp_block ?_
  refine c_seq (c_region ?_)
  refine pl_val (.int .i64 k153) (y_move rfl) ?_
  refine pl_val (.int .i64 k153) (y_assign rfl) ?_
  refine c_nil ?_
  refine c_seq (c_region ?_)
  refine pl_val (.slice a2 n2 c2) (y_move rfl) ?_
  refine pl_val (.int .i64 k153) (y_move rfl) ?_
  obtain ⟨x159, hx159, hs⟩ := bind_some hs
  obtain ⟨g160, f160, hg160, hk160, hp160, ha160, hf160⟩ := os_idx Sl22 Sz3 hv157 hx159
  refine pl_val (.pointer (some ⟨g160, 0 + Int.toNat k153 * 1, none⟩)) (hp160 _ _ _ _ _ _ _ _ _ rfl rfl) ?_
  obtain ⟨w161, f161, hst161, hC161, hf161, hv161⟩ := os_store (P := Try.prog) (c' := [(.int .i64 0)]) hg160 hv157 hk160 (fun g hg => hO.inM g (os_block hv157 g (by simpa using hg))) ⟨rfl, rfl⟩ List.nodup_nil (fun _ h => nomatch h) (fun _ h => .inl h)
  have hG161 : ∀ q ∈ [g160], q ∈ f157 := fun q hq => os_block hv157 q (by rw [hg160]; exact hq)
  refine pl_skip (w' := w161) (ys_store rfl rfl (hst161 _ _ rfl Sz3)) ?_
  have h0 := h0.mut hC161 (fun g hg => hO.inM g (hG161 g hg)) (fun _ _ h => nomatch h)
  have hC := hC.step hC161 (fun g hg => hO.inN g (hG161 g hg))
  have hO := hO.grow hC161 (fun q hq => .inl ((hf161 q hq).resolve_right (fun h => nomatch h))) (os_nodup hv161) hv161.fpl
  refine c_nil ?_
  obtain ⟨o207, hl208, hs⟩ := bind_some hs
  refine wp_block ?_
  refine wp_iter (id := 2) (I := fun s203 a w204 => ∃ (σ : Nat → Value) (f209 : List Nat), a = fr 36 (ovl σ [(0, (.slice pa0 pn0 pc0)), (3, (.slice a2 n2 c2)), (4, (.int .i64 k153)), (9, (.int .i64 (list.length : Int))), (10, (.int .i64 k153))]) ∧ Chg [] w w204 ∧ Own (Nw w []) M w204 (f209 ++ []) ∧ (RT.rs (RT.int .i64)).val M w204 (.slice pa0 pn0 pc0) list ([]) ∧ (RT.os 3 (RT.int .i64)).val M w204 (.slice a2 n2 c2) s203 f209) (J := fun s203 a w204 => ∃ (σ : Nat → Value) (f210 : List Nat), a = fr 36 (ovl σ [(0, (.slice pa0 pn0 pc0)), (3, (.slice a2 n2 c2)), (9, (.int .i64 (list.length : Int))), (10, (.int .i64 k153))]) ∧ Chg [] w w204 ∧ Own (Nw w []) M w204 (f210 ++ []) ∧ (RT.rs (RT.int .i64)).val M w204 (.slice pa0 pn0 pc0) list ([]) ∧ (RT.os 3 (RT.int .i64)).val M w204 (.slice a2 n2 c2) s203 f210) (K := (k_impl_kernelOf M w)) ?_ FU (List.set s151 (Int.toNat k153) 0) o207 _ _ ?_ hl208 ?_
  ·rintro s203 o207 a w204 ⟨σ, f209, rfl, hC, hO, h0, hv209⟩ hs
   refine c_seq ?_
   refine c_seq ?_
   refine x_start [] Mx rfl ?_
   have hCw218 := Chg.drew w204
   generalize World.drew w204 = w218 at hCw218 ⊢
   have h0 := h0.ext hCw218
   have hv209 := hv209.ext hCw218
   have hC := hC.ext hCw218
   have hO := hO.ext hCw218
   have hS := Chg.refl [] w218
   refine x_p 0 (.slice pa0 pn0 pc0) rfl (by kernel_rfl)  (fun _ => y_move rfl) (fun _ => hS) ?_
   refine x_p 1 (.slice a2 n2 c2) rfl (by kernel_rfl)  (fun _ => y_move rfl) (fun _ => hS) ?_
   refine x_p 2 (.int .i64 k153) rfl (by kernel_rfl)  (fun _ => y_move rfl) (fun _ => hS) ?_
   obtain ⟨x219, hx219, hs⟩ := bind_some hs
   obtain ⟨g220, f220, hg220, hk220, hp220, ha220, hf220⟩ := os_idx Sl22 Sz3 hv209 hx219
   refine x_p 3 (.pointer (some ⟨g220, 0 + Int.toNat k153 * 1, none⟩)) rfl (by kernel_rfl)  (fun _ => hp220 _ _ _ _ _ _ _ _ _ rfl rfl) (fun _ => hS) ?_
   refine x_l 4 (.int .i64 x219) rfl (by kernel_rfl)  (fun w' hw' => y_load rfl ((at_load_int Ag3 Sz3 ha220) w' hw')) hS ?_
   obtain ⟨x221, hx221, hs⟩ := bind_some hs
   obtain ⟨b222, o222, hp222, ha222⟩ := rs_idx Sl22 Sz3 h0 hx221
   refine x_p 5 (.pointer (some ⟨b222, o222, none⟩)) rfl (by kernel_rfl)  (fun _ => hp222 _ _ _ _ _ _ _ _ _ rfl rfl) (fun _ => hS) ?_
   refine x_l 6 (.int .i64 x221) rfl (by kernel_rfl)  (fun w' hw' => y_load rfl ((at_load_int Ag3 Sz3 ha222) w' hw')) hS ?_
   refine x_p 7 (.slice pa0 pn0 pc0) rfl (by kernel_rfl)  (fun _ => y_move rfl) (fun _ => hS) ?_
   refine x_p 8 (.int .i64 k153) rfl (by kernel_rfl)  (fun _ => y_move rfl) (fun _ => hS) ?_
   obtain ⟨x223, hx223, hs⟩ := bind_some hs
   obtain ⟨b224, o224, hp224, ha224⟩ := rs_idx Sl22 Sz3 h0 hx223
   refine x_p 9 (.pointer (some ⟨b224, o224, none⟩)) rfl (by kernel_rfl)  (fun _ => hp224 _ _ _ _ _ _ _ _ _ rfl rfl) (fun _ => hS) ?_
   refine x_l 10 (.int .i64 x223) rfl (by kernel_rfl)  (fun w' hw' => y_load rfl ((at_load_int Ag3 Sz3 ha224) w' hw')) hS ?_
   refine x_p 11 (.bool (x221 != x223)) rfl (by kernel_rfl)  (fun _ => y_neq rfl rfl) (fun _ => hS) ?_
   refine x_end (by kernel_rfl) ?_
   clear hS
   rcases bif_some hs with ⟨hc225, hs⟩ | ⟨hc225, hs⟩
   ·skip
    refine c_condT (congrArg Value.bool hc225) ?_
    refine wp_skip ?_
    refine wp_block ?_
    refine c_region ?_
    refine pl_val (.slice a2 n2 c2) (y_move rfl) ?_
    refine pl_val (.int .i64 k153) (y_move rfl) ?_
    obtain ⟨x226, hx226, hs⟩ := bind_some hs
    obtain ⟨g227, f227, hg227, hk227, hp227, ha227, hf227⟩ := os_idx Sl22 Sz3 hv209 hx226
    refine pl_val (.pointer (some ⟨g227, 0 + Int.toNat k153 * 1, none⟩)) (hp227 _ _ _ _ _ _ _ _ _ rfl rfl) ?_
    refine pl_val (.int .i64 x226) (y_load rfl ((at_load_int Ag3 Sz3 ha227) _ (Chg.refl _ _))) ?_
    refine pl_val (.int .i64 (w64 (x226 + 1))) (y_add rfl rfl) ?_
    obtain ⟨x228, hx228, hs⟩ := bind_some hs
    obtain ⟨g229, f229, hg229, hk229, hp229, ha229, hf229⟩ := os_idx Sl22 Sz3 hv209 hx228
    refine pl_val (.pointer (some ⟨g229, 0 + Int.toNat k153 * 1, none⟩)) (hp229 _ _ _ _ _ _ _ _ _ rfl rfl) ?_
    obtain ⟨w230, f230, hst230, hC230, hf230, hv230⟩ := os_store (P := Try.prog) (c' := [(.int .i64 (w64 (x226 + 1)))]) hg229 hv209 hk229 (fun g hg => hO.inM g (os_block hv209 g (by simpa using hg))) ⟨rfl, rfl⟩ List.nodup_nil (fun _ h => nomatch h) (fun _ h => .inl h)
    have hG230 : ∀ q ∈ [g229], q ∈ f209 := fun q hq => os_block hv209 q (by rw [hg229]; exact hq)
    refine pl_skip (w' := w230) (ys_store rfl rfl (hst230 _ _ rfl Sz3)) ?_
    have h0 := h0.mut hC230 (fun g hg => hO.inM g (hG230 g hg)) (fun _ _ h => nomatch h)
    have hC := hC.step hC230 (fun g hg => hO.inN g (hG230 g hg))
    have hO := hO.grow hC230 (fun q hq => .inl ((hf230 q hq).resolve_right (fun h => nomatch h))) (os_nodup hv230) hv230.fpl
    refine c_nil ?_
    cases hs
    exact ⟨_, f230, fr_ovl 36 ⟨rfl, rfl, rfl, rfl, rfl, trivial⟩, hC, hO, h0, hv230⟩
   ·skip
    refine c_condF (congrArg Value.bool hc225) ?_
    refine wp_exit ?_
    cases hs
    exact ⟨rfl, _, f209, fr_ovl 36 ⟨rfl, rfl, rfl, rfl, trivial⟩, hC, hO, h0, hv209⟩
  ·skip
   exact ⟨_, f161, fr_ovl 36 ⟨rfl, rfl, rfl, rfl, rfl, trivial⟩, hC, hO, h0, hv161⟩
  ·cases o207 with
   | nx _ => exact True.intro
   | rt r_ =>
    have hs := after_rt hs
    intro a1 w1 hK
    cases hs
    exact hK
   | br s203 =>
    have hs := after_br hs
    rintro a1 w204 ⟨σ, f210, rfl, hC, hO, h0, hv210⟩
    refine c_region ?_
    refine pl_val (.int .i64 (w64 (k153 + 1))) (y_add rfl rfl) ?_
    refine pl_val (.int .i64 (w64 (k153 + 1))) (y_move rfl) ?_
    refine c_nil ?_
    cases hs
    exact ⟨_, f210, fr_ovl 36 ⟨rfl, rfl, rfl, congrArg (Value.int .i64) hw, trivial⟩, hC, hO, h0, hv210⟩
 ·skip
  exact ⟨_, f2, fr_ovl 36 ⟨rfl, rfl, rfl, rfl, trivial⟩, hC, hO, h0, hv2⟩
 ·cases o155 with
  | nx _ => exact True.intro
  | rt r_ =>
   have hs := after_rt hs
   intro a1 w1 hK
   cases hs
   exact hK
  | br s151 =>
   have hs := after_br hs
   rintro a1 w152 ⟨σ, f158, rfl, hC, hO, h0, hv158⟩
   refine c_seq (c_region ?_)
   refine pl_val (.slice a2 n2 c2) (y_move rfl) ?_
   refine pl_val (.slice a2 n2 c2) (y_assign rfl) ?_
   refine c_nil ?_
   refine wp_ret ?_
   cases hs
   exact ⟨_, a2, n2, c2, f158, fr_ovl 36 ⟨rfl, trivial⟩, hC, hv158, hO.top⟩

theorem Bd111 : Bodied Try.prog 111 := bodied Try.func111 (by kernel_rfl) rfl

def k_impl_meet (M : Nat → Prop) (w0 : World) (r : (List Int)) (a : Act) (w : World) : Prop :=
  ∃ (σ : Nat → Value) (ra0 : Option Addr) (rn0 rc0 : Nat) (rf0 : List Nat), a = fr 33 (ovl σ [(4, (.slice ra0 rn0 rc0))]) ∧ Chg [] w0 w ∧ (RT.os 3 (RT.int .i64)).val M w (.slice ra0 rn0 rc0) r rf0 ∧ Own (Nw w0 []) (fun _ => True) w (rf0 ++ ([]))
def s_impl_meet (p : List Int) (q : List Int) : Option ((List Int)) :=
  (mks (p.length : Int) (0 : Int)).bind fun y4 =>
  (forC (S := (List Int)) (R := (List Int)) (fun k25 s23 =>
  (idx p k25).bind fun x32 =>
  (idx q k25).bind fun x34 =>
  (idx s23 k25).bind fun x36 =>
  some (.nx (List.set s23 (Int.toNat k25) (w64 ((w64 (x32 * (p.length : Int))) + x34))))) 0 (p.length : Int) y4).bind fun o27 => after o27 (fun r_ => some r_) (fun s23 =>
  (s_impl_kernelOf s23).bind fun r40 =>
  some r40)
set_option maxHeartbeats 4000000 in
theorem c_impl_meet {M : Nat → Prop} {w : World} {pa0 : Option Addr} {pn0 pc0 : Nat} {pa1 : Option Addr} {pn1 pc1 : Nat} (p : List Int) (q : List Int) (h0 : (RT.rs (RT.int .i64)).val M w (.slice pa0 pn0 pc0) p ([])) (h1 : (RT.rs (RT.int .i64)).val M w (.slice pa1 pn1 pc1) q ([])) (hM : ∀ g, w.heap.size ≤ g → M g) {r : (List Int)} (hs : s_impl_meet p q = some r) :
    Gives Try.prog 90 [(.slice pa0 pn0 pc0), (.slice pa1 pn1 pc1)] w (fun v w' => ∃ (ra0 : Option Addr) (rn0 rc0 : Nat) (rf0 : List Nat), v = (.slice ra0 rn0 rc0) ∧ Chg [] w w' ∧ (RT.os 3 (RT.int .i64)).val M w' (.slice ra0 rn0 rc0) r rf0 ∧ Own (Nw w []) (fun _ => True) w' (rf0 ++ ([]))) := by
 refine calls_fr Try.func90 rfl Try.ntmps90 (Nat.le_of_ble_eq_true rfl) ?_
 have hO := Own.start (N := Nw w []) hM Nw.fut
 have hC := Chg.refl [] w
 unfold s_impl_meet at hs
 refine wp_mono (Q := KPost (k_impl_meet M w r)) ?_ (fun e a w1 h => ?_)
 rotate_left
 ·cases e
  case ret =>
   obtain ⟨σ, ra0, rn0, rc0, rf0, rfl, hrest⟩ := h
   exact ret1x Try.results90 (res_tmp rfl) ⟨ra0, rn0, rc0, rf0, rfl, hrest⟩
  all_goals exact (h : False).elim
 refine c_seq (c_region ?_)
 refine pl_val (.slice none 0 0) (y_assign rfl) ?_
 refine c_nil ?_
 refine c_seq (c_region ?_)
 refine pl_val (.slice pa0 pn0 pc0) (y_move rfl) ?_
 refine pl_val (.int .i64 (p.length : Int)) (y_len' Sl22 (rs_len h0) rfl) ?_
 obtain ⟨y4, hy4, hs⟩ := bind_some hs
 obtain ⟨a3, n3, c3, w3, f3, hm3, hC3, hfr3, hv3⟩ := mk_os (M := M) (w := w) (r := (RT.int .i64)) Rw22 hy4 (fun _ _ => ⟨rfl, rfl⟩)
 refine pl_val (w' := w3) (.slice a3 n3 c3) (y_make rfl rfl hm3) ?_
 have h0 := h0.ext hC3
 have h1 := h1.ext hC3
 have hC := hC.ext hC3
 have hO := hO.new hC3 hfr3 (os_nodup hv3) hv3.fpl
 refine pl_val (.slice a3 n3 c3) (y_assign rfl) ?_
 refine c_nil ?_
 refine c_seq ?_
 refine c_seq (c_region ?_)
 refine pl_val (.slice pa0 pn0 pc0) (y_move rfl) ?_
 refine pl_val (.int .i64 (p.length : Int)) (y_len' Sl22 (rs_len h0) rfl) ?_
 refine pl_val (.int .i64 0) (y_move rfl) ?_
 refine c_nil ?_
 obtain ⟨o27, hl28, hs⟩ := bind_some hs
 refine wp_block ?_
 refine wp_forC (id := 0) (p.length : Int) (I := fun k25 s23 a w24 => ∃ (σ : Nat → Value) (f29 : List Nat), a = fr 33 (ovl σ [(0, (.slice pa0 pn0 pc0)), (1, (.slice pa1 pn1 pc1)), (5, (.slice a3 n3 c3)), (11, (.int .i64 (p.length : Int))), (12, (.int .i64 k25))]) ∧ Chg [] w w24 ∧ Own (Nw w []) M w24 (f29 ++ []) ∧ (RT.rs (RT.int .i64)).val M w24 (.slice pa0 pn0 pc0) p ([]) ∧ (RT.rs (RT.int .i64)).val M w24 (.slice pa1 pn1 pc1) q ([]) ∧ (RT.os 3 (RT.int .i64)).val M w24 (.slice a3 n3 c3) s23 f29) (J := fun s23 a w24 => ∃ (σ : Nat → Value) (f30 : List Nat), a = fr 33 (ovl σ [(5, (.slice a3 n3 c3))]) ∧ Chg [] w w24 ∧ Own (Nw w []) M w24 (f30 ++ []) ∧ (RT.rs (RT.int .i64)).val M w24 (.slice pa0 pn0 pc0) p ([]) ∧ (RT.rs (RT.int .i64)).val M w24 (.slice pa1 pn1 pc1) q ([]) ∧ (RT.os 3 (RT.int .i64)).val M w24 (.slice a3 n3 c3) s23 f30) (K := (k_impl_meet M w)) ?_ ?_ 0 y4 o27 _ _ ?_ hl28 ?_
 ·rintro k25 s23 a w24 ⟨σ, f29, rfl, hC, hO, h0, h1, hv29⟩ hlt
  refine c_seq (c_region ?_)
  refine pl_val (.bool (decide (k25 < (p.length : Int)))) (y_lss rfl rfl) ?_
  refine c_nil ?_
  refine c_seq ?_
  refine c_condF (congrArg Value.bool (decide_eq_false hlt)) ?_
  refine wp_exit ?_
  exact ⟨rfl, _, f29, fr_ovl 33 ⟨rfl, trivial⟩, hC, hO, h0, h1, hv29⟩
 ·rintro k25 s23 o27 a w24 ⟨σ, f29, rfl, hC, hO, h0, h1, hv29⟩ hlt hw hs
  refine c_seq (c_region ?_)
  refine pl_val (.bool (decide (k25 < (p.length : Int)))) (y_lss rfl rfl) ?_
  refine c_nil ?_
  refine c_seq ?_
  refine c_condT (congrArg Value.bool (decide_eq_true hlt)) ?_
  refine wp_skip ?_
  refine c_seq ?_
  refine wp_block ?_
  refine c_seq (c_region ?_)
  refine pl_val (.int .i64 k25) (y_move rfl) ?_
  refine pl_val (.int .i64 k25) (y_assign rfl) ?_
  refine c_nil ?_
  refine x_start [15] Mx rfl ?_
  have hCw31 := Chg.drew w24
  generalize World.drew w24 = w31 at hCw31 ⊢
  have h0 := h0.ext hCw31
  have h1 := h1.ext hCw31
  have hv29 := hv29.ext hCw31
  have hC := hC.ext hCw31
  have hO := hO.ext hCw31
  have hS := Chg.refl [] w31
  refine x_p 0 (.slice a3 n3 c3) rfl (by kernel_rfl)  (fun _ => y_move rfl) (fun _ => hS) ?_
  refine x_p 1 (.int .i64 k25) rfl (by kernel_rfl)  (fun _ => y_move rfl) (fun _ => hS) ?_
  refine x_p 2 (.slice pa0 pn0 pc0) rfl (by kernel_rfl)  (fun _ => y_move rfl) (fun _ => hS) ?_
  refine x_p 3 (.int .i64 k25) rfl (by kernel_rfl)  (fun _ => y_move rfl) (fun _ => hS) ?_
  obtain ⟨x32, hx32, hs⟩ := bind_some hs
  obtain ⟨b33, o33, hp33, ha33⟩ := rs_idx Sl22 Sz3 h0 hx32
  refine x_p 4 (.pointer (some ⟨b33, o33, none⟩)) rfl (by kernel_rfl)  (fun _ => hp33 _ _ _ _ _ _ _ _ _ rfl rfl) (fun _ => hS) ?_
  refine x_l 5 (.int .i64 x32) rfl (by kernel_rfl)  (fun w' hw' => y_load rfl ((at_load_int Ag3 Sz3 ha33) w' hw')) hS ?_
  refine x_p 6 (.slice pa0 pn0 pc0) rfl (by kernel_rfl)  (fun _ => y_move rfl) (fun _ => hS) ?_
  refine x_p 7 (.int .i64 (p.length : Int)) rfl (by kernel_rfl)  (fun _ => y_len' Sl22 (rs_len h0) rfl) (fun _ => hS) ?_
  refine x_p 8 (.int .i64 (w64 (x32 * (p.length : Int)))) rfl (by kernel_rfl)  (fun _ => y_mul rfl rfl) (fun _ => hS) ?_
  refine x_p 9 (.slice pa1 pn1 pc1) rfl (by kernel_rfl)  (fun _ => y_move rfl) (fun _ => hS) ?_
  refine x_p 10 (.int .i64 k25) rfl (by kernel_rfl)  (fun _ => y_move rfl) (fun _ => hS) ?_
  obtain ⟨x34, hx34, hs⟩ := bind_some hs
  obtain ⟨b35, o35, hp35, ha35⟩ := rs_idx Sl22 Sz3 h1 hx34
  refine x_p 11 (.pointer (some ⟨b35, o35, none⟩)) rfl (by kernel_rfl)  (fun _ => hp35 _ _ _ _ _ _ _ _ _ rfl rfl) (fun _ => hS) ?_
  refine x_l 12 (.int .i64 x34) rfl (by kernel_rfl)  (fun w' hw' => y_load rfl ((at_load_int Ag3 Sz3 ha35) w' hw')) hS ?_
  refine x_p 13 (.int .i64 (w64 ((w64 (x32 * (p.length : Int))) + x34))) rfl (by kernel_rfl)  (fun _ => y_add rfl rfl) (fun _ => hS) ?_
  obtain ⟨x36, hx36, hs⟩ := bind_some hs
  obtain ⟨g37, f37, hg37, hk37, hp37, ha37, hf37⟩ := os_idx Sl22 Sz3 hv29 hx36
  refine x_p 14 (.pointer (some ⟨g37, 0 + Int.toNat k25 * 1, none⟩)) rfl (by kernel_rfl)  (fun _ => hp37 _ _ _ _ _ _ _ _ _ rfl rfl) (fun _ => hS) ?_
  refine x_one (i := 15) (by kernel_rfl) ?_
  obtain ⟨w38, f38, hst38, hC38, hf38, hv38⟩ := os_store (P := Try.prog) (c' := [(.int .i64 (w64 ((w64 (x32 * (p.length : Int))) + x34)))]) hg37 hv29 hk37 (fun g hg => hO.inM g (os_block hv29 g (by simpa using hg))) ⟨rfl, rfl⟩ List.nodup_nil (fun _ h => nomatch h) (fun _ h => .inl h)
  have hG38 : ∀ q ∈ [g37], q ∈ f29 := fun q hq => os_block hv29 q (by rw [hg37]; exact hq)
  refine xk_skip (w' := w38) (b := true) rfl (ys_store rfl rfl (hst38 _ _ rfl Sz3)) rfl (fun h => nomatch h) ?_
  have h0 := h0.mut hC38 (fun g hg => hO.inM g (hG38 g hg)) (fun _ _ h => nomatch h)
  have h1 := h1.mut hC38 (fun g hg => hO.inM g (hG38 g hg)) (fun _ _ h => nomatch h)
  have hC := hC.step hC38 (fun g hg => hO.inN g (hG38 g hg))
  have hO := hO.grow hC38 (fun q hq => .inl ((hf38 q hq).resolve_right (fun h => nomatch h))) (os_nodup hv38) hv38.fpl
  refine x_end (by kernel_rfl) ?_
  clear hS
  refine c_region ?_
  refine pl_val (.int .i64 (w64 (k25 + 1))) (y_add rfl rfl) ?_
  refine pl_val (.int .i64 (w64 (k25 + 1))) (y_move rfl) ?_
  refine c_nil ?_
  cases hs
  exact ⟨_, f38, fr_ovl 33 ⟨rfl, rfl, rfl, rfl, congrArg (Value.int .i64) hw, trivial⟩, hC, hO, h0, h1, hv38⟩
 ·skip
  exact ⟨_, f3, fr_ovl 33 ⟨rfl, rfl, rfl, rfl, rfl, trivial⟩, hC, hO, h0, h1, hv3⟩
 ·cases o27 with
  | nx _ => exact True.intro
  | rt r_ =>
   have hs := after_rt hs
   intro a1 w1 hK
   cases hs
   exact hK
  | br s23 =>
   have hs := after_br hs
   rintro a1 w24 ⟨σ, f30, rfl, hC, hO, h0, h1, hv30⟩
   refine c_seq (c_region ?_)
   refine pl_val (.slice a3 n3 c3) (y_move rfl) ?_
   obtain ⟨r40, hr40, hs⟩ := bind_some hs
   refine pl_call Bd111 rfl (c_impl_kernelOf (M := (Less M f30)) s23 (((Frz.os Frz.int)).val hv30 Less.sub Less.not) hO.less.fut hr40) ?_
   rintro _ w39 ⟨a39x0, n39x0, c39x0, f39x0, rfl, hC39, hv39x0, hOc39⟩
   have h0 := h0.ext hC39
   have h1 := h1.ext hC39
   have hv30 := hv30.ext hC39
   have hC := hC.ext hC39
   have hO := Own.join0 hO hC39 hOc39
   have hO := hO.perm (R := f39x0 ++ (f30 ++ ([]))) (by simp)
   have hv39x0 := hv39x0.free (M' := M) (Free.os Free.int)
   refine pl_val (.slice a39x0 n39x0 c39x0) (y_assign rfl) ?_
   refine c_nil ?_
   refine wp_ret ?_
   cases hs
   have hO := hO.fr1
   have hO := hO.drop
   exact ⟨_, a39x0, n39x0, c39x0, f39x0, fr_ovl 33 ⟨rfl, trivial⟩, hC, hv39x0, hO.top⟩

theorem Bd90 : Bodied Try.prog 90 := bodied Try.func90 (by kernel_rfl) rfl

def k_impl_areComplements (M : Nat → Prop) (w0 : World) (r : Bool) (a : Act) (w : World) : Prop :=
  ∃ (σ : Nat → Value) , a = fr 19 (ovl σ [(4, (.bool r))]) ∧ Chg [] w0 w
def s_impl_areComplements (p : List Int) (q : List Int) : Option (Bool) :=
  (s_impl_meet p q).bind fun r4 =>
  (s_impl_blockCount r4).bind fun r7 =>
  (bif (r7 == (p.length : Int)) then (s_impl_join p q).bind fun r10 =>
  (s_impl_blockCount r10).bind fun r13 =>
  some (r13 == 1) else some false)
set_option maxHeartbeats 4000000 in
theorem c_impl_areComplements {M : Nat → Prop} {w : World} {pa0 : Option Addr} {pn0 pc0 : Nat} {pa1 : Option Addr} {pn1 pc1 : Nat} (p : List Int) (q : List Int) (h0 : (RT.rs (RT.int .i64)).val M w (.slice pa0 pn0 pc0) p ([])) (h1 : (RT.rs (RT.int .i64)).val M w (.slice pa1 pn1 pc1) q ([])) (hM : ∀ g, w.heap.size ≤ g → M g) {r : Bool} (hs : s_impl_areComplements p q = some r) :
    Gives Try.prog 66 [(.slice pa0 pn0 pc0), (.slice pa1 pn1 pc1)] w (fun v w' => v = (.bool r) ∧ Chg [] w w') := by
 refine calls_fr Try.func66 rfl Try.ntmps66 (Nat.le_of_ble_eq_true rfl) ?_
 have hO := Own.start (N := Nw w []) hM Nw.fut
 have hC := Chg.refl [] w
 unfold s_impl_areComplements at hs
 refine wp_mono (Q := KPost (k_impl_areComplements M w r)) ?_ (fun e a w1 h => ?_)
 rotate_left
 ·cases e
  case ret =>
   obtain ⟨σ, rfl, hrest⟩ := h
   exact ret1x Try.results66 (res_tmp rfl) ⟨rfl, hrest⟩
  all_goals exact (h : False).elim
 refine c_seq (c_region ?_)
 refine pl_val (.bool false) (y_assign rfl) ?_
 refine c_nil ?_
 refine c_seq (c_region ?_)
 refine pl_val (.slice pa0 pn0 pc0) (y_move rfl) ?_
 refine pl_val (.slice pa1 pn1 pc1) (y_move rfl) ?_
 obtain ⟨r4, hr4, hs⟩ := bind_some hs
 refine pl_call Bd90 rfl (c_impl_meet (M := M) p q h0 h1 hO.fut hr4) ?_
 rintro _ w3 ⟨a3x0, n3x0, c3x0, f3x0, rfl, hC3, hv3x0, hOc3⟩
 have h0 := h0.ext hC3
 have h1 := h1.ext hC3
 have hC := hC.ext hC3
 have hO := Own.join0 hO hC3 hOc3
 have hO := hO.perm (R := f3x0 ++ ([])) (by simp)
 obtain ⟨r7, hr7, hs⟩ := bind_some hs
 refine pl_call Bd99 rfl (c_impl_blockCount (M := (Less M f3x0)) r4 (((Frz.os Frz.int)).val hv3x0 Less.sub Less.not) hO.less.fut hr7) ?_
 rintro _ w6 ⟨rfl, hC6⟩
 have h0 := h0.ext hC6
 have h1 := h1.ext hC6
 have hv3x0 := hv3x0.ext hC6
 have hC := hC.ext hC6
 have hO := hO.ext hC6
 refine pl_val (.slice pa0 pn0 pc0) (y_move rfl) ?_
 refine pl_val (.int .i64 (p.length : Int)) (y_len' Sl22 (rs_len h0) rfl) ?_
 refine pl_val (.bool (r7 == (p.length : Int))) (y_eql rfl rfl) ?_
 refine pl_val (.bool (r7 == (p.length : Int))) (y_move rfl) ?_
 rcases bif_some hs with ⟨hc8, hs⟩ | ⟨hc8, hs⟩
 ·skip
  refine pl_yes (.slice pa0 pn0 pc0) (tg := 12) (by kernel_rfl) (congrArg Value.bool hc8) (y_move rfl) ?_
  refine pl_yes (.slice pa1 pn1 pc1) (tg := 12) (by kernel_rfl) (congrArg Value.bool hc8) (y_move rfl) ?_
  obtain ⟨r10, hr10, hs⟩ := bind_some hs
  refine pl_cally (tg := 12) (by kernel_rfl) (congrArg Value.bool hc8) Bd78 rfl (c_impl_join (M := M) p q h0 h1 hO.fut hr10) ?_
  rintro _ w9 ⟨a9x0, n9x0, c9x0, f9x0, rfl, hC9, hv9x0, hOc9⟩
  have h0 := h0.ext hC9
  have h1 := h1.ext hC9
  have hv3x0 := hv3x0.ext hC9
  have hC := hC.ext hC9
  have hO := Own.join0 hO hC9 hOc9
  have hO := hO.perm (R := f9x0 ++ (f3x0 ++ ([]))) (by simp)
  obtain ⟨r13, hr13, hs⟩ := bind_some hs
  refine pl_cally (tg := 12) (by kernel_rfl) (congrArg Value.bool hc8) Bd99 rfl (c_impl_blockCount (M := (Less M f9x0)) r10 (((Frz.os Frz.int)).val hv9x0 Less.sub Less.not) hO.less.fut hr13) ?_
  rintro _ w12 ⟨rfl, hC12⟩
  have h0 := h0.ext hC12
  have h1 := h1.ext hC12
  have hv3x0 := hv3x0.ext hC12
  have hv9x0 := hv9x0.ext hC12
  have hC := hC.ext hC12
  have hO := hO.ext hC12
  refine pl_yes (.bool (r13 == 1)) (tg := 12) (by kernel_rfl) (congrArg Value.bool hc8) (y_eql rfl rfl) ?_
  refine pl_val (.bool (r13 == 1)) (y_pick_t (congrArg Value.bool hc8) rfl) ?_
  refine pl_val (.bool (r13 == 1)) (y_assign rfl) ?_
  refine c_nil ?_
  refine wp_ret ?_
  cases hs
  exact ⟨_, fr_ovl 19 ⟨rfl, trivial⟩, hC⟩
 ·skip
  refine pl_not (tg := 12) (by kernel_rfl) (congrArg Value.bool hc8) ?_
  refine pl_not (tg := 12) (by kernel_rfl) (congrArg Value.bool hc8) ?_
  refine pl_not (tg := 12) (by kernel_rfl) (congrArg Value.bool hc8) ?_
  refine pl_not (tg := 12) (by kernel_rfl) (congrArg Value.bool hc8) ?_
  refine pl_not (tg := 12) (by kernel_rfl) (congrArg Value.bool hc8) ?_
  refine pl_val (.bool false) (y_pick_f (congrArg Value.bool hc8) rfl) ?_
  refine pl_val (.bool false) (y_assign rfl) ?_
  refine c_nil ?_
  refine wp_ret ?_
  cases hs
  exact ⟨_, fr_ovl 19 ⟨rfl, trivial⟩, hC⟩

theorem Bd53 : Bodied Try.prog 53 := bodied Try.func53 (by kernel_rfl) rfl

theorem Bd65 : Bodied Try.prog 65 := bodied Try.func65 (by kernel_rfl) rfl

theorem Bd66 : Bodied Try.prog 66 := bodied Try.func66 (by kernel_rfl) rfl

def k_impl_ComplementsOf (M : Nat → Prop) (w0 : World) (r : (List (List Int)) × Bool) (a : Act) (w : World) : Prop :=
  ∃ (σ : Nat → Value) (ra0 : Option Addr) (rn0 rc0 : Nat) (rf0 : List Nat), a = fr 41 (ovl σ [(4, (.slice ra0 rn0 rc0)), (5, (.bool r.2))]) ∧ Chg [] w0 w ∧ (RT.os 22 (RT.os 3 (RT.int .i64))).val M w (.slice ra0 rn0 rc0) r.1 rf0 ∧ Own (Nw w0 []) (fun _ => True) w (rf0 ++ ([]))
def s_impl_ComplementsOf (a_ : Int × (List (Int × (List Int)))) (p : List Int) : Option ((List (List Int)) × Bool) :=
  (s_impl_fewCongruences (a_.1, a_.2)).bind fun r5 =>
  ((bif (!r5.2) then some true else (s_impl_isCongruence (a_.1, a_.2) p).bind fun r12 =>
  some (!r12))).bind fun s7 =>
  (bif s7 then some ([], false) else (forC (S := (List (List Int)) × (List (Option (List Int)))) (R := (List (List Int)) × Bool) (fun k111 s109 =>
  (idx s109.2 k111).bind fun x121 =>
  (x121).bind fun x123 =>
  (s_impl_areComplements p x123).bind fun r127 =>
  (bif r127 then (idx s109.2 k111).bind fun o131 =>
  (o131).bind fun x132 =>
  (app s109.1 ([x132])).bind fun y135 =>
  some (.nx (y135, List.set s109.2 (Int.toNat k111) none)) else some (.nx (s109.1, s109.2)))) 0 (r5.1.length : Int) ([], List.map some r5.1)).bind fun o113 => after o113 (fun r_ => some r_) (fun s109 =>
  some (s109.1, true)))
set_option maxHeartbeats 4000000 in
theorem c_impl_ComplementsOf {M : Nat → Prop} {w : World} {pa0 : Option Addr} {pn0 pc0 : Nat} {pa1 : Option Addr} {pn1 pc1 : Nat} (a_ : Int × (List (Int × (List Int)))) (p : List Int) (h0 : (RT.rs (RT.pr (RT.int .i64) (RT.rs (RT.int .i64)))).val M w (.slice pa0 pn0 pc0) a_.2 ([])) (h1 : (RT.rs (RT.int .i64)).val M w (.slice pa1 pn1 pc1) p ([])) (hM : ∀ g, w.heap.size ≤ g → M g) {r : (List (List Int)) × Bool} (hs : s_impl_ComplementsOf a_ p = some r) :
    Gives Try.prog 29 [(.agg #[(.int .i64 a_.1), (.slice pa0 pn0 pc0)]), (.slice pa1 pn1 pc1)] w (fun v w' => ∃ (ra0 : Option Addr) (rn0 rc0 : Nat) (rf0 : List Nat), v = (.tuple #[(.slice ra0 rn0 rc0), (.bool r.2)]) ∧ Chg [] w w' ∧ (RT.os 22 (RT.os 3 (RT.int .i64))).val M w' (.slice ra0 rn0 rc0) r.1 rf0 ∧ Own (Nw w []) (fun _ => True) w' (rf0 ++ ([]))) := by
 refine calls_fr Try.func29 rfl Try.ntmps29 (Nat.le_of_ble_eq_true rfl) ?_
 have hO := Own.start (N := Nw w []) hM Nw.fut
 have hC := Chg.refl [] w
 unfold s_impl_ComplementsOf at hs
 refine wp_mono (Q := KPost (k_impl_ComplementsOf M w r)) ?_ (fun e a w1 h => ?_)
 rotate_left
 ·cases e
  case ret =>
   obtain ⟨σ, ra0, rn0, rc0, rf0, rfl, hrest⟩ := h
   exact ret2x Try.results29 (res_tmp rfl) (res_tmp rfl) ⟨ra0, rn0, rc0, rf0, rfl, hrest⟩
  all_goals exact (h : False).elim
 refine c_seq (c_region ?_)
 obtain ⟨w3, g3, ew3, eg3, hC3, hb3⟩ := new_block w [(.int .i64 a_.1), (.slice pa0 pn0 pc0)] 35
 refine pl_val (w' := w3) (.pointer (some ⟨g3, 0, none⟩)) (y_box rfl (by rw [ew3, eg3]; kernel_rfl)) ?_
 have h0 := h0.ext hC3
 have h1 := h1.ext hC3
 have hC := hC.ext hC3
 have hO := hO.new1 hC3 eg3 hb3.lt
 refine pl_val (.slice none 0 0) (y_assign rfl) ?_
 refine pl_val (.bool false) (y_assign rfl) ?_
 refine c_nil ?_
 refine c_seq (c_region ?_)
 refine pl_val (.agg #[(.int .i64 a_.1), (.slice pa0 pn0 pc0)]) (y_load rfl ((box_load Ag35 Sz35 hb3 [] [(.int .i64 a_.1), (.slice pa0 pn0 pc0)] [] rfl rfl (fun h => nomatch h)) _ (Chg.refl _ _))) ?_
 obtain ⟨r5, hr5, hs⟩ := bind_some hs
 refine pl_call Bd53 rfl (c_impl_fewCongruences (M := M) (a_.1, a_.2) h0 hO.fut hr5) ?_
 rintro _ w4 ⟨a4x0, n4x0, c4x0, f4x0, rfl, hC4, hv4x0, hOc4⟩
 have h0 := h0.ext hC4
 have h1 := h1.ext hC4
 have hb3 := hb3.chg hC4 (fun h => nomatch h)
 have hC := hC.ext hC4
 have hO := Own.join0 hO hC4 hOc4
 have hO := hO.perm (R := f4x0 ++ (([g3]) ++ ([]))) (by simp)
 refine pl_val (.tuple #[(.slice a4x0 n4x0 c4x0), (.bool r5.2)]) (y_move rfl) ?_
 refine pl_val (.slice a4x0 n4x0 c4x0) (y_extract rfl (by kernel_rfl)) ?_
 refine pl_val (.bool r5.2) (y_extract rfl (by kernel_rfl)) ?_
 refine pl_val (.slice a4x0 n4x0 c4x0) (y_assign rfl) ?_
 refine pl_val (.bool r5.2) (y_assign rfl) ?_
 refine c_nil ?_
 refine c_seq ?_
 refine c_seq ?_
 obtain ⟨s7, hm9, hs⟩ := bind_some hs
 refine c_mid (I := fun a w8 => ∃ (σ : Nat → Value), a = fr 41 (ovl σ [(1, (.slice pa1 pn1 pc1)), (4, (.slice none 0 0)), (5, (.bool false)), (6, (.slice a4x0 n4x0 c4x0)), (23, (.bool s7))]) ∧ Chg [] w4 w8) ?_ ?_
 ·replace hs := hm9
  have hMid := Chg.refl [] w4
  refine c_region ?_
  refine pl_val (.bool r5.2) (y_move rfl) ?_
  refine pl_val (.bool (!r5.2)) (y_not rfl) ?_
  refine pl_val (.bool (!r5.2)) (y_move rfl) ?_
  rcases bif_some hs with ⟨hc10, hs⟩ | ⟨hc10, hs⟩
  ·skip
   refine pl_not (tg := 18) (by kernel_rfl) (congrArg Value.bool hc10) ?_
   refine pl_not (tg := 18) (by kernel_rfl) (congrArg Value.bool hc10) ?_
   refine pl_not (tg := 18) (by kernel_rfl) (congrArg Value.bool hc10) ?_
   refine pl_not (tg := 18) (by kernel_rfl) (congrArg Value.bool hc10) ?_
   refine pl_val (.bool true) (y_pick_t (congrArg Value.bool hc10) rfl) ?_
   refine c_nil ?_
   cases hs
   exact ⟨_, fr_ovl 41 ⟨rfl, rfl, rfl, rfl, rfl, trivial⟩, hMid⟩
  ·skip
   refine pl_yes (.agg #[(.int .i64 a_.1), (.slice pa0 pn0 pc0)]) (tg := 18) (by kernel_rfl) (congrArg Value.bool hc10) (y_load rfl ((box_load Ag35 Sz35 hb3 [] [(.int .i64 a_.1), (.slice pa0 pn0 pc0)] [] rfl rfl (fun h => nomatch h)) _ (Chg.refl _ _))) ?_
   refine pl_yes (.slice pa1 pn1 pc1) (tg := 18) (by kernel_rfl) (congrArg Value.bool hc10) (y_move rfl) ?_
   obtain ⟨r12, hr12, hs⟩ := bind_some hs
   refine pl_cally (tg := 18) (by kernel_rfl) (congrArg Value.bool hc10) Bd65 rfl (c_impl_isCongruence (M := M) (a_.1, a_.2) p h0 h1 hO.fut hr12) ?_
   rintro _ w11 ⟨rfl, hC11⟩
   have h0 := h0.ext hC11
   have h1 := h1.ext hC11
   have hb3 := hb3.chg hC11 (fun h => nomatch h)
   have hv4x0 := hv4x0.ext hC11
   have hMid := hMid.ext hC11
   have hC := hC.ext hC11
   have hO := hO.ext hC11
   refine pl_yes (.bool (!r12)) (tg := 18) (by kernel_rfl) (congrArg Value.bool hc10) (y_not rfl) ?_
   refine pl_val (.bool (!r12)) (y_pick_f (congrArg Value.bool hc10) rfl) ?_
   refine c_nil ?_
   cases hs
   exact ⟨_, fr_ovl 41 ⟨rfl, rfl, rfl, rfl, rfl, trivial⟩, hMid⟩
 ·rintro a1 w8 ⟨σ, rfl, hCs7⟩
  have h1 := h1.ext hCs7
  have hb3 := hb3.chg hCs7 (fun h => nomatch h)
  have hv4x0 := hv4x0.ext hCs7
  have hC := hC.ext hCs7
  have hO := hO.ext hCs7
  rcases bif_some hs with ⟨hc13, hs⟩ | ⟨hc13, hs⟩
  ·skip
   refine c_condT (congrArg Value.bool hc13) ?_
   refine c_seq (c_region ?_)
   obtain ⟨w14, g14, ew14, eg14, hC14, hb14⟩ := new_block w8 [] 22
   refine pl_val (w' := w14) (.slice (some ⟨g14, 0, none⟩) 0 0) (y_bslice rfl (by rw [ew14, eg14]; kernel_rfl)) ?_
   have h1 := h1.ext hC14
   have hb3 := hb3.chg hC14 (fun h => nomatch h)
   have hv4x0 := hv4x0.ext hC14
   have hC := hC.ext hC14
   have hO := hO.new1 hC14 eg14 hb14.lt
   have hv14 := os_of_box (r := (RT.os 3 (RT.int .i64))) (M := M) (css := []) (fps := []) (xs := ([] : List (List Int))) hb14 trivial (Nat.zero_le _) (List.nodup_cons.2 ⟨(fun h => nomatch h), List.nodup_nil⟩)
   have hv14 : (RT.os 22 (RT.os 3 (RT.int .i64))).val M w14 (.slice (some ⟨g14, 0, none⟩) 0 0) [] [g14] := hv14
   refine pl_val (.slice (some ⟨g14, 0, none⟩) 0 0) (y_assign rfl) ?_
   refine pl_val (.bool false) (y_assign rfl) ?_
   refine c_nil ?_
   refine wp_ret ?_
   cases hs
   have hO := hO.fr1
   have hO := hO.drop
   have hO := hO.fr1
   have hO := hO.drop
   exact ⟨_, (some ⟨g14, 0, none⟩), 0, 0, ([g14]), fr_ovl 41 ⟨rfl, rfl, trivial⟩, hC, hv14, hO.top⟩
  ·skip
   refine c_condF (congrArg Value.bool hc13) ?_
   refine wp_skip ?_
   refine c_seq (c_region ?_)
   obtain ⟨w16, g16, ew16, eg16, hC16, hb16⟩ := new_block w8 [] 22
   refine pl_val (w' := w16) (.slice (some ⟨g16, 0, none⟩) 0 0) (y_bslice rfl (by rw [ew16, eg16]; kernel_rfl)) ?_
   have h1 := h1.ext hC16
   have hb3 := hb3.chg hC16 (fun h => nomatch h)
   have hv4x0 := hv4x0.ext hC16
   have hC := hC.ext hC16
   have hO := hO.new1 hC16 eg16 hb16.lt
   have hv16 := os_of_box (r := (RT.os 3 (RT.int .i64))) (M := M) (css := []) (fps := []) (xs := ([] : List (List Int))) hb16 trivial (Nat.zero_le _) (List.nodup_cons.2 ⟨(fun h => nomatch h), List.nodup_nil⟩)
   have hv16 : (RT.os 22 (RT.os 3 (RT.int .i64))).val M w16 (.slice (some ⟨g16, 0, none⟩) 0 0) [] [g16] := hv16
   refine pl_val (.slice (some ⟨g16, 0, none⟩) 0 0) (y_assign rfl) ?_
   refine c_nil ?_
   refine c_seq ?_
   refine c_seq (c_region ?_)
   refine pl_val (.slice a4x0 n4x0 c4x0) (y_move rfl) ?_
   refine pl_val (.int .i64 (r5.1.length : Int)) (y_len' Sl41 (os_len hv4x0) rfl) ?_
   refine pl_val (.int .i64 0) (y_move rfl) ?_
   refine c_nil ?_
   have hO := hO.fr2
   have hO := hO.drop
   have hv4x0 := os_hole hv4x0
   obtain ⟨o113, hl114, hs⟩ := bind_some hs
   refine wp_block ?_
   refine wp_forC (id := 0) (r5.1.length : Int) (I := fun k111 s109 a w110 => ∃ (σ : Nat → Value) (a115 : Option Addr) (n115 : Nat) (c115 : Nat) (f115 : List Nat) (f117 : List Nat), a = fr 41 (ovl σ [(1, (.slice pa1 pn1 pc1)), (8, (.slice a115 n115 c115)), (26, (.slice a4x0 n4x0 c4x0)), (27, (.int .i64 (r5.1.length : Int))), (28, (.int .i64 k111))]) ∧ Chg [] w w110 ∧ Own (Nw w []) M w110 (f115 ++ (f117 ++ [])) ∧ (RT.rs (RT.int .i64)).val M w110 (.slice pa1 pn1 pc1) p ([]) ∧ (RT.os 22 (RT.hole (RT.os 3 (RT.int .i64)))).val M w110 (.slice a4x0 n4x0 c4x0) s109.2 f117 ∧ (RT.os 22 (RT.os 3 (RT.int .i64))).val M w110 (.slice a115 n115 c115) s109.1 f115) (J := fun s109 a w110 => ∃ (σ : Nat → Value) (a118 : Option Addr) (n118 : Nat) (c118 : Nat) (f118 : List Nat) (f120 : List Nat), a = fr 41 (ovl σ [(8, (.slice a118 n118 c118))]) ∧ Chg [] w w110 ∧ Own (Nw w []) M w110 (f118 ++ (f120 ++ [])) ∧ (RT.rs (RT.int .i64)).val M w110 (.slice pa1 pn1 pc1) p ([]) ∧ (RT.os 22 (RT.hole (RT.os 3 (RT.int .i64)))).val M w110 (.slice a4x0 n4x0 c4x0) s109.2 f120 ∧ (RT.os 22 (RT.os 3 (RT.int .i64))).val M w110 (.slice a118 n118 c118) s109.1 f118) (K := (k_impl_ComplementsOf M w)) ?_ ?_ 0 ([], List.map some r5.1) o113 _ _ ?_ hl114 ?_
   ·rintro k111 s109 a w110 ⟨σ, a115, n115, c115, f115, f117, rfl, hC, hO, h1, hv117, hv115⟩ hlt
    refine c_seq (c_region ?_)
    refine pl_val (.bool (decide (k111 < (r5.1.length : Int)))) (y_lss rfl rfl) ?_
    refine c_nil ?_
    refine c_seq ?_
    refine c_condF (congrArg Value.bool (decide_eq_false hlt)) ?_
    refine wp_exit ?_
    have hO := hO.fr1
    have hO := hO.fr1
    exact ⟨rfl, _, a115, n115, c115, f115, f117, fr_ovl 41 ⟨rfl, trivial⟩, hC, hO, h1, hv117, hv115⟩
   ·rintro k111 s109 o113 a w110 ⟨σ, a115, n115, c115, f115, f117, rfl, hC, hO, h1, hv117, hv115⟩ hlt hw hs
    refine c_seq (c_region ?_)
    refine pl_val (.bool (decide (k111 < (r5.1.length : Int)))) (y_lss rfl rfl) ?_
    refine c_nil ?_
    refine c_seq ?_
    refine c_condT (congrArg Value.bool (decide_eq_true hlt)) ?_
    refine wp_skip ?_
    refine c_seq ?_
    refine wp_block ?_
    refine c_seq (c_region ?_)
    obtain ⟨x121, hx121, hs⟩ := bind_some hs
    obtain ⟨x123, hx123, hs⟩ := bind_some hs
    obtain ⟨g122, f122, hg122, hk122, hp122, ha122, hf122⟩ := os_idx Sl41 Sz22 hv117 (hx121.trans (congrArg some hx123))
    have hb122 := own_row (Frz.hole (Frz.os Frz.int)) ha122 hf122
    have hb122 : (RT.rs (RT.int .i64)).at_ (Less M f117) w110 ⟨g122, 0 + Int.toNat k111 * 1, none⟩ x123 [] := hb122
    refine pl_val (.pointer (some ⟨g122, 0 + Int.toNat k111 * 1, none⟩)) (hp122 _ _ _ _ _ _ _ _ _ rfl rfl) ?_
    obtain ⟨v124, hl124, hrow124, hv124⟩ := at_load1 Ag22 Sz22 rfl rfl hb122
    obtain ⟨a124, n124, c124, rfl⟩ := rs_sl hv124
    refine pl_val (.slice a124 n124 c124) (y_load rfl (hl124 _ (Chg.refl _ _))) ?_
    refine pl_val (.slice a124 n124 c124) (y_assign rfl) ?_
    refine c_nil ?_
    refine c_seq (c_region ?_)
    refine pl_val (.slice pa1 pn1 pc1) (y_move rfl) ?_
    refine pl_val (.slice a124 n124 c124) (y_move rfl) ?_
    have hO := hO.fr1
    obtain ⟨r127, hr127, hs⟩ := bind_some hs
    refine pl_call Bd66 rfl (c_impl_areComplements (M := (Less M f117)) p x123 (h1.sub Less.sub) hv124 hO.less.fut hr127) ?_
    rintro _ w126 ⟨rfl, hC126⟩
    have h1 := h1.ext hC126
    have hv117 := hv117.ext hC126
    have hv115 := hv115.ext hC126
    have hv124 := hv124.ext hC126
    have hrow124 := hrow124.chg hC126 (fun h => nomatch h)
    have hC := hC.ext hC126
    have hO := hO.ext hC126
    refine c_nil ?_
    rcases bif_some hs with ⟨hc128, hs⟩ | ⟨hc128, hs⟩
    ·skip
     refine c_condT (congrArg Value.bool hc128) ?_
     refine c_region ?_
     refine pl_val (.slice a115 n115 c115) (y_move rfl) ?_
     refine pl_val (.slice a124 n124 c124) (y_move rfl) ?_
     obtain ⟨o131, ho131, hs⟩ := bind_some hs
     obtain ⟨x132, hx132, hs⟩ := bind_some hs
     obtain ⟨f130, fp130, hr130, hn130, hp130, hv130⟩ := oh_take (c := [(.slice a124 n124 c124)]) hg122 hv117 (ho131.trans (congrArg some hx132)) hrow124 rfl
     have hO := hO.split hp130
     have hw130 : (RT.os 3 (RT.int .i64)).val M w126 (.slice a124 n124 c124) x132 f130 := ⟨[_], rfl, hr130⟩
     obtain ⟨w129, g129, ew129, eg129, hC129, hb129⟩ := new_block w126 [(.slice a124 n124 c124)] 22
     refine pl_val (w' := w129) (.slice (some ⟨g129, 0, none⟩) 1 1) (y_bslice rfl (by rw [ew129, eg129]; kernel_rfl)) ?_
     have h1 := h1.ext hC129
     have hv130 := hv130.ext hC129
     have hv115 := hv115.ext hC129
     have hw130 := hw130.ext hC129
     have hC := hC.ext hC129
     have hO := hO.new1 hC129 eg129 hb129.lt
     have hO := hO.perm (R := (g129 :: ((f130) ++ ([]))) ++ (fp130 ++ (f115 ++ ([])))) (by simp)
     have hnd129 := hO.nd
     have hv129 := os_of_box (r := (RT.os 3 (RT.int .i64))) (M := M) (css := [[(.slice a124 n124 c124)]]) (fps := [(f130 : List Nat)]) (xs := ([x132] : List (List Int))) hb129 ⟨(os_unval hw130), trivial⟩ (Nat.le_of_ble_eq_true rfl) hnd129
     have hv129 : (RT.os 22 (RT.os 3 (RT.int .i64))).val M w129 (.slice (some ⟨g129, 0, none⟩) 1 1) [x132] (g129 :: ((f130) ++ ([]))) := hv129
     obtain ⟨y135, hy135, hs⟩ := bind_some hs
     have hO := hO.fr2
     obtain ⟨a134, n134, c134, w134, f134, hr134, hC134, hf134, hv134⟩ := app_os Rw41 hy135 hv115 hv129 hO.inM (fun g hg hq => hO.apart g hq (mem_l hg))
     have hG134 := os_block hv115
     refine pl_val (w' := w134) (.slice a134 n134 c134) (y_append rfl rfl (hr134 _)) ?_
     have hO := hO.fr1
     have hO := hO.fr1
     have h1 := h1.mut hC134 (fun g hg => hO.inM g (hG134 g hg)) (fun _ _ h => nomatch h)
     have hv130 := hv130.mut hC134 (fun g hg => hO.inM g (hG134 g hg)) (fun g hg e => hO.apart g (hG134 g hg) (mem_r (mem_l (e))))
     have hC := hC.step hC134 (fun g hg => hO.inN g (hG134 g hg))
     have hO := hO.eat hC134 hf134 (os_nodup hv134) hv134.fpl
     refine pl_val (.slice a134 n134 c134) (y_assign rfl) ?_
     refine c_nil ?_
     refine c_region ?_
     refine pl_val (.int .i64 (w64 (k111 + 1))) (y_add rfl rfl) ?_
     refine pl_val (.int .i64 (w64 (k111 + 1))) (y_move rfl) ?_
     refine c_nil ?_
     cases hs
     have hO := hO.fr1
     have hO := hO.fr1
     exact ⟨_, a134, n134, c134, f134, fp130, fr_ovl 41 ⟨rfl, rfl, rfl, rfl, congrArg (Value.int .i64) hw, trivial⟩, hC, hO, h1, hv130, hv134⟩
    ·skip
     refine c_condF (congrArg Value.bool hc128) ?_
     refine wp_skip ?_
     refine c_region ?_
     refine pl_val (.int .i64 (w64 (k111 + 1))) (y_add rfl rfl) ?_
     refine pl_val (.int .i64 (w64 (k111 + 1))) (y_move rfl) ?_
     refine c_nil ?_
     cases hs
     have hO := hO.fr1
     exact ⟨_, a115, n115, c115, f115, f117, fr_ovl 41 ⟨rfl, rfl, rfl, rfl, congrArg (Value.int .i64) hw, trivial⟩, hC, hO, h1, hv117, hv115⟩
   ·skip
    have hO := hO.fr1
    have hO := hO.fr1
    exact ⟨_, (some ⟨g16, 0, none⟩), 0, 0, ([g16]), f4x0, fr_ovl 41 ⟨rfl, rfl, rfl, rfl, rfl, trivial⟩, hC, hO, h1, hv4x0, hv16⟩
   ·cases o113 with
    | nx _ => exact True.intro
    | rt r_ =>
     have hs := after_rt hs
     intro a1 w1 hK
     cases hs
     exact hK
    | br s109 =>
     have hs := after_br hs
     rintro a1 w110 ⟨σ, a118, n118, c118, f118, f120, rfl, hC, hO, h1, hv120, hv118⟩
     refine c_seq (c_region ?_)
     refine pl_val (.slice a118 n118 c118) (y_move rfl) ?_
     refine pl_val (.slice a118 n118 c118) (y_assign rfl) ?_
     refine pl_val (.bool true) (y_assign rfl) ?_
     refine c_nil ?_
     refine wp_ret ?_
     cases hs
     have hO := hO.fr1
     have hO := hO.drop
     exact ⟨_, a118, n118, c118, f118, fr_ovl 41 ⟨rfl, rfl, trivial⟩, hC, hv118, hO.top⟩

def k_laws_eqIntS (M : Nat → Prop) (w0 : World) (r : Bool) (a : Act) (w : World) : Prop :=
  ∃ (σ : Nat → Value) , a = fr 26 (ovl σ [(4, (.bool r))]) ∧ Chg [] w0 w
def s_laws_eqIntS (a_ : List Int) (b : List Int) : Option (Bool) :=
  (bif ((a_.length : Int) != (b.length : Int)) then some false else (forC (S := Unit) (R := Bool) (fun k12 s10 =>
  (idx a_ k12).bind fun x17 =>
  (idx b k12).bind fun x19 =>
  (bif (x17 != x19) then some (.rt false) else some (.nx ()))) 0 (a_.length : Int) ()).bind fun o14 => after o14 (fun r_ => some r_) (fun s10 =>
  some true))
set_option maxHeartbeats 4000000 in
theorem c_laws_eqIntS {M : Nat → Prop} {w : World} {pa0 : Option Addr} {pn0 pc0 : Nat} {pa1 : Option Addr} {pn1 pc1 : Nat} (a_ : List Int) (b : List Int) (h0 : (RT.rs (RT.int .i64)).val M w (.slice pa0 pn0 pc0) a_ ([])) (h1 : (RT.rs (RT.int .i64)).val M w (.slice pa1 pn1 pc1) b ([])) (hM : ∀ g, w.heap.size ≤ g → M g) {r : Bool} (hs : s_laws_eqIntS a_ b = some r) :
    Gives Try.prog 16 [(.slice pa0 pn0 pc0), (.slice pa1 pn1 pc1)] w (fun v w' => v = (.bool r) ∧ Chg [] w w') := by
 refine calls_fr Try.func16 rfl Try.ntmps16 (Nat.le_of_ble_eq_true rfl) ?_
 have hO := Own.start (N := Nw w []) hM Nw.fut
 have hC := Chg.refl [] w
 unfold s_laws_eqIntS at hs
 refine wp_mono (Q := KPost (k_laws_eqIntS M w r)) ?_ (fun e a w1 h => ?_)
 rotate_left
 ·cases e
  case ret =>
   obtain ⟨σ, rfl, hrest⟩ := h
   exact ret1x Try.results16 (res_tmp rfl) ⟨rfl, hrest⟩
  all_goals exact (h : False).elim
 refine c_seq (c_region ?_)
 refine pl_val (.bool false) (y_assign rfl) ?_
 refine c_nil ?_
 refine c_seq ?_
 refine c_seq (c_region ?_)
 refine pl_val (.slice pa0 pn0 pc0) (y_move rfl) ?_
 refine pl_val (.int .i64 (a_.length : Int)) (y_len' Sl22 (rs_len h0) rfl) ?_
 refine pl_val (.slice pa1 pn1 pc1) (y_move rfl) ?_
 refine pl_val (.int .i64 (b.length : Int)) (y_len' Sl22 (rs_len h1) rfl) ?_
 refine pl_val (.bool ((a_.length : Int) != (b.length : Int))) (y_neq rfl rfl) ?_
 refine c_nil ?_
 rcases bif_some hs with ⟨hc3, hs⟩ | ⟨hc3, hs⟩
 ·skip
  refine c_condT (congrArg Value.bool hc3) ?_
  refine c_seq (c_region ?_)
  refine pl_val (.bool false) (y_assign rfl) ?_
  refine c_nil ?_
  refine wp_ret ?_
  cases hs
  exact ⟨_, fr_ovl 26 ⟨rfl, trivial⟩, hC⟩
 ·skip
  refine c_condF (congrArg Value.bool hc3) ?_
  refine wp_skip ?_
  refine c_seq ?_
  refine c_seq (c_region ?_)
  refine pl_val (.int .i64 0) (y_assign rfl) ?_
  refine c_nil ?_
  obtain ⟨o14, hl15, hs⟩ := bind_some hs
  refine wp_block ?_
  refine wp_forC (id := 0) (a_.length : Int) (I := fun k12 s10 a w11 => ∃ (σ : Nat → Value), a = fr 26 (ovl σ [(0, (.slice pa0 pn0 pc0)), (1, (.slice pa1 pn1 pc1)), (5, (.int .i64 k12))]) ∧ Chg [] w w11 ∧ Own (Nw w []) M w11 ([]) ∧ (RT.rs (RT.int .i64)).val M w11 (.slice pa0 pn0 pc0) a_ ([]) ∧ (RT.rs (RT.int .i64)).val M w11 (.slice pa1 pn1 pc1) b ([])) (J := fun s10 a w11 => ∃ (σ : Nat → Value), a = fr 26 (ovl σ []) ∧ Chg [] w w11 ∧ Own (Nw w []) M w11 ([]) ∧ (RT.rs (RT.int .i64)).val M w11 (.slice pa0 pn0 pc0) a_ ([]) ∧ (RT.rs (RT.int .i64)).val M w11 (.slice pa1 pn1 pc1) b ([])) (K := (k_laws_eqIntS M w)) ?_ ?_ 0 () o14 _ _ ?_ hl15 ?_
  ·rintro k12 s10 a w11 ⟨σ, rfl, hC, hO, h0, h1⟩ hlt
   refine c_seq ?_
   refine c_seq (c_region ?_)
   refine pl_val (.int .i64 k12) (y_move rfl) ?_
   refine pl_val (.slice pa0 pn0 pc0) (y_move rfl) ?_
   refine pl_val (.int .i64 (a_.length : Int)) (y_len' Sl22 (rs_len h0) rfl) ?_
   refine pl_val (.bool (decide (k12 < (a_.length : Int)))) (y_lss rfl rfl) ?_
   refine c_nil ?_
   refine c_condF (congrArg Value.bool (decide_eq_false hlt)) ?_
   refine wp_exit ?_
   exact ⟨rfl, _, fr_ovl 26 trivial, hC, hO, h0, h1⟩
  ·rintro k12 s10 o14 a w11 ⟨σ, rfl, hC, hO, h0, h1⟩ hlt hw hs
   refine c_seq ?_
   refine c_seq (c_region ?_)
   refine pl_val (.int .i64 k12) (y_move rfl) ?_
   refine pl_val (.slice pa0 pn0 pc0) (y_move rfl) ?_
   refine pl_val (.int .i64 (a_.length : Int)) (y_len' Sl22 (rs_len h0) rfl) ?_
   refine pl_val (.bool (decide (k12 < (a_.length : Int)))) (y_lss rfl rfl) ?_
   refine c_nil ?_
   refine c_condT (congrArg Value.bool (decide_eq_true hlt)) ?_
   refine wp_skip ?_
   refine c_seq ?_
   refine wp_block ?_
   refine c_seq ?_
   refine x_start [] Mx rfl ?_
   have hCw16 := Chg.drew w11
   generalize World.drew w11 = w16 at hCw16 ⊢
   have h0 := h0.ext hCw16
   have h1 := h1.ext hCw16
   have hC := hC.ext hCw16
   have hO := hO.ext hCw16
   have hS := Chg.refl [] w16
   refine x_p 0 (.slice pa0 pn0 pc0) rfl (by kernel_rfl)  (fun _ => y_move rfl) (fun _ => hS) ?_
   refine x_p 1 (.int .i64 k12) rfl (by kernel_rfl)  (fun _ => y_move rfl) (fun _ => hS) ?_
   obtain ⟨x17, hx17, hs⟩ := bind_some hs
   obtain ⟨b18, o18, hp18, ha18⟩ := rs_idx Sl22 Sz3 h0 hx17
   refine x_p 2 (.pointer (some ⟨b18, o18, none⟩)) rfl (by kernel_rfl)  (fun _ => hp18 _ _ _ _ _ _ _ _ _ rfl rfl) (fun _ => hS) ?_
   refine x_l 3 (.int .i64 x17) rfl (by kernel_rfl)  (fun w' hw' => y_load rfl ((at_load_int Ag3 Sz3 ha18) w' hw')) hS ?_
   refine x_p 4 (.slice pa1 pn1 pc1) rfl (by kernel_rfl)  (fun _ => y_move rfl) (fun _ => hS) ?_
   refine x_p 5 (.int .i64 k12) rfl (by kernel_rfl)  (fun _ => y_move rfl) (fun _ => hS) ?_
   obtain ⟨x19, hx19, hs⟩ := bind_some hs
   obtain ⟨b20, o20, hp20, ha20⟩ := rs_idx Sl22 Sz3 h1 hx19
   refine x_p 6 (.pointer (some ⟨b20, o20, none⟩)) rfl (by kernel_rfl)  (fun _ => hp20 _ _ _ _ _ _ _ _ _ rfl rfl) (fun _ => hS) ?_
   refine x_l 7 (.int .i64 x19) rfl (by kernel_rfl)  (fun w' hw' => y_load rfl ((at_load_int Ag3 Sz3 ha20) w' hw')) hS ?_
   refine x_p 8 (.bool (x17 != x19)) rfl (by kernel_rfl)  (fun _ => y_neq rfl rfl) (fun _ => hS) ?_
   refine x_end (by kernel_rfl) ?_
   clear hS
   rcases bif_some hs with ⟨hc21, hs⟩ | ⟨hc21, hs⟩
   ·skip
    refine c_condT (congrArg Value.bool hc21) ?_
    refine c_seq (c_region ?_)
    refine pl_val (.bool false) (y_assign rfl) ?_
    refine c_nil ?_
    refine wp_ret ?_
    cases hs
    exact ⟨_, fr_ovl 26 ⟨rfl, trivial⟩, hC⟩
   ·skip
    refine c_condF (congrArg Value.bool hc21) ?_
    refine wp_skip ?_
    refine c_region ?_
    refine pl_val (.int .i64 k12) (y_move rfl) ?_
    refine pl_val (.int .i64 (w64 (k12 + 1))) (y_add rfl rfl) ?_
    refine pl_val (.int .i64 (w64 (k12 + 1))) (y_assign rfl) ?_
    refine c_nil ?_
    cases hs
    exact ⟨_, fr_ovl 26 ⟨rfl, rfl, congrArg (Value.int .i64) hw, trivial⟩, hC, hO, h0, h1⟩
  ·skip
   exact ⟨_, fr_ovl 26 ⟨rfl, rfl, rfl, trivial⟩, hC, hO, h0, h1⟩
  ·cases o14 with
   | nx _ => exact True.intro
   | rt r_ =>
    have hs := after_rt hs
    intro a1 w1 hK
    cases hs
    exact hK
   | br s10 =>
    have hs := after_br hs
    rintro a1 w11 ⟨σ, rfl, hC, hO, h0, h1⟩
    refine c_seq (c_region ?_)
    refine pl_val (.bool true) (y_assign rfl) ?_
    refine c_nil ?_
    refine wp_ret ?_
    cases hs
    exact ⟨_, fr_ovl 26 ⟨rfl, trivial⟩, hC⟩

theorem Bd16 : Bodied Try.prog 16 := bodied Try.func16 (by kernel_rfl) rfl

def k_laws_eqIntSS (M : Nat → Prop) (w0 : World) (r : Bool) (a : Act) (w : World) : Prop :=
  ∃ (σ : Nat → Value) , a = fr 27 (ovl σ [(4, (.bool r))]) ∧ Chg [] w0 w
def s_laws_eqIntSS (a_ : List (List Int)) (b : List (List Int)) : Option (Bool) :=
  (bif ((a_.length : Int) != (b.length : Int)) then some false else (forC (S := Unit) (R := Bool) (fun k18 s16 =>
  (idx a_ k18).bind fun x23 =>
  (idx b k18).bind fun x27 =>
  (s_laws_eqIntS x23 x27).bind fun r32 =>
  (bif (!r32) then some (.rt false) else some (.nx ()))) 0 (a_.length : Int) ()).bind fun o20 => after o20 (fun r_ => some r_) (fun s16 =>
  some true))
set_option maxHeartbeats 4000000 in
theorem c_laws_eqIntSS {M : Nat → Prop} {w : World} {pa0 : Option Addr} {pn0 pc0 : Nat} {pa1 : Option Addr} {pn1 pc1 : Nat} (a_ : List (List Int)) (b : List (List Int)) (h0 : (RT.rs (RT.rs (RT.int .i64))).val M w (.slice pa0 pn0 pc0) a_ ([])) (h1 : (RT.rs (RT.rs (RT.int .i64))).val M w (.slice pa1 pn1 pc1) b ([])) (hM : ∀ g, w.heap.size ≤ g → M g) {r : Bool} (hs : s_laws_eqIntSS a_ b = some r) :
    Gives Try.prog 30 [(.slice pa0 pn0 pc0), (.slice pa1 pn1 pc1)] w (fun v w' => v = (.bool r) ∧ Chg [] w w') := by
 refine calls_fr Try.func30 rfl Try.ntmps30 (Nat.le_of_ble_eq_true rfl) ?_
 have hO := Own.start (N := Nw w []) hM Nw.fut
 have hC := Chg.refl [] w
 unfold s_laws_eqIntSS at hs
 refine wp_mono (Q := KPost (k_laws_eqIntSS M w r)) ?_ (fun e a w1 h => ?_)
 rotate_left
 ·cases e
  case ret =>
   obtain ⟨σ, rfl, hrest⟩ := h
   exact ret1x Try.results30 (res_tmp rfl) ⟨rfl, hrest⟩
  all_goals exact (h : False).elim
 refine c_seq (c_region ?_)
 refine pl_val (.bool false) (y_assign rfl) ?_
 refine c_nil ?_
 refine c_seq ?_
 refine c_seq (c_region ?_)
 refine pl_val (.slice pa0 pn0 pc0) (y_move rfl) ?_
 refine pl_val (.int .i64 (a_.length : Int)) (y_len' Sl41 (rs_len h0) rfl) ?_
 refine pl_val (.slice pa1 pn1 pc1) (y_move rfl) ?_
 refine pl_val (.int .i64 (b.length : Int)) (y_len' Sl41 (rs_len h1) rfl) ?_
 refine pl_val (.bool ((a_.length : Int) != (b.length : Int))) (y_neq rfl rfl) ?_
 refine c_nil ?_
 rcases bif_some hs with ⟨hc3, hs⟩ | ⟨hc3, hs⟩
 ·skip
  refine c_condT (congrArg Value.bool hc3) ?_
  refine c_seq (c_region ?_)
  refine pl_val (.bool false) (y_assign rfl) ?_
  refine c_nil ?_
  refine wp_ret ?_
  cases hs
  exact ⟨_, fr_ovl 27 ⟨rfl, trivial⟩, hC⟩
 ·skip
  refine c_condF (congrArg Value.bool hc3) ?_
  refine wp_skip ?_
  refine c_seq ?_
  refine c_seq (c_region ?_)
  refine pl_val (.int .i64 0) (y_assign rfl) ?_
  refine c_nil ?_
  obtain ⟨o20, hl21, hs⟩ := bind_some hs
  refine wp_block ?_
  refine wp_forC (id := 0) (a_.length : Int) (I := fun k18 s16 a w17 => ∃ (σ : Nat → Value), a = fr 27 (ovl σ [(0, (.slice pa0 pn0 pc0)), (1, (.slice pa1 pn1 pc1)), (5, (.int .i64 k18))]) ∧ Chg [] w w17 ∧ Own (Nw w []) M w17 ([]) ∧ (RT.rs (RT.rs (RT.int .i64))).val M w17 (.slice pa0 pn0 pc0) a_ ([]) ∧ (RT.rs (RT.rs (RT.int .i64))).val M w17 (.slice pa1 pn1 pc1) b ([])) (J := fun s16 a w17 => ∃ (σ : Nat → Value), a = fr 27 (ovl σ []) ∧ Chg [] w w17 ∧ Own (Nw w []) M w17 ([]) ∧ (RT.rs (RT.rs (RT.int .i64))).val M w17 (.slice pa0 pn0 pc0) a_ ([]) ∧ (RT.rs (RT.rs (RT.int .i64))).val M w17 (.slice pa1 pn1 pc1) b ([])) (K := (k_laws_eqIntSS M w)) ?_ ?_ 0 () o20 _ _ ?_ hl21 ?_
  ·rintro k18 s16 a w17 ⟨σ, rfl, hC, hO, h0, h1⟩ hlt
   refine c_seq ?_
   refine c_seq (c_region ?_)
   refine pl_val (.int .i64 k18) (y_move rfl) ?_
   refine pl_val (.slice pa0 pn0 pc0) (y_move rfl) ?_
   refine pl_val (.int .i64 (a_.length : Int)) (y_len' Sl41 (rs_len h0) rfl) ?_
   refine pl_val (.bool (decide (k18 < (a_.length : Int)))) (y_lss rfl rfl) ?_
   refine c_nil ?_
   refine c_condF (congrArg Value.bool (decide_eq_false hlt)) ?_
   refine wp_exit ?_
   exact ⟨rfl, _, fr_ovl 27 trivial, hC, hO, h0, h1⟩
  ·rintro k18 s16 o20 a w17 ⟨σ, rfl, hC, hO, h0, h1⟩ hlt hw hs
   refine c_seq ?_
   refine c_seq (c_region ?_)
   refine pl_val (.int .i64 k18) (y_move rfl) ?_
   refine pl_val (.slice pa0 pn0 pc0) (y_move rfl) ?_
   refine pl_val (.int .i64 (a_.length : Int)) (y_len' Sl41 (rs_len h0) rfl) ?_
   refine pl_val (.bool (decide (k18 < (a_.length : Int)))) (y_lss rfl rfl) ?_
   refine c_nil ?_
   refine c_condT (congrArg Value.bool (decide_eq_true hlt)) ?_
   refine wp_skip ?_
   refine c_seq ?_
   refine wp_block ?_
   refine c_seq ?_
   refine x_start [] Mx rfl ?_
   have hCw22 := Chg.drew w17
   generalize World.drew w17 = w22 at hCw22 ⊢
   have h0 := h0.ext hCw22
   have h1 := h1.ext hCw22
   have hC := hC.ext hCw22
   have hO := hO.ext hCw22
   have hS := Chg.refl [] w22
   refine x_p 0 (.slice pa0 pn0 pc0) rfl (by kernel_rfl)  (fun _ => y_move rfl) (fun _ => hS) ?_
   refine x_p 1 (.int .i64 k18) rfl (by kernel_rfl)  (fun _ => y_move rfl) (fun _ => hS) ?_
   obtain ⟨x23, hx23, hs⟩ := bind_some hs
   obtain ⟨b24, o24, hp24, ha24⟩ := rs_idx Sl41 Sz22 h0 hx23
   refine x_p 2 (.pointer (some ⟨b24, o24, none⟩)) rfl (by kernel_rfl)  (fun _ => hp24 _ _ _ _ _ _ _ _ _ rfl rfl) (fun _ => hS) ?_
   obtain ⟨v25, hl25, hv25⟩ := at_load Ag22 Sz22 (fun _ => rfl) ha24
   obtain ⟨a25, n25, c25, rfl⟩ := rs_sl hv25
   refine x_l 3 (.slice a25 n25 c25) rfl (by kernel_rfl)  (fun w' hw' => y_load rfl (hl25 w' hw')) hS ?_
   refine x_p 4 (.slice pa1 pn1 pc1) rfl (by kernel_rfl)  (fun _ => y_move rfl) (fun _ => hS) ?_
   refine x_p 5 (.int .i64 k18) rfl (by kernel_rfl)  (fun _ => y_move rfl) (fun _ => hS) ?_
   obtain ⟨x27, hx27, hs⟩ := bind_some hs
   obtain ⟨b28, o28, hp28, ha28⟩ := rs_idx Sl41 Sz22 h1 hx27
   refine x_p 6 (.pointer (some ⟨b28, o28, none⟩)) rfl (by kernel_rfl)  (fun _ => hp28 _ _ _ _ _ _ _ _ _ rfl rfl) (fun _ => hS) ?_
   obtain ⟨v29, hl29, hv29⟩ := at_load Ag22 Sz22 (fun _ => rfl) ha28
   obtain ⟨a29, n29, c29, rfl⟩ := rs_sl hv29
   refine x_l 7 (.slice a29 n29 c29) rfl (by kernel_rfl)  (fun w' hw' => y_load rfl (hl29 w' hw')) hS ?_
   refine x_one (i := 8) (by kernel_rfl) ?_
   obtain ⟨r32, hr32, hs⟩ := bind_some hs
   refine xk_call (b := false) rfl  Bd16 rfl (c_laws_eqIntS (M := M) x23 x27 hv25 hv29 hO.fut hr32) rfl (by rintro _ _ _ ⟨rfl, hC31⟩; exact hS.ext hC31) ?_
   rintro _ w31 ⟨rfl, hC31⟩
   have h0 := h0.ext hC31
   have h1 := h1.ext hC31
   have hv25 := hv25.ext hC31
   have hv29 := hv29.ext hC31
   have hC := hC.ext hC31
   have hO := hO.ext hC31
   have hS := hS.ext hC31
   refine x_p 9 (.bool (!r32)) rfl (by kernel_rfl)  (fun _ => y_not rfl) (fun _ => hS) ?_
   refine x_end (by kernel_rfl) ?_
   clear hS
   rcases bif_some hs with ⟨hc33, hs⟩ | ⟨hc33, hs⟩
   ·skip
    refine c_condT (congrArg Value.bool hc33) ?_
    refine c_seq (c_region ?_)
    refine pl_val (.bool false) (y_assign rfl) ?_
    refine c_nil ?_
    refine wp_ret ?_
    cases hs
    exact ⟨_, fr_ovl 27 ⟨rfl, trivial⟩, hC⟩
   ·skip
    refine c_condF (congrArg Value.bool hc33) ?_
    refine wp_skip ?_
    refine c_region ?_
    refine pl_val (.int .i64 k18) (y_move rfl) ?_
    refine pl_val (.int .i64 (w64 (k18 + 1))) (y_add rfl rfl) ?_
    refine pl_val (.int .i64 (w64 (k18 + 1))) (y_assign rfl) ?_
    refine c_nil ?_
    cases hs
    exact ⟨_, fr_ovl 27 ⟨rfl, rfl, congrArg (Value.int .i64) hw, trivial⟩, hC, hO, h0, h1⟩
  ·skip
   exact ⟨_, fr_ovl 27 ⟨rfl, rfl, rfl, trivial⟩, hC, hO, h0, h1⟩
  ·cases o20 with
   | nx _ => exact True.intro
   | rt r_ =>
    have hs := after_rt hs
    intro a1 w1 hK
    cases hs
    exact hK
   | br s16 =>
    have hs := after_br hs
    rintro a1 w17 ⟨σ, rfl, hC, hO, h0, h1⟩
    refine c_seq (c_region ?_)
    refine pl_val (.bool true) (y_assign rfl) ?_
    refine c_nil ?_
    refine wp_ret ?_
    cases hs
    exact ⟨_, fr_ovl 27 ⟨rfl, trivial⟩, hC⟩

def k_laws_eqOp (M : Nat → Prop) (w0 : World) (r : Bool) (a : Act) (w : World) : Prop :=
  ∃ (σ : Nat → Value) , a = fr 16 (ovl σ [(4, (.bool r))]) ∧ Chg [] w0 w
def s_laws_eqOp (a_ : Int × (List Int)) (b : Int × (List Int)) : Option (Bool) :=
  (bif (a_.1 != b.1) then some false else (s_laws_eqIntS a_.2 b.2).bind fun r7 =>
  (bif (!r7) then some false else some true))
set_option maxHeartbeats 4000000 in
theorem c_laws_eqOp {M : Nat → Prop} {w : World} {pa0 : Option Addr} {pn0 pc0 : Nat} {pa1 : Option Addr} {pn1 pc1 : Nat} (a_ : Int × (List Int)) (b : Int × (List Int)) (h0 : (RT.rs (RT.int .i64)).val M w (.slice pa0 pn0 pc0) a_.2 ([])) (h1 : (RT.rs (RT.int .i64)).val M w (.slice pa1 pn1 pc1) b.2 ([])) (hM : ∀ g, w.heap.size ≤ g → M g) {r : Bool} (hs : s_laws_eqOp a_ b = some r) :
    Gives Try.prog 85 [(.agg #[(.int .i64 a_.1), (.slice pa0 pn0 pc0)]), (.agg #[(.int .i64 b.1), (.slice pa1 pn1 pc1)])] w (fun v w' => v = (.bool r) ∧ Chg [] w w') := by
 refine calls_fr Try.func85 rfl Try.ntmps85 (Nat.le_of_ble_eq_true rfl) ?_
 have hO := Own.start (N := Nw w []) hM Nw.fut
 have hC := Chg.refl [] w
 unfold s_laws_eqOp at hs
 refine wp_mono (Q := KPost (k_laws_eqOp M w r)) ?_ (fun e a w1 h => ?_)
 rotate_left
 ·cases e
  case ret =>
   obtain ⟨σ, rfl, hrest⟩ := h
   exact ret1x Try.results85 (res_tmp rfl) ⟨rfl, hrest⟩
  all_goals exact (h : False).elim
 refine c_seq (c_region ?_)
 obtain ⟨w3, g3, ew3, eg3, hC3, hb3⟩ := new_block w [(.int .i64 a_.1), (.slice pa0 pn0 pc0)] 81
 refine pl_val (w' := w3) (.pointer (some ⟨g3, 0, none⟩)) (y_box rfl (by rw [ew3, eg3]; kernel_rfl)) ?_
 have h0 := h0.ext hC3
 have h1 := h1.ext hC3
 have hC := hC.ext hC3
 have hO := hO.new1 hC3 eg3 hb3.lt
 obtain ⟨w4, g4, ew4, eg4, hC4, hb4⟩ := new_block w3 [(.int .i64 b.1), (.slice pa1 pn1 pc1)] 81
 refine pl_val (w' := w4) (.pointer (some ⟨g4, 0, none⟩)) (y_box rfl (by rw [ew4, eg4]; kernel_rfl)) ?_
 have h0 := h0.ext hC4
 have h1 := h1.ext hC4
 have hb3 := hb3.chg hC4 (fun h => nomatch h)
 have hC := hC.ext hC4
 have hO := hO.new1 hC4 eg4 hb4.lt
 refine pl_val (.bool false) (y_assign rfl) ?_
 refine c_nil ?_
 refine c_seq ?_
 refine c_seq (c_region ?_)
 refine pl_val (.pointer (some ⟨g3, 0, none⟩)) (y_faddr rfl Fa81x0) ?_
 refine pl_val (.int .i64 a_.1) (y_load rfl ((box_load Ag3 Sz3 hb3 [] [(.int .i64 a_.1)] [(.slice pa0 pn0 pc0)] rfl rfl (fun _ => rfl)) _ (Chg.refl _ _))) ?_
 refine pl_val (.pointer (some ⟨g4, 0, none⟩)) (y_faddr rfl Fa81x0) ?_
 refine pl_val (.int .i64 b.1) (y_load rfl ((box_load Ag3 Sz3 hb4 [] [(.int .i64 b.1)] [(.slice pa1 pn1 pc1)] rfl rfl (fun _ => rfl)) _ (Chg.refl _ _))) ?_
 refine pl_val (.bool (a_.1 != b.1)) (y_neq rfl rfl) ?_
 refine c_nil ?_
 rcases bif_some hs with ⟨hc5, hs⟩ | ⟨hc5, hs⟩
 ·skip
  refine c_condT (congrArg Value.bool hc5) ?_
  refine c_seq (c_region ?_)
  refine pl_val (.bool false) (y_assign rfl) ?_
  refine c_nil ?_
  refine wp_ret ?_
  cases hs
  exact ⟨_, fr_ovl 16 ⟨rfl, trivial⟩, hC⟩
 ·skip
  refine c_condF (congrArg Value.bool hc5) ?_
  refine wp_skip ?_
  refine c_seq ?_
  refine c_seq (c_region ?_)
  refine pl_val (.pointer (some ⟨g3, 1, none⟩)) (y_faddr rfl Fa81x1) ?_
  refine pl_val (.slice pa0 pn0 pc0) (y_load rfl ((box_load Ag22 Sz22 hb3 [(.int .i64 a_.1)] [(.slice pa0 pn0 pc0)] [] rfl rfl (fun _ => rfl)) _ (Chg.refl _ _))) ?_
  refine pl_val (.pointer (some ⟨g4, 1, none⟩)) (y_faddr rfl Fa81x1) ?_
  refine pl_val (.slice pa1 pn1 pc1) (y_load rfl ((box_load Ag22 Sz22 hb4 [(.int .i64 b.1)] [(.slice pa1 pn1 pc1)] [] rfl rfl (fun _ => rfl)) _ (Chg.refl _ _))) ?_
  obtain ⟨r7, hr7, hs⟩ := bind_some hs
  refine pl_call Bd16 rfl (c_laws_eqIntS (M := M) a_.2 b.2 h0 h1 hO.fut hr7) ?_
  rintro _ w6 ⟨rfl, hC6⟩
  have h0 := h0.ext hC6
  have h1 := h1.ext hC6
  have hb3 := hb3.chg hC6 (fun h => nomatch h)
  have hb4 := hb4.chg hC6 (fun h => nomatch h)
  have hC := hC.ext hC6
  have hO := hO.ext hC6
  refine pl_val (.bool (!r7)) (y_not rfl) ?_
  refine c_nil ?_
  rcases bif_some hs with ⟨hc8, hs⟩ | ⟨hc8, hs⟩
  ·skip
   refine c_condT (congrArg Value.bool hc8) ?_
   refine c_seq (c_region ?_)
   refine pl_val (.bool false) (y_assign rfl) ?_
   refine c_nil ?_
   refine wp_ret ?_
   cases hs
   exact ⟨_, fr_ovl 16 ⟨rfl, trivial⟩, hC⟩
  ·skip
   refine c_condF (congrArg Value.bool hc8) ?_
   refine wp_skip ?_
   refine c_seq (c_region ?_)
   refine pl_val (.bool true) (y_assign rfl) ?_
   refine c_nil ?_
   refine wp_ret ?_
   cases hs
   exact ⟨_, fr_ovl 16 ⟨rfl, trivial⟩, hC⟩

theorem Bd85 : Bodied Try.prog 85 := bodied Try.func85 (by kernel_rfl) rfl

def k_laws_eqOpS (M : Nat → Prop) (w0 : World) (r : Bool) (a : Act) (w : World) : Prop :=
  ∃ (σ : Nat → Value) , a = fr 27 (ovl σ [(4, (.bool r))]) ∧ Chg [] w0 w
def s_laws_eqOpS (a_ : List (Int × (List Int))) (b : List (Int × (List Int))) : Option (Bool) :=
  (bif ((a_.length : Int) != (b.length : Int)) then some false else (forC (S := Unit) (R := Bool) (fun k18 s16 =>
  (idx a_ k18).bind fun x23 =>
  (idx b k18).bind fun x27 =>
  (s_laws_eqOp (x23.1, x23.2) (x27.1, x27.2)).bind fun r32 =>
  (bif (!r32) then some (.rt false) else some (.nx ()))) 0 (a_.length : Int) ()).bind fun o20 => after o20 (fun r_ => some r_) (fun s16 =>
  some true))
set_option maxHeartbeats 4000000 in
theorem c_laws_eqOpS {M : Nat → Prop} {w : World} {pa0 : Option Addr} {pn0 pc0 : Nat} {pa1 : Option Addr} {pn1 pc1 : Nat} (a_ : List (Int × (List Int))) (b : List (Int × (List Int))) (h0 : (RT.rs (RT.pr (RT.int .i64) (RT.rs (RT.int .i64)))).val M w (.slice pa0 pn0 pc0) a_ ([])) (h1 : (RT.rs (RT.pr (RT.int .i64) (RT.rs (RT.int .i64)))).val M w (.slice pa1 pn1 pc1) b ([])) (hM : ∀ g, w.heap.size ≤ g → M g) {r : Bool} (hs : s_laws_eqOpS a_ b = some r) :
    Gives Try.prog 55 [(.slice pa0 pn0 pc0), (.slice pa1 pn1 pc1)] w (fun v w' => v = (.bool r) ∧ Chg [] w w') := by
 refine calls_fr Try.func55 rfl Try.ntmps55 (Nat.le_of_ble_eq_true rfl) ?_
 have hO := Own.start (N := Nw w []) hM Nw.fut
 have hC := Chg.refl [] w
 unfold s_laws_eqOpS at hs
 refine wp_mono (Q := KPost (k_laws_eqOpS M w r)) ?_ (fun e a w1 h => ?_)
 rotate_left
 ·cases e
  case ret =>
   obtain ⟨σ, rfl, hrest⟩ := h
   exact ret1x Try.results55 (res_tmp rfl) ⟨rfl, hrest⟩
  all_goals exact (h : False).elim
 refine c_seq (c_region ?_)
 refine pl_val (.bool false) (y_assign rfl) ?_
 refine c_nil ?_
 refine c_seq ?_
 refine c_seq (c_region ?_)
 refine pl_val (.slice pa0 pn0 pc0) (y_move rfl) ?_
 refine pl_val (.int .i64 (a_.length : Int)) (y_len' Sl33 (rs_len h0) rfl) ?_
 refine pl_val (.slice pa1 pn1 pc1) (y_move rfl) ?_
 refine pl_val (.int .i64 (b.length : Int)) (y_len' Sl33 (rs_len h1) rfl) ?_
 refine pl_val (.bool ((a_.length : Int) != (b.length : Int))) (y_neq rfl rfl) ?_
 refine c_nil ?_
 rcases bif_some hs with ⟨hc3, hs⟩ | ⟨hc3, hs⟩
 ·skip
  refine c_condT (congrArg Value.bool hc3) ?_
  refine c_seq (c_region ?_)
  refine pl_val (.bool false) (y_assign rfl) ?_
  refine c_nil ?_
  refine wp_ret ?_
  cases hs
  exact ⟨_, fr_ovl 27 ⟨rfl, trivial⟩, hC⟩
 ·skip
  refine c_condF (congrArg Value.bool hc3) ?_
  refine wp_skip ?_
  refine c_seq ?_
  refine c_seq (c_region ?_)
  refine pl_val (.int .i64 0) (y_assign rfl) ?_
  refine c_nil ?_
  obtain ⟨o20, hl21, hs⟩ := bind_some hs
  refine wp_block ?_
  refine wp_forC (id := 0) (a_.length : Int) (I := fun k18 s16 a w17 => ∃ (σ : Nat → Value), a = fr 27 (ovl σ [(0, (.slice pa0 pn0 pc0)), (1, (.slice pa1 pn1 pc1)), (5, (.int .i64 k18))]) ∧ Chg [] w w17 ∧ Own (Nw w []) M w17 ([]) ∧ (RT.rs (RT.pr (RT.int .i64) (RT.rs (RT.int .i64)))).val M w17 (.slice pa0 pn0 pc0) a_ ([]) ∧ (RT.rs (RT.pr (RT.int .i64) (RT.rs (RT.int .i64)))).val M w17 (.slice pa1 pn1 pc1) b ([])) (J := fun s16 a w17 => ∃ (σ : Nat → Value), a = fr 27 (ovl σ []) ∧ Chg [] w w17 ∧ Own (Nw w []) M w17 ([]) ∧ (RT.rs (RT.pr (RT.int .i64) (RT.rs (RT.int .i64)))).val M w17 (.slice pa0 pn0 pc0) a_ ([]) ∧ (RT.rs (RT.pr (RT.int .i64) (RT.rs (RT.int .i64)))).val M w17 (.slice pa1 pn1 pc1) b ([])) (K := (k_laws_eqOpS M w)) ?_ ?_ 0 () o20 _ _ ?_ hl21 ?_
  ·rintro k18 s16 a w17 ⟨σ, rfl, hC, hO, h0, h1⟩ hlt
   refine c_seq ?_
   refine c_seq (c_region ?_)
   refine pl_val (.int .i64 k18) (y_move rfl) ?_
   refine pl_val (.slice pa0 pn0 pc0) (y_move rfl) ?_
   refine pl_val (.int .i64 (a_.length : Int)) (y_len' Sl33 (rs_len h0) rfl) ?_
   refine pl_val (.bool (decide (k18 < (a_.length : Int)))) (y_lss rfl rfl) ?_
   refine c_nil ?_
   refine c_condF (congrArg Value.bool (decide_eq_false hlt)) ?_
   refine wp_exit ?_
   exact ⟨rfl, _, fr_ovl 27 trivial, hC, hO, h0, h1⟩
  ·rintro k18 s16 o20 a w17 ⟨σ, rfl, hC, hO, h0, h1⟩ hlt hw hs
   refine c_seq ?_
   refine c_seq (c_region ?_)
   refine pl_val (.int .i64 k18) (y_move rfl) ?_
   refine pl_val (.slice pa0 pn0 pc0) (y_move rfl) ?_
   refine pl_val (.int .i64 (a_.length : Int)) (y_len' Sl33 (rs_len h0) rfl) ?_
   refine pl_val (.bool (decide (k18 < (a_.length : Int)))) (y_lss rfl rfl) ?_
   refine c_nil ?_
   refine c_condT (congrArg Value.bool (decide_eq_true hlt)) ?_
   refine wp_skip ?_
   refine c_seq ?_
   refine wp_block ?_
   refine c_seq ?_
   refine x_start [] Mx rfl ?_
   have hCw22 := Chg.drew w17
   generalize World.drew w17 = w22 at hCw22 ⊢
   have h0 := h0.ext hCw22
   have h1 := h1.ext hCw22
   have hC := hC.ext hCw22
   have hO := hO.ext hCw22
   have hS := Chg.refl [] w22
   refine x_p 0 (.slice pa0 pn0 pc0) rfl (by kernel_rfl)  (fun _ => y_move rfl) (fun _ => hS) ?_
   refine x_p 1 (.int .i64 k18) rfl (by kernel_rfl)  (fun _ => y_move rfl) (fun _ => hS) ?_
   obtain ⟨x23, hx23, hs⟩ := bind_some hs
   obtain ⟨b24, o24, hp24, ha24⟩ := rs_idx Sl33 Sz81 h0 hx23
   refine x_p 2 (.pointer (some ⟨b24, o24, none⟩)) rfl (by kernel_rfl)  (fun _ => hp24 _ _ _ _ _ _ _ _ _ rfl rfl) (fun _ => hS) ?_
   obtain ⟨v25, hl25, hv25⟩ := at_load Ag81 Sz81 (by intro h; cases h) ha24
   obtain ⟨cs25, rfl, hr25⟩ := hv25
   obtain ⟨cc25x1, cd25x1, rfl, hh25x1, ht25x1⟩ := pr_open hr25
   obtain rfl := int_rel hh25x1
   obtain ⟨a25x2, n25x2, c25x2, rfl, hv25x2⟩ := rs_rel ht25x1
   refine x_l 3 (.agg #[(.int .i64 x23.1), (.slice a25x2 n25x2 c25x2)]) rfl (by kernel_rfl)  (fun w' hw' => y_load rfl (hl25 w' hw')) hS ?_
   refine x_p 4 (.slice pa1 pn1 pc1) rfl (by kernel_rfl)  (fun _ => y_move rfl) (fun _ => hS) ?_
   refine x_p 5 (.int .i64 k18) rfl (by kernel_rfl)  (fun _ => y_move rfl) (fun _ => hS) ?_
   obtain ⟨x27, hx27, hs⟩ := bind_some hs
   obtain ⟨b28, o28, hp28, ha28⟩ := rs_idx Sl33 Sz81 h1 hx27
   refine x_p 6 (.pointer (some ⟨b28, o28, none⟩)) rfl (by kernel_rfl)  (fun _ => hp28 _ _ _ _ _ _ _ _ _ rfl rfl) (fun _ => hS) ?_
   obtain ⟨v29, hl29, hv29⟩ := at_load Ag81 Sz81 (by intro h; cases h) ha28
   obtain ⟨cs29, rfl, hr29⟩ := hv29
   obtain ⟨cc29x1, cd29x1, rfl, hh29x1, ht29x1⟩ := pr_open hr29
   obtain rfl := int_rel hh29x1
   obtain ⟨a29x2, n29x2, c29x2, rfl, hv29x2⟩ := rs_rel ht29x1
   refine x_l 7 (.agg #[(.int .i64 x27.1), (.slice a29x2 n29x2 c29x2)]) rfl (by kernel_rfl)  (fun w' hw' => y_load rfl (hl29 w' hw')) hS ?_
   refine x_one (i := 8) (by kernel_rfl) ?_
   obtain ⟨r32, hr32, hs⟩ := bind_some hs
   refine xk_call (b := false) rfl  Bd85 rfl (c_laws_eqOp (M := M) (x23.1, x23.2) (x27.1, x27.2) hv25x2 hv29x2 hO.fut hr32) rfl (by rintro _ _ _ ⟨rfl, hC31⟩; exact hS.ext hC31) ?_
   rintro _ w31 ⟨rfl, hC31⟩
   have h0 := h0.ext hC31
   have h1 := h1.ext hC31
   have hv25x2 := hv25x2.ext hC31
   have hv29x2 := hv29x2.ext hC31
   have hC := hC.ext hC31
   have hO := hO.ext hC31
   have hS := hS.ext hC31
   refine x_p 9 (.bool (!r32)) rfl (by kernel_rfl)  (fun _ => y_not rfl) (fun _ => hS) ?_
   refine x_end (by kernel_rfl) ?_
   clear hS
   rcases bif_some hs with ⟨hc33, hs⟩ | ⟨hc33, hs⟩
   ·skip
    refine c_condT (congrArg Value.bool hc33) ?_
    refine c_seq (c_region ?_)
    refine pl_val (.bool false) (y_assign rfl) ?_
    refine c_nil ?_
    refine wp_ret ?_
    cases hs
    exact ⟨_, fr_ovl 27 ⟨rfl, trivial⟩, hC⟩
   ·skip
    refine c_condF (congrArg Value.bool hc33) ?_
    refine wp_skip ?_
    refine c_region ?_
    refine pl_val (.int .i64 k18) (y_move rfl) ?_
    refine pl_val (.int .i64 (w64 (k18 + 1))) (y_add rfl rfl) ?_
    refine pl_val (.int .i64 (w64 (k18 + 1))) (y_assign rfl) ?_
    refine c_nil ?_
    cases hs
    exact ⟨_, fr_ovl 27 ⟨rfl, rfl, congrArg (Value.int .i64) hw, trivial⟩, hC, hO, h0, h1⟩
  ·skip
   exact ⟨_, fr_ovl 27 ⟨rfl, rfl, rfl, trivial⟩, hC, hO, h0, h1⟩
  ·cases o20 with
   | nx _ => exact True.intro
   | rt r_ =>
    have hs := after_rt hs
    intro a1 w1 hK
    cases hs
    exact hK
   | br s16 =>
    have hs := after_br hs
    rintro a1 w17 ⟨σ, rfl, hC, hO, h0, h1⟩
    refine c_seq (c_region ?_)
    refine pl_val (.bool true) (y_assign rfl) ?_
    refine c_nil ?_
    refine wp_ret ?_
    cases hs
    exact ⟨_, fr_ovl 27 ⟨rfl, trivial⟩, hC⟩

theorem Bd55 : Bodied Try.prog 55 := bodied Try.func55 (by kernel_rfl) rfl

def k_laws_eqAlgebra (M : Nat → Prop) (w0 : World) (r : Bool) (a : Act) (w : World) : Prop :=
  ∃ (σ : Nat → Value) , a = fr 16 (ovl σ [(4, (.bool r))]) ∧ Chg [] w0 w
def s_laws_eqAlgebra (a_ : Int × (List (Int × (List Int)))) (b : Int × (List (Int × (List Int)))) : Option (Bool) :=
  (bif (a_.1 != b.1) then some false else (s_laws_eqOpS a_.2 b.2).bind fun r7 =>
  (bif (!r7) then some false else some true))
set_option maxHeartbeats 4000000 in
theorem c_laws_eqAlgebra {M : Nat → Prop} {w : World} {pa0 : Option Addr} {pn0 pc0 : Nat} {pa1 : Option Addr} {pn1 pc1 : Nat} (a_ : Int × (List (Int × (List Int)))) (b : Int × (List (Int × (List Int)))) (h0 : (RT.rs (RT.pr (RT.int .i64) (RT.rs (RT.int .i64)))).val M w (.slice pa0 pn0 pc0) a_.2 ([])) (h1 : (RT.rs (RT.pr (RT.int .i64) (RT.rs (RT.int .i64)))).val M w (.slice pa1 pn1 pc1) b.2 ([])) (hM : ∀ g, w.heap.size ≤ g → M g) {r : Bool} (hs : s_laws_eqAlgebra a_ b = some r) :
    Gives Try.prog 21 [(.agg #[(.int .i64 a_.1), (.slice pa0 pn0 pc0)]), (.agg #[(.int .i64 b.1), (.slice pa1 pn1 pc1)])] w (fun v w' => v = (.bool r) ∧ Chg [] w w') := by
 refine calls_fr Try.func21 rfl Try.ntmps21 (Nat.le_of_ble_eq_true rfl) ?_
 have hO := Own.start (N := Nw w []) hM Nw.fut
 have hC := Chg.refl [] w
 unfold s_laws_eqAlgebra at hs
 refine wp_mono (Q := KPost (k_laws_eqAlgebra M w r)) ?_ (fun e a w1 h => ?_)
 rotate_left
 ·cases e
  case ret =>
   obtain ⟨σ, rfl, hrest⟩ := h
   exact ret1x Try.results21 (res_tmp rfl) ⟨rfl, hrest⟩
  all_goals exact (h : False).elim
 refine c_seq (c_region ?_)
 obtain ⟨w3, g3, ew3, eg3, hC3, hb3⟩ := new_block w [(.int .i64 a_.1), (.slice pa0 pn0 pc0)] 35
 refine pl_val (w' := w3) (.pointer (some ⟨g3, 0, none⟩)) (y_box rfl (by rw [ew3, eg3]; kernel_rfl)) ?_
 have h0 := h0.ext hC3
 have h1 := h1.ext hC3
 have hC := hC.ext hC3
 have hO := hO.new1 hC3 eg3 hb3.lt
 obtain ⟨w4, g4, ew4, eg4, hC4, hb4⟩ := new_block w3 [(.int .i64 b.1), (.slice pa1 pn1 pc1)] 35
 refine pl_val (w' := w4) (.pointer (some ⟨g4, 0, none⟩)) (y_box rfl (by rw [ew4, eg4]; kernel_rfl)) ?_
 have h0 := h0.ext hC4
 have h1 := h1.ext hC4
 have hb3 := hb3.chg hC4 (fun h => nomatch h)
 have hC := hC.ext hC4
 have hO := hO.new1 hC4 eg4 hb4.lt
 refine pl_val (.bool false) (y_assign rfl) ?_
 refine c_nil ?_
 refine c_seq ?_
 refine c_seq (c_region ?_)
 refine pl_val (.pointer (some ⟨g3, 0, none⟩)) (y_faddr rfl Fa35x0) ?_
 refine pl_val (.int .i64 a_.1) (y_load rfl ((box_load Ag3 Sz3 hb3 [] [(.int .i64 a_.1)] [(.slice pa0 pn0 pc0)] rfl rfl (fun _ => rfl)) _ (Chg.refl _ _))) ?_
 refine pl_val (.pointer (some ⟨g4, 0, none⟩)) (y_faddr rfl Fa35x0) ?_
 refine pl_val (.int .i64 b.1) (y_load rfl ((box_load Ag3 Sz3 hb4 [] [(.int .i64 b.1)] [(.slice pa1 pn1 pc1)] rfl rfl (fun _ => rfl)) _ (Chg.refl _ _))) ?_
 refine pl_val (.bool (a_.1 != b.1)) (y_neq rfl rfl) ?_
 refine c_nil ?_
 rcases bif_some hs with ⟨hc5, hs⟩ | ⟨hc5, hs⟩
 ·skip
  refine c_condT (congrArg Value.bool hc5) ?_
  refine c_seq (c_region ?_)
  refine pl_val (.bool false) (y_assign rfl) ?_
  refine c_nil ?_
  refine wp_ret ?_
  cases hs
  exact ⟨_, fr_ovl 16 ⟨rfl, trivial⟩, hC⟩
 ·skip
  refine c_condF (congrArg Value.bool hc5) ?_
  refine wp_skip ?_
  refine c_seq ?_
  refine c_seq (c_region ?_)
  refine pl_val (.pointer (some ⟨g3, 1, none⟩)) (y_faddr rfl Fa35x1) ?_
  refine pl_val (.slice pa0 pn0 pc0) (y_load rfl ((box_load Ag33 Sz33 hb3 [(.int .i64 a_.1)] [(.slice pa0 pn0 pc0)] [] rfl rfl (fun _ => rfl)) _ (Chg.refl _ _))) ?_
  refine pl_val (.pointer (some ⟨g4, 1, none⟩)) (y_faddr rfl Fa35x1) ?_
  refine pl_val (.slice pa1 pn1 pc1) (y_load rfl ((box_load Ag33 Sz33 hb4 [(.int .i64 b.1)] [(.slice pa1 pn1 pc1)] [] rfl rfl (fun _ => rfl)) _ (Chg.refl _ _))) ?_
  obtain ⟨r7, hr7, hs⟩ := bind_some hs
  refine pl_call Bd55 rfl (c_laws_eqOpS (M := M) a_.2 b.2 h0 h1 hO.fut hr7) ?_
  rintro _ w6 ⟨rfl, hC6⟩
  have h0 := h0.ext hC6
  have h1 := h1.ext hC6
  have hb3 := hb3.chg hC6 (fun h => nomatch h)
  have hb4 := hb4.chg hC6 (fun h => nomatch h)
  have hC := hC.ext hC6
  have hO := hO.ext hC6
  refine pl_val (.bool (!r7)) (y_not rfl) ?_
  refine c_nil ?_
  rcases bif_some hs with ⟨hc8, hs⟩ | ⟨hc8, hs⟩
  ·skip
   refine c_condT (congrArg Value.bool hc8) ?_
   refine c_seq (c_region ?_)
   refine pl_val (.bool false) (y_assign rfl) ?_
   refine c_nil ?_
   refine wp_ret ?_
   cases hs
   exact ⟨_, fr_ovl 16 ⟨rfl, trivial⟩, hC⟩
  ·skip
   refine c_condF (congrArg Value.bool hc8) ?_
   refine wp_skip ?_
   refine c_seq (c_region ?_)
   refine pl_val (.bool true) (y_assign rfl) ?_
   refine c_nil ?_
   refine wp_ret ?_
   cases hs
   exact ⟨_, fr_ovl 16 ⟨rfl, trivial⟩, hC⟩

def k_laws_markIntS (M : Nat → Prop) (w0 : World) (qa0 : Option Addr) (qn0 qc0 : Nat) (qf0 : List Nat) (r : Int × (List Int)) (a : Act) (w : World) : Prop :=
  ∃ (σ : Nat → Value) (rfi0 : List Nat), a = fr 19 (ovl σ [(4, (.int .i64 r.1))]) ∧ Chg (qf0 ++ ([])) w0 w ∧ (RT.os 3 (RT.int .i64)).val M w (.slice qa0 qn0 qc0) r.2 rfi0 ∧ Own (Nw w0 (qf0 ++ ([]))) (fun _ => True) w (rfi0 ++ ([]))
def s_laws_markIntS (a_ : List Int) (k : Int) : Option (Int × (List Int)) :=
  (iter (S := Int × Int × (List Int)) (R := Int × (List Int)) (fun s25 =>
  (bif (decide (s25.2.1 < (s25.2.2.length : Int))) then (idx s25.2.2 s25.2.1).bind fun x34 =>
  some (.nx (w64 (s25.1 + 1), w64 (s25.2.1 + 1), List.set s25.2.2 (Int.toNat s25.2.1) s25.1)) else some (.br (s25.1, s25.2.1, s25.2.2)))) FU (k, 0, a_)).bind fun o29 => after o29 (fun r_ => some r_) (fun s25 =>
  some (s25.1, s25.2.2))
set_option maxHeartbeats 4000000 in
theorem c_laws_markIntS {M : Nat → Prop} {w : World} {pa0 : Option Addr} {pn0 pc0 : Nat} {pf0 : List Nat} (a_ : List Int) (k : Int) (h0 : (RT.os 3 (RT.int .i64)).val M w (.slice pa0 pn0 pc0) a_ pf0) (hI : Own (Nw w (pf0 ++ ([]))) M w (pf0 ++ ([]))) (hM : ∀ g, w.heap.size ≤ g → M g) {r : Int × (List Int)} (hs : s_laws_markIntS a_ k = some r) :
    Gives Try.prog 32 [(.slice pa0 pn0 pc0), (.int .i64 k)] w (fun v w' => ∃ (rfi0 : List Nat), v = (.int .i64 r.1) ∧ Chg (pf0 ++ ([])) w w' ∧ (RT.os 3 (RT.int .i64)).val M w' (.slice pa0 pn0 pc0) r.2 rfi0 ∧ Own (Nw w (pf0 ++ ([]))) (fun _ => True) w' (rfi0 ++ ([]))) := by
 refine calls_fr Try.func32 rfl Try.ntmps32 (Nat.le_of_ble_eq_true rfl) ?_
 have hO := hI
 have hC := Chg.refl (pf0 ++ ([])) w
 unfold s_laws_markIntS at hs
 refine wp_mono (Q := KPost (k_laws_markIntS M w pa0 pn0 pc0 pf0 r)) ?_ (fun e a w1 h => ?_)
 rotate_left
 ·cases e
  case ret =>
   obtain ⟨σ, rfi0, rfl, hrest⟩ := h
   exact ret1x Try.results32 (res_tmp rfl) ⟨rfi0, rfl, hrest⟩
  all_goals exact (h : False).elim
 refine c_seq (c_region ?_)
 refine pl_val (.int .i64 0) (y_assign rfl) ?_
 refine c_nil ?_
 refine c_seq ?_
 refine c_seq (c_region ?_)
 refine pl_val (.int .i64 0) (y_assign rfl) ?_
 refine c_nil ?_
 obtain ⟨o29, hl30, hs⟩ := bind_some hs
 refine wp_block ?_
 refine wp_iter (id := 0) (I := fun s25 a w26 => ∃ (σ : Nat → Value) (f31 : List Nat), a = fr 19 (ovl σ [(0, (.slice pa0 pn0 pc0)), (1, (.int .i64 s25.1)), (5, (.int .i64 s25.2.1))]) ∧ Chg (pf0 ++ ([])) w w26 ∧ Own (Nw w (pf0 ++ ([]))) M w26 (f31 ++ []) ∧ (RT.os 3 (RT.int .i64)).val M w26 (.slice pa0 pn0 pc0) s25.2.2 f31) (J := fun s25 a w26 => ∃ (σ : Nat → Value) (f32 : List Nat), a = fr 19 (ovl σ [(1, (.int .i64 s25.1))]) ∧ Chg (pf0 ++ ([])) w w26 ∧ Own (Nw w (pf0 ++ ([]))) M w26 (f32 ++ []) ∧ (RT.os 3 (RT.int .i64)).val M w26 (.slice pa0 pn0 pc0) s25.2.2 f32) (K := (k_laws_markIntS M w pa0 pn0 pc0 pf0)) ?_ FU (k, 0, a_) o29 _ _ ?_ hl30 ?_
 ·rintro s25 o29 a w26 ⟨σ, f31, rfl, hC, hO, hv31⟩ hs
  refine c_seq ?_
  refine c_seq (c_region ?_)
  refine pl_val (.int .i64 s25.2.1) (y_move rfl) ?_
  refine pl_val (.slice pa0 pn0 pc0) (y_move rfl) ?_
  refine pl_val (.int .i64 (s25.2.2.length : Int)) (y_len' Sl22 (os_len hv31) rfl) ?_
  refine pl_val (.bool (decide (s25.2.1 < (s25.2.2.length : Int)))) (y_lss rfl rfl) ?_
  refine c_nil ?_
  rcases bif_some hs with ⟨hc33, hs⟩ | ⟨hc33, hs⟩
  ·skip
   refine c_condT (congrArg Value.bool hc33) ?_
   refine wp_skip ?_
   refine c_seq ?_
   refine wp_block ?_
   refine c_seq (c_region ?_)
   refine pl_val (.slice pa0 pn0 pc0) (y_move rfl) ?_
   refine pl_val (.int .i64 s25.2.1) (y_move rfl) ?_
   refine pl_val (.int .i64 s25.1) (y_move rfl) ?_
   obtain ⟨x34, hx34, hs⟩ := bind_some hs
   obtain ⟨g35, f35, hg35, hk35, hp35, ha35, hf35⟩ := os_idx Sl22 Sz3 hv31 hx34
   refine pl_val (.pointer (some ⟨g35, 0 + Int.toNat s25.2.1 * 1, none⟩)) (hp35 _ _ _ _ _ _ _ _ _ rfl rfl) ?_
   obtain ⟨w36, f36, hst36, hC36, hf36, hv36⟩ := os_store (P := Try.prog) (c' := [(.int .i64 s25.1)]) hg35 hv31 hk35 (fun g hg => hO.inM g (os_block hv31 g (by simpa using hg))) ⟨rfl, rfl⟩ List.nodup_nil (fun _ h => nomatch h) (fun _ h => .inl h)
   have hG36 : ∀ q ∈ [g35], q ∈ f31 := fun q hq => os_block hv31 q (by rw [hg35]; exact hq)
   refine pl_skip (w' := w36) (ys_store rfl rfl (hst36 _ _ rfl Sz3)) ?_
   have hC := hC.step hC36 (fun g hg => hO.inN g (hG36 g hg))
   have hO := hO.grow hC36 (fun q hq => .inl ((hf36 q hq).resolve_right (fun h => nomatch h))) (os_nodup hv36) hv36.fpl
   refine c_nil ?_
   refine c_region ?_
   refine pl_val (.int .i64 s25.1) (y_move rfl) ?_
   refine pl_val (.int .i64 (w64 (s25.1 + 1))) (y_add rfl rfl) ?_
   refine pl_val (.int .i64 (w64 (s25.1 + 1))) (y_assign rfl) ?_
   refine c_nil ?_
   refine c_region ?_
   refine pl_val (.int .i64 s25.2.1) (y_move rfl) ?_
   refine pl_val (.int .i64 (w64 (s25.2.1 + 1))) (y_add rfl rfl) ?_
   refine pl_val (.int .i64 (w64 (s25.2.1 + 1))) (y_assign rfl) ?_
   refine c_nil ?_
   cases hs
   exact ⟨_, f36, fr_ovl 19 ⟨rfl, rfl, rfl, trivial⟩, hC, hO, hv36⟩
  ·skip
   refine c_condF (congrArg Value.bool hc33) ?_
   refine wp_exit ?_
   cases hs
   exact ⟨rfl, _, f31, fr_ovl 19 ⟨rfl, trivial⟩, hC, hO, hv31⟩
 ·skip
  exact ⟨_, pf0, fr_ovl 19 ⟨rfl, rfl, rfl, trivial⟩, hC, hO, h0⟩
 ·cases o29 with
  | nx _ => exact True.intro
  | rt r_ =>
   have hs := after_rt hs
   intro a1 w1 hK
   cases hs
   exact hK
  | br s25 =>
   have hs := after_br hs
   rintro a1 w26 ⟨σ, f32, rfl, hC, hO, hv32⟩
   refine c_seq (c_region ?_)
   refine pl_val (.int .i64 s25.1) (y_move rfl) ?_
   refine pl_val (.int .i64 s25.1) (y_assign rfl) ?_
   refine c_nil ?_
   refine wp_ret ?_
   cases hs
   exact ⟨_, f32, fr_ovl 19 ⟨rfl, trivial⟩, hC, hv32, hO.top⟩

theorem Bd32 : Bodied Try.prog 32 := bodied Try.func32 (by kernel_rfl) rfl

def k_laws_markOpS (M : Nat → Prop) (w0 : World) (qa0 : Option Addr) (qn0 qc0 : Nat) (qf0 : List Nat) (r : Int × (List (Int × (List Int)))) (a : Act) (w : World) : Prop :=
  ∃ (σ : Nat → Value) (rfi0 : List Nat), a = fr 27 (ovl σ [(4, (.int .i64 r.1))]) ∧ Chg (qf0 ++ ([])) w0 w ∧ (RT.os 81 (RT.pr (RT.int .i64) (RT.os 3 (RT.int .i64)))).val M w (.slice qa0 qn0 qc0) r.2 rfi0 ∧ Own (Nw w0 (qf0 ++ ([]))) (fun _ => True) w (rfi0 ++ ([]))
def s_laws_markOpS (a_ : List (Int × (List Int))) (k : Int) : Option (Int × (List (Int × (List Int)))) :=
  (iter (S := Int × Int × (List (Int × (List Int)))) (R := Int × (List (Int × (List Int)))) (fun s57 =>
  (bif (decide (s57.2.1 < (s57.2.2.length : Int))) then (idx s57.2.2 s57.2.1).bind fun x67 =>
  (idx (List.set s57.2.2 (Int.toNat s57.2.1) (s57.1, x67.2)) s57.2.1).bind fun x71 =>
  (s_laws_markIntS x71.2 (w64 (s57.1 + 1))).bind fun r77 =>
  some (.nx (r77.1, w64 (s57.2.1 + 1), List.set (List.set s57.2.2 (Int.toNat s57.2.1) (s57.1, x67.2)) (Int.toNat s57.2.1) (x71.1, r77.2))) else some (.br (s57.1, s57.2.1, s57.2.2)))) FU (k, 0, a_)).bind fun o61 => after o61 (fun r_ => some r_) (fun s57 =>
  some (s57.1, s57.2.2))
set_option maxHeartbeats 4000000 in
theorem c_laws_markOpS {M : Nat → Prop} {w : World} {pa0 : Option Addr} {pn0 pc0 : Nat} {pf0 : List Nat} (a_ : List (Int × (List Int))) (k : Int) (h0 : (RT.os 81 (RT.pr (RT.int .i64) (RT.os 3 (RT.int .i64)))).val M w (.slice pa0 pn0 pc0) a_ pf0) (hI : Own (Nw w (pf0 ++ ([]))) M w (pf0 ++ ([]))) (hM : ∀ g, w.heap.size ≤ g → M g) {r : Int × (List (Int × (List Int)))} (hs : s_laws_markOpS a_ k = some r) :
    Gives Try.prog 67 [(.slice pa0 pn0 pc0), (.int .i64 k)] w (fun v w' => ∃ (rfi0 : List Nat), v = (.int .i64 r.1) ∧ Chg (pf0 ++ ([])) w w' ∧ (RT.os 81 (RT.pr (RT.int .i64) (RT.os 3 (RT.int .i64)))).val M w' (.slice pa0 pn0 pc0) r.2 rfi0 ∧ Own (Nw w (pf0 ++ ([]))) (fun _ => True) w' (rfi0 ++ ([]))) := by
 refine calls_fr Try.func67 rfl Try.ntmps67 (Nat.le_of_ble_eq_true rfl) ?_
 have hO := hI
 have hC := Chg.refl (pf0 ++ ([])) w
 unfold s_laws_markOpS at hs
 refine wp_mono (Q := KPost (k_laws_markOpS M w pa0 pn0 pc0 pf0 r)) ?_ (fun e a w1 h => ?_)
 rotate_left
 ·cases e
  case ret =>
   obtain ⟨σ, rfi0, rfl, hrest⟩ := h
   exact ret1x Try.results67 (res_tmp rfl) ⟨rfi0, rfl, hrest⟩
  all_goals exact (h : False).elim
 refine c_seq (c_region ?_)
 refine pl_val (.int .i64 0) (y_assign rfl) ?_
 refine c_nil ?_
 refine c_seq ?_
 refine c_seq (c_region ?_)
 refine pl_val (.int .i64 0) (y_assign rfl) ?_
 refine c_nil ?_
 obtain ⟨o61, hl62, hs⟩ := bind_some hs
 refine wp_block ?_
 refine wp_iter (id := 0) (I := fun s57 a w58 => ∃ (σ : Nat → Value) (f63 : List Nat), a = fr 27 (ovl σ [(0, (.slice pa0 pn0 pc0)), (1, (.int .i64 s57.1)), (5, (.int .i64 s57.2.1))]) ∧ Chg (pf0 ++ ([])) w w58 ∧ Own (Nw w (pf0 ++ ([]))) M w58 (f63 ++ []) ∧ (RT.os 81 (RT.pr (RT.int .i64) (RT.os 3 (RT.int .i64)))).val M w58 (.slice pa0 pn0 pc0) s57.2.2 f63) (J := fun s57 a w58 => ∃ (σ : Nat → Value) (f65 : List Nat), a = fr 27 (ovl σ [(1, (.int .i64 s57.1))]) ∧ Chg (pf0 ++ ([])) w w58 ∧ Own (Nw w (pf0 ++ ([]))) M w58 (f65 ++ []) ∧ (RT.os 81 (RT.pr (RT.int .i64) (RT.os 3 (RT.int .i64)))).val M w58 (.slice pa0 pn0 pc0) s57.2.2 f65) (K := (k_laws_markOpS M w pa0 pn0 pc0 pf0)) ?_ FU (k, 0, a_) o61 _ _ ?_ hl62 ?_
 ·rintro s57 o61 a w58 ⟨σ, f63, rfl, hC, hO, hv63⟩ hs
  refine c_seq ?_
  refine c_seq (c_region ?_)
  refine pl_val (.int .i64 s57.2.1) (y_move rfl) ?_
  refine pl_val (.slice pa0 pn0 pc0) (y_move rfl) ?_
  refine pl_val (.int .i64 (s57.2.2.length : Int)) (y_len' Sl33 (os_len hv63) rfl) ?_
  refine pl_val (.bool (decide (s57.2.1 < (s57.2.2.length : Int)))) (y_lss rfl rfl) ?_
  refine c_nil ?_
  rcases bif_some hs with ⟨hc66, hs⟩ | ⟨hc66, hs⟩
  ·skip
   refine c_condT (congrArg Value.bool hc66) ?_
   refine wp_skip ?_
   refine c_seq ?_
   refine wp_block ?_
   refine c_seq (c_region ?_)
   refine pl_val (.slice pa0 pn0 pc0) (y_move rfl) ?_
   refine pl_val (.int .i64 s57.2.1) (y_move rfl) ?_
   refine pl_val (.int .i64 s57.1) (y_move rfl) ?_
   obtain ⟨x67, hx67, hs⟩ := bind_some hs
   obtain ⟨g68, f68, hg68, hk68, hp68, ha68, hf68⟩ := os_idx Sl33 Sz81 hv63 hx67
   have hb68 := own_row (Frz.pr Frz.int (Frz.os Frz.int)) ha68 hf68
   refine pl_val (.pointer (some ⟨g68, 0 + Int.toNat s57.2.1 * 2, none⟩)) (hp68 _ _ _ _ _ _ _ _ _ rfl rfl) ?_
   obtain ⟨hq69, _⟩ := pr_at hb68
   refine pl_val (.pointer (some ⟨g68, (0 + Int.toNat s57.2.1 * 2) + 0, none⟩)) (y_faddr rfl Fa81x0) ?_
   obtain ⟨L170, c70, L270, fq70, hL70, hc70, hbx70, hr70, hsf70, hnf70, hgi70, hgn70, hput70⟩ := os_focus hg68 hv63 hx67 hO.inM
   obtain ⟨c70x1, d70x1, f70x1, k70x1, rfl, rfl, hl70x1, ht70x1⟩ := hr70
   obtain ⟨rfl, rfl⟩ := hl70x1
   have hn70x1 := RT.len _ ht70x1
   obtain ⟨w70, hst70, hC70, hb70⟩ := box_store (P := Try.prog) hbx70 (L170) [(Value.int .i64 x67.1)] (d70x1 ++ (L270)) [(Value.int .i64 s57.1)] (by simp) rfl (by intro u hu; rw [List.mem_singleton.1 hu]; rfl)
   have hA70 : (L170).length = ((0 + Int.toNat s57.2.1 * 2) + 0) := by
    simp only [List.length_append, hL70]
    try rfl
   rw [hA70] at hst70
   have hGM70 : ∀ q ∈ [g68], M q ∨ (w58).heap.size ≤ q := fun q hq => .inl (by rw [List.mem_singleton.1 hq]; exact hO.inM _ hgi70)
   obtain ⟨fz70, hv70, hf70⟩ := hput70 w70 [g68] ([(Value.int .i64 s57.1)] ++ d70x1) (s57.1, x67.2) (([] : List Nat) ++ k70x1) hC70 (fun q hq => .inl (List.mem_singleton.1 hq)) (by simpa using hb70) ⟨_, _, _, _, rfl, rfl, ⟨rfl, rfl⟩, (RT.mono _ ht70x1 hC70 hGM70 (fun q hq hq' => hgn70 (by rw [List.mem_singleton.1 hq] at hq'; simp [hq'])) (fun _ h => .inl h))⟩ hnf70 (fun q hq => .inl hq)
   refine pl_skip (w' := w70) (ys_store rfl rfl (hst70 _ _ rfl Sz3)) ?_
   have hG70 : ∀ q ∈ [g68], q ∈ f63 := fun q hq => by rw [List.mem_singleton.1 hq]; exact hgi70
   have hC := hC.step hC70 (fun g hg => hO.inN g (hG70 g hg))
   have hO := hO.grow hC70 hf70 (os_nodup hv70) hv70.fpl
   refine c_nil ?_
   refine c_seq (c_region ?_)
   refine pl_val (.int .i64 s57.1) (y_move rfl) ?_
   refine pl_val (.int .i64 (w64 (s57.1 + 1))) (y_add rfl rfl) ?_
   refine pl_val (.int .i64 (w64 (s57.1 + 1))) (y_assign rfl) ?_
   refine c_nil ?_
   refine c_region ?_
   refine pl_val (.slice pa0 pn0 pc0) (y_move rfl) ?_
   refine pl_val (.int .i64 s57.2.1) (y_move rfl) ?_
   obtain ⟨x71, hx71, hs⟩ := bind_some hs
   obtain ⟨g72, f72, hg72, hk72, hp72, ha72, hf72⟩ := os_idx Sl33 Sz81 hv70 hx71
   have hb72 := own_row (Frz.pr Frz.int (Frz.os Frz.int)) ha72 hf72
   refine pl_val (.pointer (some ⟨g72, 0 + Int.toNat s57.2.1 * 2, none⟩)) (hp72 _ _ _ _ _ _ _ _ _ rfl rfl) ?_
   obtain ⟨_, hq73x0⟩ := pr_at hb72
   refine pl_val (.pointer (some ⟨g72, (0 + Int.toNat s57.2.1 * 2) + 1, none⟩)) (y_faddr rfl Fa81x1) ?_
   obtain ⟨cs74, hrow74, hr74⟩ := at_open hb72
   obtain ⟨cc74x1, cd74x1, rfl, hh74x1, ht74x1⟩ := pr_open hr74
   obtain rfl := int_rel hh74x1
   obtain ⟨a74x2, n74x2, c74x2, rfl, hv74x2⟩ := rs_rel ht74x1
   refine pl_val (.slice a74x2 n74x2 c74x2) (y_load rfl ((part_load (l1 := [(.int .i64 x71.1)]) (c := [(.slice a74x2 n74x2 c74x2)]) (l2 := []) Ag22 Sz22 hrow74 rfl rfl (fun _ => rfl)) _ (Chg.refl _ _))) ?_
   refine pl_val (.int .i64 (w64 (s57.1 + 1))) (y_move rfl) ?_
   obtain ⟨fg76, hrr76, hsf76, hnf76, hput76⟩ := os_put hg72 hv70 hx71 hrow74 rfl hO.inM
   obtain ⟨fa76x1, fb76x1, rfl, hp76x1, hq76x1⟩ := pr_split (c := [(.int .i64 x71.1)]) (d := [(.slice a74x2 n74x2 c74x2)]) hrr76 rfl
   obtain rfl := int_fp hp76x1
   have hg76x0 : (RT.os 3 (RT.int .i64)).val M w70 (.slice a74x2 n74x2 c74x2) x71.2 fb76x1 := ⟨[_], rfl, hq76x1⟩
   have hfs76 : ∀ q ∈ (fb76x1 ++ ([])), q ∈ fz70 := fun q hq => hsf76 q (by simpa using hq)
   have hfn76 : List.Nodup (fb76x1 ++ ([])) := by simpa using hnf76
   have hL76 := hO
   have hI76 := Own.part (X := (fb76x1 ++ ([]))) (hL76) hfs76 hfn76
   obtain ⟨r77, hr77, hs⟩ := bind_some hs
   refine pl_call Bd32 rfl (c_laws_markIntS (M := M) x71.2 (w64 (s57.1 + 1)) hg76x0 hI76 hI76.fut hr77) ?_
   rintro _ w76 ⟨fi76x0, rfl, hC76, hvi76x0, hOc76⟩
   obtain ⟨fq76, hvq76, hsq76⟩ := hput76 w76 (fb76x1 ++ ([])) (x71.1, r77.2) (([] : List Nat) ++ fi76x0) hC76 (fun q hq => by simpa using hq) ⟨_, _, _, _, rfl, rfl, ⟨rfl, rfl⟩, (os_unval hvi76x0)⟩ (by simpa using hOc76.1) (fun q hq => (hOc76.2.1 q (by simpa using hq)).2.2.imp (fun h => by simpa using h) id)
   have hC := hC.step hC76 (fun g hg => hO.inN g (hfs76 g hg))
   have hO := hO.grow hC76 hsq76 (os_nodup hvq76) hvq76.fpl
   refine pl_val (.int .i64 r77.1) (y_assign rfl) ?_
   refine c_nil ?_
   refine c_region ?_
   refine pl_val (.int .i64 s57.2.1) (y_move rfl) ?_
   refine pl_val (.int .i64 (w64 (s57.2.1 + 1))) (y_add rfl rfl) ?_
   refine pl_val (.int .i64 (w64 (s57.2.1 + 1))) (y_assign rfl) ?_
   refine c_nil ?_
   cases hs
   exact ⟨_, fq76, fr_ovl 27 ⟨rfl, rfl, rfl, trivial⟩, hC, hO, hvq76⟩
  ·skip
   refine c_condF (congrArg Value.bool hc66) ?_
   refine wp_exit ?_
   cases hs
   exact ⟨rfl, _, f63, fr_ovl 27 ⟨rfl, trivial⟩, hC, hO, hv63⟩
 ·skip
  exact ⟨_, pf0, fr_ovl 27 ⟨rfl, rfl, rfl, trivial⟩, hC, hO, h0⟩
 ·cases o61 with
  | nx _ => exact True.intro
  | rt r_ =>
   have hs := after_rt hs
   intro a1 w1 hK
   cases hs
   exact hK
  | br s57 =>
   have hs := after_br hs
   rintro a1 w58 ⟨σ, f65, rfl, hC, hO, hv65⟩
   refine c_seq (c_region ?_)
   refine pl_val (.int .i64 s57.1) (y_move rfl) ?_
   refine pl_val (.int .i64 s57.1) (y_assign rfl) ?_
   refine c_nil ?_
   refine wp_ret ?_
   cases hs
   exact ⟨_, f65, fr_ovl 27 ⟨rfl, trivial⟩, hC, hv65, hO.top⟩

theorem Bd67 : Bodied Try.prog 67 := bodied Try.func67 (by kernel_rfl) rfl

def k_laws_markAlgebra (M : Nat → Prop) (w0 : World) (qa0 : Option Addr) (qn0 qc0 : Nat) (qf0 : List Nat) (r : Int × (List (Int × (List Int)))) (a : Act) (w : World) : Prop :=
  ∃ (σ : Nat → Value) (rfi0 : List Nat), a = fr 10 (ovl σ [(4, (.int .i64 r.1))]) ∧ Chg (qf0 ++ ([])) w0 w ∧ (RT.os 81 (RT.pr (RT.int .i64) (RT.os 3 (RT.int .i64)))).val M w (.slice qa0 qn0 qc0) r.2 rfi0 ∧ Own (Nw w0 (qf0 ++ ([]))) (fun _ => True) w (rfi0 ++ ([]))
def s_laws_markAlgebra (a_ : Int × (List (Int × (List Int)))) (k : Int) : Option (Int × (List (Int × (List Int)))) :=
  (s_laws_markOpS a_.2 k).bind fun r4 =>
  some (r4.1, r4.2)
set_option maxHeartbeats 4000000 in
theorem c_laws_markAlgebra {M : Nat → Prop} {w : World} {pa0 : Option Addr} {pn0 pc0 : Nat} {pf0 : List Nat} (a_ : Int × (List (Int × (List Int)))) (k : Int) (h0 : (RT.os 81 (RT.pr (RT.int .i64) (RT.os 3 (RT.int .i64)))).val M w (.slice pa0 pn0 pc0) a_.2 pf0) (hI : Own (Nw w (pf0 ++ ([]))) M w (pf0 ++ ([]))) (hM : ∀ g, w.heap.size ≤ g → M g) {r : Int × (List (Int × (List Int)))} (hs : s_laws_markAlgebra a_ k = some r) :
    Gives Try.prog 31 [(.agg #[(.int .i64 a_.1), (.slice pa0 pn0 pc0)]), (.int .i64 k)] w (fun v w' => ∃ (rfi0 : List Nat), v = (.int .i64 r.1) ∧ Chg (pf0 ++ ([])) w w' ∧ (RT.os 81 (RT.pr (RT.int .i64) (RT.os 3 (RT.int .i64)))).val M w' (.slice pa0 pn0 pc0) r.2 rfi0 ∧ Own (Nw w (pf0 ++ ([]))) (fun _ => True) w' (rfi0 ++ ([]))) := by
 refine calls_fr Try.func31 rfl Try.ntmps31 (Nat.le_of_ble_eq_true rfl) ?_
 have hO := hI
 have hC := Chg.refl (pf0 ++ ([])) w
 unfold s_laws_markAlgebra at hs
 refine wp_mono (Q := KPost (k_laws_markAlgebra M w pa0 pn0 pc0 pf0 r)) ?_ (fun e a w1 h => ?_)
 rotate_left
 ·cases e
  case ret =>
   obtain ⟨σ, rfi0, rfl, hrest⟩ := h
   exact ret1x Try.results31 (res_tmp rfl) ⟨rfi0, rfl, hrest⟩
  all_goals exact (h : False).elim
 refine c_seq (c_region ?_)
 obtain ⟨w2, g2, ew2, eg2, hC2, hb2⟩ := new_block w [(.int .i64 a_.1), (.slice pa0 pn0 pc0)] 35
 refine pl_val (w' := w2) (.pointer (some ⟨g2, 0, none⟩)) (y_box rfl (by rw [ew2, eg2]; kernel_rfl)) ?_
 have h0 := h0.ext hC2
 have hC := hC.ext hC2
 have hO := hO.new1 hC2 eg2 hb2.lt
 refine pl_val (.int .i64 0) (y_assign rfl) ?_
 refine c_nil ?_
 refine c_seq (c_region ?_)
 refine pl_val (.pointer (some ⟨g2, 1, none⟩)) (y_faddr rfl Fa35x1) ?_
 refine pl_val (.slice pa0 pn0 pc0) (y_load rfl ((box_load Ag33 Sz33 hb2 [(.int .i64 a_.1)] [(.slice pa0 pn0 pc0)] [] rfl rfl (fun _ => rfl)) _ (Chg.refl _ _))) ?_
 refine pl_val (.int .i64 k) (y_move rfl) ?_
 have hO := hO.fr1
 have hL3 := hO
 have hI3 := Own.lend (F := (pf0 ++ ([]))) (R := ([g2]) ++ ([])) (Own.perm (hL3) (by simp))
 obtain ⟨r4, hr4, hs⟩ := bind_some hs
 refine pl_call Bd67 rfl (c_laws_markOpS (M := M) a_.2 k h0 hI3 hI3.fut hr4) ?_
 rintro _ w3 ⟨fi3x0, rfl, hC3, hvi3x0, hOc3⟩
 have hO := hO.perm (R := (pf0 ++ ([])) ++ (([g2]) ++ ([]))) (by simp)
 have hb2 := hb2.chg hC3 (fun hg => hO.apart _ ((fun _ h => h) _ hg) (mem_l (List.mem_singleton.2 rfl)))
 have hC := hC.step hC3 (fun g hg => hO.inN g ((fun _ h => h) g hg))
 have hO := Own.join hO hC3 hOc3
 have hO := hO.perm (R := fi3x0 ++ (([g2]) ++ ([]))) (by simp)
 refine pl_val (.int .i64 r4.1) (y_assign rfl) ?_
 refine c_nil ?_
 refine c_seq (c_region ?_)
 refine pl_val (.int .i64 r4.1) (y_move rfl) ?_
 refine pl_val (.int .i64 r4.1) (y_assign rfl) ?_
 refine c_nil ?_
 refine wp_ret ?_
 cases hs
 have hO := hO.fr1
 have hO := hO.drop
 exact ⟨_, fi3x0, fr_ovl 10 ⟨rfl, trivial⟩, hC, hvi3x0, hO.top⟩

def k_laws_markIntSS (M : Nat → Prop) (w0 : World) (qa0 : Option Addr) (qn0 qc0 : Nat) (qf0 : List Nat) (r : Int × (List (List Int))) (a : Act) (w : World) : Prop :=
  ∃ (σ : Nat → Value) (rfi0 : List Nat), a = fr 19 (ovl σ [(4, (.int .i64 r.1))]) ∧ Chg (qf0 ++ ([])) w0 w ∧ (RT.os 22 (RT.os 3 (RT.int .i64))).val M w (.slice qa0 qn0 qc0) r.2 rfi0 ∧ Own (Nw w0 (qf0 ++ ([]))) (fun _ => True) w (rfi0 ++ ([]))
def s_laws_markIntSS (a_ : List (List Int)) (k : Int) : Option (Int × (List (List Int))) :=
  (iter (S := Int × Int × (List (List Int))) (R := Int × (List (List Int))) (fun s37 =>
  (bif (decide (s37.2.1 < (s37.2.2.length : Int))) then (idx s37.2.2 s37.2.1).bind fun x46 =>
  (s_laws_markIntS x46 s37.1).bind fun r51 =>
  some (.nx (r51.1, w64 (s37.2.1 + 1), List.set s37.2.2 (Int.toNat s37.2.1) r51.2)) else some (.br (s37.1, s37.2.1, s37.2.2)))) FU (k, 0, a_)).bind fun o41 => after o41 (fun r_ => some r_) (fun s37 =>
  some (s37.1, s37.2.2))
set_option maxHeartbeats 4000000 in
theorem c_laws_markIntSS {M : Nat → Prop} {w : World} {pa0 : Option Addr} {pn0 pc0 : Nat} {pf0 : List Nat} (a_ : List (List Int)) (k : Int) (h0 : (RT.os 22 (RT.os 3 (RT.int .i64))).val M w (.slice pa0 pn0 pc0) a_ pf0) (hI : Own (Nw w (pf0 ++ ([]))) M w (pf0 ++ ([]))) (hM : ∀ g, w.heap.size ≤ g → M g) {r : Int × (List (List Int))} (hs : s_laws_markIntSS a_ k = some r) :
    Gives Try.prog 33 [(.slice pa0 pn0 pc0), (.int .i64 k)] w (fun v w' => ∃ (rfi0 : List Nat), v = (.int .i64 r.1) ∧ Chg (pf0 ++ ([])) w w' ∧ (RT.os 22 (RT.os 3 (RT.int .i64))).val M w' (.slice pa0 pn0 pc0) r.2 rfi0 ∧ Own (Nw w (pf0 ++ ([]))) (fun _ => True) w' (rfi0 ++ ([]))) := by
 refine calls_fr Try.func33 rfl Try.ntmps33 (Nat.le_of_ble_eq_true rfl) ?_
 have hO := hI
 have hC := Chg.refl (pf0 ++ ([])) w
 unfold s_laws_markIntSS at hs
 refine wp_mono (Q := KPost (k_laws_markIntSS M w pa0 pn0 pc0 pf0 r)) ?_ (fun e a w1 h => ?_)
 rotate_left
 ·cases e
  case ret =>
   obtain ⟨σ, rfi0, rfl, hrest⟩ := h
   exact ret1x Try.results33 (res_tmp rfl) ⟨rfi0, rfl, hrest⟩
  all_goals exact (h : False).elim
 refine c_seq (c_region ?_)
 refine pl_val (.int .i64 0) (y_assign rfl) ?_
 refine c_nil ?_
 refine c_seq ?_
 refine c_seq (c_region ?_)
 refine pl_val (.int .i64 0) (y_assign rfl) ?_
 refine c_nil ?_
 obtain ⟨o41, hl42, hs⟩ := bind_some hs
 refine wp_block ?_
 refine wp_iter (id := 0) (I := fun s37 a w38 => ∃ (σ : Nat → Value) (f43 : List Nat), a = fr 19 (ovl σ [(0, (.slice pa0 pn0 pc0)), (1, (.int .i64 s37.1)), (5, (.int .i64 s37.2.1))]) ∧ Chg (pf0 ++ ([])) w w38 ∧ Own (Nw w (pf0 ++ ([]))) M w38 (f43 ++ []) ∧ (RT.os 22 (RT.os 3 (RT.int .i64))).val M w38 (.slice pa0 pn0 pc0) s37.2.2 f43) (J := fun s37 a w38 => ∃ (σ : Nat → Value) (f44 : List Nat), a = fr 19 (ovl σ [(1, (.int .i64 s37.1))]) ∧ Chg (pf0 ++ ([])) w w38 ∧ Own (Nw w (pf0 ++ ([]))) M w38 (f44 ++ []) ∧ (RT.os 22 (RT.os 3 (RT.int .i64))).val M w38 (.slice pa0 pn0 pc0) s37.2.2 f44) (K := (k_laws_markIntSS M w pa0 pn0 pc0 pf0)) ?_ FU (k, 0, a_) o41 _ _ ?_ hl42 ?_
 ·rintro s37 o41 a w38 ⟨σ, f43, rfl, hC, hO, hv43⟩ hs
  refine c_seq ?_
  refine c_seq (c_region ?_)
  refine pl_val (.int .i64 s37.2.1) (y_move rfl) ?_
  refine pl_val (.slice pa0 pn0 pc0) (y_move rfl) ?_
  refine pl_val (.int .i64 (s37.2.2.length : Int)) (y_len' Sl41 (os_len hv43) rfl) ?_
  refine pl_val (.bool (decide (s37.2.1 < (s37.2.2.length : Int)))) (y_lss rfl rfl) ?_
  refine c_nil ?_
  rcases bif_some hs with ⟨hc45, hs⟩ | ⟨hc45, hs⟩
  ·skip
   refine c_condT (congrArg Value.bool hc45) ?_
   refine wp_skip ?_
   refine c_seq ?_
   refine wp_block ?_
   refine c_region ?_
   refine pl_val (.slice pa0 pn0 pc0) (y_move rfl) ?_
   refine pl_val (.int .i64 s37.2.1) (y_move rfl) ?_
   obtain ⟨x46, hx46, hs⟩ := bind_some hs
   obtain ⟨g47, f47, hg47, hk47, hp47, ha47, hf47⟩ := os_idx Sl41 Sz22 hv43 hx46
   have hb47 := own_row (Frz.os Frz.int) ha47 hf47
   refine pl_val (.pointer (some ⟨g47, 0 + Int.toNat s37.2.1 * 1, none⟩)) (hp47 _ _ _ _ _ _ _ _ _ rfl rfl) ?_
   obtain ⟨v48, hl48, hrow48, hv48⟩ := at_load1 Ag22 Sz22 rfl rfl hb47
   obtain ⟨a48, n48, c48, rfl⟩ := rs_sl hv48
   refine pl_val (.slice a48 n48 c48) (y_load rfl (hl48 _ (Chg.refl _ _))) ?_
   refine pl_val (.int .i64 s37.1) (y_move rfl) ?_
   obtain ⟨fg50, hrr50, hsf50, hnf50, hput50⟩ := os_put hg47 hv43 hx46 hrow48 rfl hO.inM
   have hg50x0 : (RT.os 3 (RT.int .i64)).val M w38 (.slice a48 n48 c48) x46 fg50 := ⟨[_], rfl, hrr50⟩
   have hfs50 : ∀ q ∈ (fg50 ++ ([])), q ∈ f43 := fun q hq => hsf50 q (by simpa using hq)
   have hfn50 : List.Nodup (fg50 ++ ([])) := by simpa using hnf50
   have hL50 := hO
   have hI50 := Own.part (X := (fg50 ++ ([]))) (hL50) hfs50 hfn50
   obtain ⟨r51, hr51, hs⟩ := bind_some hs
   refine pl_call Bd32 rfl (c_laws_markIntS (M := M) x46 s37.1 hg50x0 hI50 hI50.fut hr51) ?_
   rintro _ w50 ⟨fi50x0, rfl, hC50, hvi50x0, hOc50⟩
   obtain ⟨fq50, hvq50, hsq50⟩ := hput50 w50 (fg50 ++ ([])) r51.2 fi50x0 hC50 (fun q hq => by simpa using hq) (os_unval hvi50x0) (by simpa using hOc50.1) (fun q hq => (hOc50.2.1 q (by simpa using hq)).2.2.imp (fun h => by simpa using h) id)
   have hC := hC.step hC50 (fun g hg => hO.inN g (hfs50 g hg))
   have hO := hO.grow hC50 hsq50 (os_nodup hvq50) hvq50.fpl
   refine pl_val (.int .i64 r51.1) (y_assign rfl) ?_
   refine c_nil ?_
   refine c_region ?_
   refine pl_val (.int .i64 s37.2.1) (y_move rfl) ?_
   refine pl_val (.int .i64 (w64 (s37.2.1 + 1))) (y_add rfl rfl) ?_
   refine pl_val (.int .i64 (w64 (s37.2.1 + 1))) (y_assign rfl) ?_
   refine c_nil ?_
   cases hs
   exact ⟨_, fq50, fr_ovl 19 ⟨rfl, rfl, rfl, trivial⟩, hC, hO, hvq50⟩
  ·skip
   refine c_condF (congrArg Value.bool hc45) ?_
   refine wp_exit ?_
   cases hs
   exact ⟨rfl, _, f43, fr_ovl 19 ⟨rfl, trivial⟩, hC, hO, hv43⟩
 ·skip
  exact ⟨_, pf0, fr_ovl 19 ⟨rfl, rfl, rfl, trivial⟩, hC, hO, h0⟩
 ·cases o41 with
  | nx _ => exact True.intro
  | rt r_ =>
   have hs := after_rt hs
   intro a1 w1 hK
   cases hs
   exact hK
  | br s37 =>
   have hs := after_br hs
   rintro a1 w38 ⟨σ, f44, rfl, hC, hO, hv44⟩
   refine c_seq (c_region ?_)
   refine pl_val (.int .i64 s37.1) (y_move rfl) ?_
   refine pl_val (.int .i64 s37.1) (y_assign rfl) ?_
   refine c_nil ?_
   refine wp_ret ?_
   cases hs
   exact ⟨_, f44, fr_ovl 19 ⟨rfl, trivial⟩, hC, hv44, hO.top⟩

def k_laws_heldIntS (M : Nat → Prop) (w0 : World) (r : Int) (a : Act) (w : World) : Prop :=
  ∃ (σ : Nat → Value) , a = fr 21 (ovl σ [(4, (.int .i64 r))]) ∧ Chg [] w0 w
def s_laws_heldIntS (a_ : List Int) (k : Int) : Option (Int) :=
  (forC (S := Int) (R := Int) (fun k7 s5 =>
  (idx a_ k7).bind fun x11 =>
  (bif (x11 != s5) then some (.rt (-1)) else some (.nx (w64 (s5 + 1))))) 0 (a_.length : Int) k).bind fun o9 => after o9 (fun r_ => some r_) (fun s5 =>
  some s5)
set_option maxHeartbeats 4000000 in
theorem c_laws_heldIntS {M : Nat → Prop} {w : World} {pa0 : Option Addr} {pn0 pc0 : Nat} (a_ : List Int) (k : Int) (h0 : (RT.rs (RT.int .i64)).val M w (.slice pa0 pn0 pc0) a_ ([])) (hM : ∀ g, w.heap.size ≤ g → M g) {r : Int} (hs : s_laws_heldIntS a_ k = some r) :
    Gives Try.prog 37 [(.slice pa0 pn0 pc0), (.int .i64 k)] w (fun v w' => v = (.int .i64 r) ∧ Chg [] w w') := by
 refine calls_fr Try.func37 rfl Try.ntmps37 (Nat.le_of_ble_eq_true rfl) ?_
 have hO := Own.start (N := Nw w []) hM Nw.fut
 have hC := Chg.refl [] w
 unfold s_laws_heldIntS at hs
 refine wp_mono (Q := KPost (k_laws_heldIntS M w r)) ?_ (fun e a w1 h => ?_)
 rotate_left
 ·cases e
  case ret =>
   obtain ⟨σ, rfl, hrest⟩ := h
   exact ret1x Try.results37 (res_tmp rfl) ⟨rfl, hrest⟩
  all_goals exact (h : False).elim
 refine c_seq (c_region ?_)
 refine pl_val (.int .i64 0) (y_assign rfl) ?_
 refine c_nil ?_
 refine c_seq ?_
 refine c_seq (c_region ?_)
 refine pl_val (.int .i64 0) (y_assign rfl) ?_
 refine c_nil ?_
 obtain ⟨o9, hl10, hs⟩ := bind_some hs
 refine wp_block ?_
 refine wp_forC (id := 0) (a_.length : Int) (I := fun k7 s5 a w6 => ∃ (σ : Nat → Value), a = fr 21 (ovl σ [(0, (.slice pa0 pn0 pc0)), (1, (.int .i64 s5)), (5, (.int .i64 k7))]) ∧ Chg [] w w6 ∧ Own (Nw w []) M w6 ([]) ∧ (RT.rs (RT.int .i64)).val M w6 (.slice pa0 pn0 pc0) a_ ([])) (J := fun s5 a w6 => ∃ (σ : Nat → Value), a = fr 21 (ovl σ [(1, (.int .i64 s5))]) ∧ Chg [] w w6 ∧ Own (Nw w []) M w6 ([]) ∧ (RT.rs (RT.int .i64)).val M w6 (.slice pa0 pn0 pc0) a_ ([])) (K := (k_laws_heldIntS M w)) ?_ ?_ 0 k o9 _ _ ?_ hl10 ?_
 ·rintro k7 s5 a w6 ⟨σ, rfl, hC, hO, h0⟩ hlt
  refine c_seq ?_
  refine c_seq (c_region ?_)
  refine pl_val (.int .i64 k7) (y_move rfl) ?_
  refine pl_val (.slice pa0 pn0 pc0) (y_move rfl) ?_
  refine pl_val (.int .i64 (a_.length : Int)) (y_len' Sl22 (rs_len h0) rfl) ?_
  refine pl_val (.bool (decide (k7 < (a_.length : Int)))) (y_lss rfl rfl) ?_
  refine c_nil ?_
  refine c_condF (congrArg Value.bool (decide_eq_false hlt)) ?_
  refine wp_exit ?_
  exact ⟨rfl, _, fr_ovl 21 ⟨rfl, trivial⟩, hC, hO, h0⟩
 ·rintro k7 s5 o9 a w6 ⟨σ, rfl, hC, hO, h0⟩ hlt hw hs
  refine c_seq ?_
  refine c_seq (c_region ?_)
  refine pl_val (.int .i64 k7) (y_move rfl) ?_
  refine pl_val (.slice pa0 pn0 pc0) (y_move rfl) ?_
  refine pl_val (.int .i64 (a_.length : Int)) (y_len' Sl22 (rs_len h0) rfl) ?_
  refine pl_val (.bool (decide (k7 < (a_.length : Int)))) (y_lss rfl rfl) ?_
  refine c_nil ?_
  refine c_condT (congrArg Value.bool (decide_eq_true hlt)) ?_
  refine wp_skip ?_
  refine c_seq ?_
  refine wp_block ?_
  refine c_seq ?_
  refine c_seq (c_region ?_)
  refine pl_val (.slice pa0 pn0 pc0) (y_move rfl) ?_
  refine pl_val (.int .i64 k7) (y_move rfl) ?_
  obtain ⟨x11, hx11, hs⟩ := bind_some hs
  obtain ⟨b12, o12, hp12, ha12⟩ := rs_idx Sl22 Sz3 h0 hx11
  refine pl_val (.pointer (some ⟨b12, o12, none⟩)) (hp12 _ _ _ _ _ _ _ _ _ rfl rfl) ?_
  refine pl_val (.int .i64 x11) (y_load rfl ((at_load_int Ag3 Sz3 ha12) _ (Chg.refl _ _))) ?_
  refine pl_val (.int .i64 s5) (y_move rfl) ?_
  refine pl_val (.bool (x11 != s5)) (y_neq rfl rfl) ?_
  refine c_nil ?_
  rcases bif_some hs with ⟨hc13, hs⟩ | ⟨hc13, hs⟩
  ·skip
   refine c_condT (congrArg Value.bool hc13) ?_
   refine c_seq (c_region ?_)
   refine pl_val (.int .i64 (-1)) (y_assign rfl) ?_
   refine c_nil ?_
   refine wp_ret ?_
   cases hs
   exact ⟨_, fr_ovl 21 ⟨rfl, trivial⟩, hC⟩
  ·skip
   refine c_condF (congrArg Value.bool hc13) ?_
   refine wp_skip ?_
   refine c_region ?_
   refine pl_val (.int .i64 s5) (y_move rfl) ?_
   refine pl_val (.int .i64 (w64 (s5 + 1))) (y_add rfl rfl) ?_
   refine pl_val (.int .i64 (w64 (s5 + 1))) (y_assign rfl) ?_
   refine c_nil ?_
   refine c_region ?_
   refine pl_val (.int .i64 k7) (y_move rfl) ?_
   refine pl_val (.int .i64 (w64 (k7 + 1))) (y_add rfl rfl) ?_
   refine pl_val (.int .i64 (w64 (k7 + 1))) (y_assign rfl) ?_
   refine c_nil ?_
   cases hs
   exact ⟨_, fr_ovl 21 ⟨rfl, rfl, congrArg (Value.int .i64) hw, trivial⟩, hC, hO, h0⟩
 ·skip
  exact ⟨_, fr_ovl 21 ⟨rfl, rfl, rfl, trivial⟩, hC, hO, h0⟩
 ·cases o9 with
  | nx _ => exact True.intro
  | rt r_ =>
   have hs := after_rt hs
   intro a1 w1 hK
   cases hs
   exact hK
  | br s5 =>
   have hs := after_br hs
   rintro a1 w6 ⟨σ, rfl, hC, hO, h0⟩
   refine c_seq (c_region ?_)
   refine pl_val (.int .i64 s5) (y_move rfl) ?_
   refine pl_val (.int .i64 s5) (y_assign rfl) ?_
   refine c_nil ?_
   refine wp_ret ?_
   cases hs
   exact ⟨_, fr_ovl 21 ⟨rfl, trivial⟩, hC⟩

theorem Bd37 : Bodied Try.prog 37 := bodied Try.func37 (by kernel_rfl) rfl

def k_laws_heldIntSS (M : Nat → Prop) (w0 : World) (r : Int) (a : Act) (w : World) : Prop :=
  ∃ (σ : Nat → Value) , a = fr 21 (ovl σ [(4, (.int .i64 r))]) ∧ Chg [] w0 w
def s_laws_heldIntSS (a_ : List (List Int)) (k : Int) : Option (Int) :=
  (forC (S := Int) (R := Int) (fun k11 s9 =>
  (idx a_ k11).bind fun x15 =>
  (s_laws_heldIntS x15 s9).bind fun r20 =>
  (bif (decide (r20 < 0)) then some (.rt (-1)) else some (.nx r20))) 0 (a_.length : Int) k).bind fun o13 => after o13 (fun r_ => some r_) (fun s9 =>
  some s9)
set_option maxHeartbeats 4000000 in
theorem c_laws_heldIntSS {M : Nat → Prop} {w : World} {pa0 : Option Addr} {pn0 pc0 : Nat} (a_ : List (List Int)) (k : Int) (h0 : (RT.rs (RT.rs (RT.int .i64))).val M w (.slice pa0 pn0 pc0) a_ ([])) (hM : ∀ g, w.heap.size ≤ g → M g) {r : Int} (hs : s_laws_heldIntSS a_ k = some r) :
    Gives Try.prog 34 [(.slice pa0 pn0 pc0), (.int .i64 k)] w (fun v w' => v = (.int .i64 r) ∧ Chg [] w w') := by
 refine calls_fr Try.func34 rfl Try.ntmps34 (Nat.le_of_ble_eq_true rfl) ?_
 have hO := Own.start (N := Nw w []) hM Nw.fut
 have hC := Chg.refl [] w
 unfold s_laws_heldIntSS at hs
 refine wp_mono (Q := KPost (k_laws_heldIntSS M w r)) ?_ (fun e a w1 h => ?_)
 rotate_left
 ·cases e
  case ret =>
   obtain ⟨σ, rfl, hrest⟩ := h
   exact ret1x Try.results34 (res_tmp rfl) ⟨rfl, hrest⟩
  all_goals exact (h : False).elim
 refine c_seq (c_region ?_)
 refine pl_val (.int .i64 0) (y_assign rfl) ?_
 refine c_nil ?_
 refine c_seq ?_
 refine c_seq (c_region ?_)
 refine pl_val (.int .i64 0) (y_assign rfl) ?_
 refine c_nil ?_
 obtain ⟨o13, hl14, hs⟩ := bind_some hs
 refine wp_block ?_
 refine wp_forC (id := 0) (a_.length : Int) (I := fun k11 s9 a w10 => ∃ (σ : Nat → Value), a = fr 21 (ovl σ [(0, (.slice pa0 pn0 pc0)), (1, (.int .i64 s9)), (5, (.int .i64 k11))]) ∧ Chg [] w w10 ∧ Own (Nw w []) M w10 ([]) ∧ (RT.rs (RT.rs (RT.int .i64))).val M w10 (.slice pa0 pn0 pc0) a_ ([])) (J := fun s9 a w10 => ∃ (σ : Nat → Value), a = fr 21 (ovl σ [(1, (.int .i64 s9))]) ∧ Chg [] w w10 ∧ Own (Nw w []) M w10 ([]) ∧ (RT.rs (RT.rs (RT.int .i64))).val M w10 (.slice pa0 pn0 pc0) a_ ([])) (K := (k_laws_heldIntSS M w)) ?_ ?_ 0 k o13 _ _ ?_ hl14 ?_
 ·rintro k11 s9 a w10 ⟨σ, rfl, hC, hO, h0⟩ hlt
  refine c_seq ?_
  refine c_seq (c_region ?_)
  refine pl_val (.int .i64 k11) (y_move rfl) ?_
  refine pl_val (.slice pa0 pn0 pc0) (y_move rfl) ?_
  refine pl_val (.int .i64 (a_.length : Int)) (y_len' Sl41 (rs_len h0) rfl) ?_
  refine pl_val (.bool (decide (k11 < (a_.length : Int)))) (y_lss rfl rfl) ?_
  refine c_nil ?_
  refine c_condF (congrArg Value.bool (decide_eq_false hlt)) ?_
  refine wp_exit ?_
  exact ⟨rfl, _, fr_ovl 21 ⟨rfl, trivial⟩, hC, hO, h0⟩
 ·rintro k11 s9 o13 a w10 ⟨σ, rfl, hC, hO, h0⟩ hlt hw hs
  refine c_seq ?_
  refine c_seq (c_region ?_)
  refine pl_val (.int .i64 k11) (y_move rfl) ?_
  refine pl_val (.slice pa0 pn0 pc0) (y_move rfl) ?_
  refine pl_val (.int .i64 (a_.length : Int)) (y_len' Sl41 (rs_len h0) rfl) ?_
  refine pl_val (.bool (decide (k11 < (a_.length : Int)))) (y_lss rfl rfl) ?_
  refine c_nil ?_
  refine c_condT (congrArg Value.bool (decide_eq_true hlt)) ?_
  refine wp_skip ?_
  refine c_seq ?_
  refine wp_block ?_
  refine c_seq (c_region ?_)
  refine pl_val (.slice pa0 pn0 pc0) (y_move rfl) ?_
  refine pl_val (.int .i64 k11) (y_move rfl) ?_
  obtain ⟨x15, hx15, hs⟩ := bind_some hs
  obtain ⟨b16, o16, hp16, ha16⟩ := rs_idx Sl41 Sz22 h0 hx15
  refine pl_val (.pointer (some ⟨b16, o16, none⟩)) (hp16 _ _ _ _ _ _ _ _ _ rfl rfl) ?_
  obtain ⟨v17, hl17, hv17⟩ := at_load Ag22 Sz22 (fun _ => rfl) ha16
  obtain ⟨a17, n17, c17, rfl⟩ := rs_sl hv17
  refine pl_val (.slice a17 n17 c17) (y_load rfl (hl17 _ (Chg.refl _ _))) ?_
  refine pl_val (.int .i64 s9) (y_move rfl) ?_
  obtain ⟨r20, hr20, hs⟩ := bind_some hs
  refine pl_call Bd37 rfl (c_laws_heldIntS (M := M) x15 s9 hv17 hO.fut hr20) ?_
  rintro _ w19 ⟨rfl, hC19⟩
  have h0 := h0.ext hC19
  have hv17 := hv17.ext hC19
  have hC := hC.ext hC19
  have hO := hO.ext hC19
  refine pl_val (.int .i64 r20) (y_assign rfl) ?_
  refine c_nil ?_
  refine c_seq (c_region ?_)
  refine pl_val (.int .i64 r20) (y_move rfl) ?_
  refine pl_val (.bool (decide (r20 < 0))) (y_lss rfl rfl) ?_
  refine c_nil ?_
  rcases bif_some hs with ⟨hc21, hs⟩ | ⟨hc21, hs⟩
  ·skip
   refine c_condT (congrArg Value.bool hc21) ?_
   refine c_seq (c_region ?_)
   refine pl_val (.int .i64 (-1)) (y_assign rfl) ?_
   refine c_nil ?_
   refine wp_ret ?_
   cases hs
   exact ⟨_, fr_ovl 21 ⟨rfl, trivial⟩, hC⟩
  ·skip
   refine c_condF (congrArg Value.bool hc21) ?_
   refine wp_skip ?_
   refine c_region ?_
   refine pl_val (.int .i64 k11) (y_move rfl) ?_
   refine pl_val (.int .i64 (w64 (k11 + 1))) (y_add rfl rfl) ?_
   refine pl_val (.int .i64 (w64 (k11 + 1))) (y_assign rfl) ?_
   refine c_nil ?_
   cases hs
   exact ⟨_, fr_ovl 21 ⟨rfl, rfl, congrArg (Value.int .i64) hw, trivial⟩, hC, hO, h0⟩
 ·skip
  exact ⟨_, fr_ovl 21 ⟨rfl, rfl, rfl, trivial⟩, hC, hO, h0⟩
 ·cases o13 with
  | nx _ => exact True.intro
  | rt r_ =>
   have hs := after_rt hs
   intro a1 w1 hK
   cases hs
   exact hK
  | br s9 =>
   have hs := after_br hs
   rintro a1 w10 ⟨σ, rfl, hC, hO, h0⟩
   refine c_seq (c_region ?_)
   refine pl_val (.int .i64 s9) (y_move rfl) ?_
   refine pl_val (.int .i64 s9) (y_assign rfl) ?_
   refine c_nil ?_
   refine wp_ret ?_
   cases hs
   exact ⟨_, fr_ovl 21 ⟨rfl, trivial⟩, hC⟩

theorem Ag30 : AggT Try.prog 30 true := fun _ => by kernel_rfl

theorem Sz30 : SzT Try.prog 30 2 := ⟨_, rfl, rfl⟩

theorem Bd17 : Bodied Try.prog 17 := bodied Try.func17 (by kernel_rfl) rfl

theorem Bd19 : Bodied Try.prog 19 := bodied Try.func19 (by kernel_rfl) rfl

theorem Bd28 : Bodied Try.prog 28 := bodied Try.func28 (by kernel_rfl) rfl

theorem Bd29 : Bodied Try.prog 29 := bodied Try.func29 (by kernel_rfl) rfl

theorem Bd30 : Bodied Try.prog 30 := bodied Try.func30 (by kernel_rfl) rfl

theorem Bd21 : Bodied Try.prog 21 := bodied Try.func21 (by kernel_rfl) rfl

theorem Bd31 : Bodied Try.prog 31 := bodied Try.func31 (by kernel_rfl) rfl

theorem Bd33 : Bodied Try.prog 33 := bodied Try.func33 (by kernel_rfl) rfl

theorem Bd34 : Bodied Try.prog 34 := bodied Try.func34 (by kernel_rfl) rfl

end Go.Proofs
