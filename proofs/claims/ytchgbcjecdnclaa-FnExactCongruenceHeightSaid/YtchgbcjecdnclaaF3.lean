/- What functions of the program compute, as plain functions, and that a call gives just that. Conditions: those named in each theorem. -/
import Derived.Test.YtchgbcjecdnclaaF2
set_option linter.unusedVariables false
namespace Go.Proofs
open Go.G Go.RowKit
set_option maxRecDepth 100000

def k_impl_allCongruences (M : Nat → Prop) (w0 : World) (r : (List (List Int)) × Bool) (a : Act) (w : World) : Prop :=
  ∃ (σ : Nat → Value) (ra0 : Option Addr) (rn0 rc0 : Nat) (rf0 : List Nat), a = fr 85 (ovl σ [(2, (.slice ra0 rn0 rc0)), (3, (.bool r.2))]) ∧ Chg [] w0 w ∧ (RT.os 22 (RT.os 3 (RT.int .i64))).val M w (.slice ra0 rn0 rc0) r.1 rf0 ∧ Own (Nw w0 []) (fun _ => True) w (rf0 ++ ([]))
def s_impl_allCongruences (a_ : Int × (List (Int × (List Int)))) : Option ((List (List Int)) × Bool) :=
  (forC (S := (List (List Int))) (R := (List (List Int)) × Bool) (fun k41 s39 =>
  (forC (S := (List (List Int))) (R := (List (List Int)) × Bool) (fun k63 s61 =>
  (s_impl_congruenceOf (a_.1, a_.2) ([(k41, k63)])).bind fun r74 =>
  (app s61 ([r74])).bind fun y79 =>
  some (.nx y79)) (w64 (k41 + 1)) a_.1 s39).bind fun o65 => after o65 (fun r_ => some (.rt r_)) (fun s61 =>
  some (.nx s61))) 0 a_.1 ([])).bind fun o43 => after o43 (fun r_ => some r_) (fun s39 =>
  (s_impl_identityOf a_.1).bind fun r82 =>
  (idx ([r82]) 0).bind fun x88 =>
  (s_impl_keyOf x88).bind fun r93 =>
  (iter (S := (List (List Int)) × Int × (List (ByteArray × Bool))) (R := (List (List Int)) × Bool) (fun s640 =>
  (bif (decide (s640.2.1 < (s640.1.length : Int))) then (forR (S := (List (List Int)) × (List (ByteArray × Bool))) (R := (List (List Int)) × Bool) (fun _ x737 s734 =>
  (idx s734.1 s640.2.1).bind fun x749 =>
  (s_impl_join x749 x737).bind fun r754 =>
  (s_impl_keyOf r754).bind fun r757 =>
  (bif (!((mget s734.2 r757).getD false)) then (app s734.1 ([r754])).bind fun y781 =>
  some (y781, mput s734.2 r757 true) else some (s734.1, s734.2)).bind fun s770 =>
  (bif (decide (200 < (s770.1.length : Int))) then some (.rt ([], false)) else some (.nx (s770.1, s770.2)))) 0 s39 (s640.1, s640.2.2)).bind fun o738 => after o738 (fun r_ => some (.rt r_)) (fun s734 =>
  some (.nx (s734.1, w64 (s640.2.1 + 1), s734.2))) else some (.br (s640.1, s640.2.1, s640.2.2)))) FU ([r82], 0, mput ([]) r93 true)).bind fun o644 => after o644 (fun r_ => some r_) (fun s640 =>
  (s_impl_sortRows__impl_compareCongruences s640.1).bind fun r785 =>
  some (r785, true)))
set_option maxHeartbeats 4000000 in
theorem c_impl_allCongruences {M : Nat → Prop} {w : World} {pa0 : Option Addr} {pn0 pc0 : Nat} (a_ : Int × (List (Int × (List Int)))) (h0 : (RT.rs (RT.pr (RT.int .i64) (RT.rs (RT.int .i64)))).val M w (.slice pa0 pn0 pc0) a_.2 ([])) (hM : ∀ g, w.heap.size ≤ g → M g) {r : (List (List Int)) × Bool} (hs : s_impl_allCongruences a_ = some r) :
    Gives Try.prog 110 [(.agg #[(.int .i64 a_.1), (.slice pa0 pn0 pc0)])] w (fun v w' => ∃ (ra0 : Option Addr) (rn0 rc0 : Nat) (rf0 : List Nat), v = (.tuple #[(.slice ra0 rn0 rc0), (.bool r.2)]) ∧ Chg [] w w' ∧ (RT.os 22 (RT.os 3 (RT.int .i64))).val M w' (.slice ra0 rn0 rc0) r.1 rf0 ∧ Own (Nw w []) (fun _ => True) w' (rf0 ++ ([]))) := by
 refine calls_fr Try.func110 rfl Try.ntmps110 (Nat.le_of_ble_eq_true rfl) ?_
 have hO := Own.start (N := Nw w []) hM Nw.fut
 have hC := Chg.refl [] w
 unfold s_impl_allCongruences at hs
 refine wp_mono (Q := KPost (k_impl_allCongruences M w r)) ?_ (fun e a w1 h => ?_)
 rotate_left
 ·cases e
  case ret =>
   obtain ⟨σ, ra0, rn0, rc0, rf0, rfl, hrest⟩ := h
   exact ret2x Try.results110 (res_tmp rfl) (res_tmp rfl) ⟨ra0, rn0, rc0, rf0, rfl, hrest⟩
  all_goals exact (h : False).elim
 refine c_seq (c_region ?_)
 obtain ⟨w2, g2, ew2, eg2, hC2, hb2⟩ := new_block w [(.int .i64 a_.1), (.slice pa0 pn0 pc0)] 35
 refine pl_val (w' := w2) (.pointer (some ⟨g2, 0, none⟩)) (y_box rfl (by rw [ew2, eg2]; kernel_rfl)) ?_
 have h0 := h0.ext hC2
 have hC := hC.ext hC2
 have hO := hO.new1 hC2 eg2 hb2.lt
 refine pl_val (.slice none 0 0) (y_assign rfl) ?_
 refine pl_val (.bool false) (y_assign rfl) ?_
 refine c_nil ?_
 refine c_seq (c_region ?_)
 obtain ⟨w3, g3, ew3, eg3, hC3, hb3⟩ := new_block w2 [] 22
 refine pl_val (w' := w3) (.slice (some ⟨g3, 0, none⟩) 0 0) (y_bslice rfl (by rw [ew3, eg3]; kernel_rfl)) ?_
 have h0 := h0.ext hC3
 have hb2 := hb2.chg hC3 (fun h => nomatch h)
 have hC := hC.ext hC3
 have hO := hO.new1 hC3 eg3 hb3.lt
 have hv3 := os_of_box (r := (RT.os 3 (RT.int .i64))) (M := M) (css := []) (fps := []) (xs := ([] : List (List Int))) hb3 trivial (Nat.zero_le _) (List.nodup_cons.2 ⟨(fun h => nomatch h), List.nodup_nil⟩)
 have hv3 : (RT.os 22 (RT.os 3 (RT.int .i64))).val M w3 (.slice (some ⟨g3, 0, none⟩) 0 0) [] [g3] := hv3
 refine pl_val (.slice (some ⟨g3, 0, none⟩) 0 0) (y_assign rfl) ?_
 refine c_nil ?_
 refine c_seq ?_
 refine c_seq (c_region ?_)
 refine pl_val (.int .i64 0) (y_assign rfl) ?_
 refine c_nil ?_
 obtain ⟨o43, hl44, hs⟩ := bind_some hs
 refine wp_block ?_
 refine wp_forC (id := 0) a_.1 (I := fun k41 s39 a w40 => ∃ (σ : Nat → Value) (a45 : Option Addr) (n45 : Nat) (c45 : Nat) (f45 : List Nat), a = fr 85 (ovl σ [(1, (.pointer (some ⟨g2, 0, none⟩))), (4, (.slice a45 n45 c45)), (5, (.int .i64 k41))]) ∧ Chg [] w w40 ∧ Own (Nw w []) M w40 (f45 ++ (([g2]) ++ [])) ∧ (RT.rs (RT.pr (RT.int .i64) (RT.rs (RT.int .i64)))).val M w40 (.slice pa0 pn0 pc0) a_.2 ([]) ∧ BoxV w40 g2 35 [(.int .i64 a_.1), (.slice pa0 pn0 pc0)] ∧ (RT.os 22 (RT.os 3 (RT.int .i64))).val M w40 (.slice a45 n45 c45) s39 f45) (J := fun s39 a w40 => ∃ (σ : Nat → Value) (a47 : Option Addr) (n47 : Nat) (c47 : Nat) (f47 : List Nat), a = fr 85 (ovl σ [(1, (.pointer (some ⟨g2, 0, none⟩))), (4, (.slice a47 n47 c47))]) ∧ Chg [] w w40 ∧ Own (Nw w []) M w40 (f47 ++ (([g2]) ++ [])) ∧ (RT.rs (RT.pr (RT.int .i64) (RT.rs (RT.int .i64)))).val M w40 (.slice pa0 pn0 pc0) a_.2 ([]) ∧ BoxV w40 g2 35 [(.int .i64 a_.1), (.slice pa0 pn0 pc0)] ∧ (RT.os 22 (RT.os 3 (RT.int .i64))).val M w40 (.slice a47 n47 c47) s39 f47) (K := (k_impl_allCongruences M w)) ?_ ?_ 0 ([]) o43 _ _ ?_ hl44 ?_
 ·rintro k41 s39 a w40 ⟨σ, a45, n45, c45, f45, rfl, hC, hO, h0, hb2, hv45⟩ hlt
  refine c_seq ?_
  refine c_seq (c_region ?_)
  refine pl_val (.int .i64 k41) (y_move rfl) ?_
  refine pl_val (.pointer (some ⟨g2, 0, none⟩)) (y_faddr rfl Fa35x0) ?_
  refine pl_val (.int .i64 a_.1) (y_load rfl ((box_load Ag3 Sz3 hb2 [] [(.int .i64 a_.1)] [(.slice pa0 pn0 pc0)] rfl rfl (fun _ => rfl)) _ (Chg.refl _ _))) ?_
  refine pl_val (.bool (decide (k41 < a_.1))) (y_lss rfl rfl) ?_
  refine c_nil ?_
  refine c_condF (congrArg Value.bool (decide_eq_false hlt)) ?_
  refine wp_exit ?_
  have hO := hO.fr1
  have hO := hO.fr1
  exact ⟨rfl, _, a45, n45, c45, f45, fr_ovl 85 ⟨rfl, rfl, trivial⟩, hC, hO, h0, hb2, hv45⟩
 ·rintro k41 s39 o43 a w40 ⟨σ, a45, n45, c45, f45, rfl, hC, hO, h0, hb2, hv45⟩ hlt hw hs
  refine c_seq ?_
  refine c_seq (c_region ?_)
  refine pl_val (.int .i64 k41) (y_move rfl) ?_
  refine pl_val (.pointer (some ⟨g2, 0, none⟩)) (y_faddr rfl Fa35x0) ?_
  refine pl_val (.int .i64 a_.1) (y_load rfl ((box_load Ag3 Sz3 hb2 [] [(.int .i64 a_.1)] [(.slice pa0 pn0 pc0)] rfl rfl (fun _ => rfl)) _ (Chg.refl _ _))) ?_
  refine pl_val (.bool (decide (k41 < a_.1))) (y_lss rfl rfl) ?_
  refine c_nil ?_
  refine c_condT (congrArg Value.bool (decide_eq_true hlt)) ?_
  refine wp_skip ?_
  refine c_seq ?_
  refine wp_block ?_
  refine c_seq (c_region ?_)
  refine pl_val (.int .i64 k41) (y_move rfl) ?_
  refine pl_val (.int .i64 (w64 (k41 + 1))) (y_add rfl rfl) ?_
  refine pl_val (.int .i64 (w64 (k41 + 1))) (y_assign rfl) ?_
  refine c_nil ?_
  obtain ⟨o65, hl66, hs⟩ := bind_some hs
  refine wp_block ?_
  refine wp_forC (id := 2) a_.1 (I := fun k63 s61 a w62 => ∃ (σ : Nat → Value) (a67 : Option Addr) (n67 : Nat) (c67 : Nat) (f67 : List Nat), a = fr 85 (ovl σ [(1, (.pointer (some ⟨g2, 0, none⟩))), (4, (.slice a67 n67 c67)), (5, (.int .i64 k41)), (6, (.int .i64 k63))]) ∧ Chg [] w w62 ∧ Own (Nw w []) M w62 (f67 ++ (([g2]) ++ [])) ∧ (RT.rs (RT.pr (RT.int .i64) (RT.rs (RT.int .i64)))).val M w62 (.slice pa0 pn0 pc0) a_.2 ([]) ∧ BoxV w62 g2 35 [(.int .i64 a_.1), (.slice pa0 pn0 pc0)] ∧ (RT.os 22 (RT.os 3 (RT.int .i64))).val M w62 (.slice a67 n67 c67) s61 f67) (J := fun s61 a w62 => ∃ (σ : Nat → Value) (a69 : Option Addr) (n69 : Nat) (c69 : Nat) (f69 : List Nat), a = fr 85 (ovl σ [(1, (.pointer (some ⟨g2, 0, none⟩))), (4, (.slice a69 n69 c69)), (5, (.int .i64 k41))]) ∧ Chg [] w w62 ∧ Own (Nw w []) M w62 (f69 ++ (([g2]) ++ [])) ∧ (RT.rs (RT.pr (RT.int .i64) (RT.rs (RT.int .i64)))).val M w62 (.slice pa0 pn0 pc0) a_.2 ([]) ∧ BoxV w62 g2 35 [(.int .i64 a_.1), (.slice pa0 pn0 pc0)] ∧ (RT.os 22 (RT.os 3 (RT.int .i64))).val M w62 (.slice a69 n69 c69) s61 f69) (K := (k_impl_allCongruences M w)) ?_ ?_ (w64 (k41 + 1)) s39 o65 _ _ ?_ hl66 ?_
  ·rintro k63 s61 a w62 ⟨σ, a67, n67, c67, f67, rfl, hC, hO, h0, hb2, hv67⟩ hlt
   refine c_seq ?_
   refine c_seq (c_region ?_)
   refine pl_val (.int .i64 k63) (y_move rfl) ?_
   refine pl_val (.pointer (some ⟨g2, 0, none⟩)) (y_faddr rfl Fa35x0) ?_
   refine pl_val (.int .i64 a_.1) (y_load rfl ((box_load Ag3 Sz3 hb2 [] [(.int .i64 a_.1)] [(.slice pa0 pn0 pc0)] rfl rfl (fun _ => rfl)) _ (Chg.refl _ _))) ?_
   refine pl_val (.bool (decide (k63 < a_.1))) (y_lss rfl rfl) ?_
   refine c_nil ?_
   refine c_condF (congrArg Value.bool (decide_eq_false hlt)) ?_
   refine wp_exit ?_
   have hO := hO.fr1
   have hO := hO.fr1
   exact ⟨rfl, _, a67, n67, c67, f67, fr_ovl 85 ⟨rfl, rfl, rfl, trivial⟩, hC, hO, h0, hb2, hv67⟩
  ·rintro k63 s61 o65 a w62 ⟨σ, a67, n67, c67, f67, rfl, hC, hO, h0, hb2, hv67⟩ hlt hw hs
   refine c_seq ?_
   refine c_seq (c_region ?_)
   refine pl_val (.int .i64 k63) (y_move rfl) ?_
   refine pl_val (.pointer (some ⟨g2, 0, none⟩)) (y_faddr rfl Fa35x0) ?_
   refine pl_val (.int .i64 a_.1) (y_load rfl ((box_load Ag3 Sz3 hb2 [] [(.int .i64 a_.1)] [(.slice pa0 pn0 pc0)] rfl rfl (fun _ => rfl)) _ (Chg.refl _ _))) ?_
   refine pl_val (.bool (decide (k63 < a_.1))) (y_lss rfl rfl) ?_
   refine c_nil ?_
   refine c_condT (congrArg Value.bool (decide_eq_true hlt)) ?_
   refine wp_skip ?_
   refine c_seq ?_
   refine wp_block ?_
   refine c_region ?_
   refine pl_val (.slice a67 n67 c67) (y_move rfl) ?_
   refine pl_val (.agg #[(.int .i64 a_.1), (.slice pa0 pn0 pc0)]) (y_load rfl ((box_load Ag35 Sz35 hb2 [] [(.int .i64 a_.1), (.slice pa0 pn0 pc0)] [] rfl rfl (fun h => nomatch h)) _ (Chg.refl _ _))) ?_
   refine pl_val (.int .i64 k41) (y_move rfl) ?_
   refine pl_val (.int .i64 k63) (y_move rfl) ?_
   refine pl_val (.agg #[(.int .i64 k41), (.int .i64 k63)]) (y_build rfl (by kernel_rfl)) ?_
   obtain ⟨w71, g71, ew71, eg71, hC71, hb71⟩ := new_block w62 [(.int .i64 k41), (.int .i64 k63)] 103
   refine pl_val (w' := w71) (.slice (some ⟨g71, 0, none⟩) 1 1) (y_bslice rfl (by rw [ew71, eg71]; kernel_rfl)) ?_
   have h0 := h0.ext hC71
   have hb2 := hb2.chg hC71 (fun h => nomatch h)
   have hv67 := hv67.ext hC71
   have hC := hC.ext hC71
   have hO := hO.new1 hC71 eg71 hb71.lt
   have hv71 := os_of_box (r := (RT.pr (RT.int .i64) (RT.int .i64))) (M := M) (css := [[(.int .i64 k41), (.int .i64 k63)]]) (fps := [([] : List Nat)]) (xs := ([(k41, k63)] : List (Int × Int))) hb71 ⟨⟨_, _, _, _, rfl, rfl, ⟨rfl, rfl⟩, ⟨rfl, rfl⟩⟩, trivial⟩ (Nat.le_of_ble_eq_true rfl) (List.nodup_cons.2 ⟨(fun h => nomatch h), List.nodup_nil⟩)
   have hv71 : (RT.os 103 (RT.pr (RT.int .i64) (RT.int .i64))).val M w71 (.slice (some ⟨g71, 0, none⟩) 1 1) [(k41, k63)] [g71] := hv71
   obtain ⟨r74, hr74, hs⟩ := bind_some hs
   refine pl_call Bd125 rfl (c_impl_congruenceOf (M := (Less M ([g71]))) (a_.1, a_.2) ([(k41, k63)]) (h0.sub Less.sub) (((Frz.os (Frz.pr Frz.int Frz.int))).val hv71 Less.sub Less.not) hO.less.fut hr74) ?_
   rintro _ w73 ⟨a73x0, n73x0, c73x0, f73x0, rfl, hC73, hv73x0, hOc73⟩
   have h0 := h0.ext hC73
   have hb2 := hb2.chg hC73 (fun h => nomatch h)
   have hv67 := hv67.ext hC73
   have hv71 := hv71.ext hC73
   have hC := hC.ext hC73
   have hO := Own.join0 hO hC73 hOc73
   have hO := hO.perm (R := f73x0 ++ (([g71]) ++ (f67 ++ (([g2]) ++ ([]))))) (by simp)
   have hv73x0 := hv73x0.free (M' := M) (Free.os Free.int)
   obtain ⟨w76, g76, ew76, eg76, hC76, hb76⟩ := new_block w73 [(.slice a73x0 n73x0 c73x0)] 22
   refine pl_val (w' := w76) (.slice (some ⟨g76, 0, none⟩) 1 1) (y_bslice rfl (by rw [ew76, eg76]; kernel_rfl)) ?_
   have h0 := h0.ext hC76
   have hb2 := hb2.chg hC76 (fun h => nomatch h)
   have hv67 := hv67.ext hC76
   have hv71 := hv71.ext hC76
   have hv73x0 := hv73x0.ext hC76
   have hC := hC.ext hC76
   have hO := hO.new1 hC76 eg76 hb76.lt
   have hO := hO.perm (R := (g76 :: ((f73x0) ++ ([]))) ++ (([g71]) ++ (f67 ++ (([g2]) ++ ([]))))) (by simp)
   have hnd76 := hO.nd
   have hv76 := os_of_box (r := (RT.os 3 (RT.int .i64))) (M := M) (css := [[(.slice a73x0 n73x0 c73x0)]]) (fps := [(f73x0 : List Nat)]) (xs := ([r74] : List (List Int))) hb76 ⟨(os_unval hv73x0), trivial⟩ (Nat.le_of_ble_eq_true rfl) hnd76
   have hv76 : (RT.os 22 (RT.os 3 (RT.int .i64))).val M w76 (.slice (some ⟨g76, 0, none⟩) 1 1) [r74] (g76 :: ((f73x0) ++ ([]))) := hv76
   obtain ⟨y79, hy79, hs⟩ := bind_some hs
   have hO := hO.fr2
   obtain ⟨a78, n78, c78, w78, f78, hr78, hC78, hf78, hv78⟩ := app_os Rw41 hy79 hv67 hv76 hO.inM (fun g hg hq => hO.apart g hq (mem_l hg))
   have hG78 := os_block hv67
   refine pl_val (w' := w78) (.slice a78 n78 c78) (y_append rfl rfl (hr78 _)) ?_
   have hO := hO.fr1
   have hO := hO.fr1
   have h0 := h0.mut hC78 (fun g hg => hO.inM g (hG78 g hg)) (fun _ _ h => nomatch h)
   have hb2 := hb2.chg hC78 (fun hg => hO.apart _ (hG78 _ hg) (mem_r (mem_r (mem_l (List.mem_singleton.2 rfl)))))
   have hv71 := hv71.mut hC78 (fun g hg => hO.inM g (hG78 g hg)) (fun g hg e => hO.apart g (hG78 g hg) (mem_r (mem_l (e))))
   have hC := hC.step hC78 (fun g hg => hO.inN g (hG78 g hg))
   have hO := hO.eat hC78 hf78 (os_nodup hv78) hv78.fpl
   refine pl_val (.slice a78 n78 c78) (y_assign rfl) ?_
   refine c_nil ?_
   refine c_region ?_
   refine pl_val (.int .i64 k63) (y_move rfl) ?_
   refine pl_val (.int .i64 (w64 (k63 + 1))) (y_add rfl rfl) ?_
   refine pl_val (.int .i64 (w64 (k63 + 1))) (y_assign rfl) ?_
   refine c_nil ?_
   cases hs
   have hO := hO.fr1
   have hO := hO.drop
   have hO := hO.fr1
   have hO := hO.fr1
   exact ⟨_, a78, n78, c78, f78, fr_ovl 85 ⟨rfl, rfl, rfl, congrArg (Value.int .i64) hw, trivial⟩, hC, hO, h0, hb2, hv78⟩
  ·skip
   have hO := hO.fr1
   have hO := hO.fr1
   exact ⟨_, a45, n45, c45, f45, fr_ovl 85 ⟨rfl, rfl, rfl, rfl, trivial⟩, hC, hO, h0, hb2, hv45⟩
  ·cases o65 with
   | nx _ => exact True.intro
   | rt r_ =>
    have hs := after_rt hs
    intro a1 w1 hK
    cases hs
    exact hK
   | br s61 =>
    have hs := after_br hs
    rintro a1 w62 ⟨σ, a69, n69, c69, f69, rfl, hC, hO, h0, hb2, hv69⟩
    refine c_region ?_
    refine pl_val (.int .i64 k41) (y_move rfl) ?_
    refine pl_val (.int .i64 (w64 (k41 + 1))) (y_add rfl rfl) ?_
    refine pl_val (.int .i64 (w64 (k41 + 1))) (y_assign rfl) ?_
    refine c_nil ?_
    cases hs
    have hO := hO.fr1
    have hO := hO.fr1
    exact ⟨_, a69, n69, c69, f69, fr_ovl 85 ⟨rfl, rfl, congrArg (Value.int .i64) hw, trivial⟩, hC, hO, h0, hb2, hv69⟩
 ·skip
  have hO := hO.fr1
  have hO := hO.fr1
  exact ⟨_, (some ⟨g3, 0, none⟩), 0, 0, ([g3]), fr_ovl 85 ⟨rfl, rfl, rfl, trivial⟩, hC, hO, h0, hb2, hv3⟩
 ·cases o43 with
  | nx _ => exact True.intro
  | rt r_ =>
   have hs := after_rt hs
   intro a1 w1 hK
   cases hs
   exact hK
  | br s39 =>
   have hs := after_br hs
   rintro a1 w40 ⟨σ, a47, n47, c47, f47, rfl, hC, hO, h0, hb2, hv47⟩
   refine c_seq (c_region ?_)
   refine pl_val (.pointer (some ⟨g2, 0, none⟩)) (y_faddr rfl Fa35x0) ?_
   refine pl_val (.int .i64 a_.1) (y_load rfl ((box_load Ag3 Sz3 hb2 [] [(.int .i64 a_.1)] [(.slice pa0 pn0 pc0)] rfl rfl (fun _ => rfl)) _ (Chg.refl _ _))) ?_
   obtain ⟨r82, hr82, hs⟩ := bind_some hs
   refine pl_call Bd126 rfl (c_impl_identityOf (M := M) a_.1  hO.fut hr82) ?_
   rintro _ w81 ⟨a81x0, n81x0, c81x0, f81x0, rfl, hC81, hv81x0, hOc81⟩
   have h0 := h0.ext hC81
   have hb2 := hb2.chg hC81 (fun h => nomatch h)
   have hv47 := hv47.ext hC81
   have hC := hC.ext hC81
   have hO := Own.join0 hO hC81 hOc81
   have hO := hO.perm (R := f81x0 ++ (f47 ++ (([g2]) ++ ([])))) (by simp)
   obtain ⟨w84, g84, ew84, eg84, hC84, hb84⟩ := new_block w81 [(.slice a81x0 n81x0 c81x0)] 22
   refine pl_val (w' := w84) (.slice (some ⟨g84, 0, none⟩) 1 1) (y_bslice rfl (by rw [ew84, eg84]; kernel_rfl)) ?_
   have h0 := h0.ext hC84
   have hb2 := hb2.chg hC84 (fun h => nomatch h)
   have hv47 := hv47.ext hC84
   have hv81x0 := hv81x0.ext hC84
   have hC := hC.ext hC84
   have hO := hO.new1 hC84 eg84 hb84.lt
   have hO := hO.perm (R := (g84 :: ((f81x0) ++ ([]))) ++ (f47 ++ (([g2]) ++ ([])))) (by simp)
   have hnd84 := hO.nd
   have hv84 := os_of_box (r := (RT.os 3 (RT.int .i64))) (M := M) (css := [[(.slice a81x0 n81x0 c81x0)]]) (fps := [(f81x0 : List Nat)]) (xs := ([r82] : List (List Int))) hb84 ⟨(os_unval hv81x0), trivial⟩ (Nat.le_of_ble_eq_true rfl) hnd84
   have hv84 : (RT.os 22 (RT.os 3 (RT.int .i64))).val M w84 (.slice (some ⟨g84, 0, none⟩) 1 1) [r82] (g84 :: ((f81x0) ++ ([]))) := hv84
   refine pl_val (.slice (some ⟨g84, 0, none⟩) 1 1) (y_assign rfl) ?_
   refine c_nil ?_
   refine c_seq (c_region ?_)
   obtain ⟨w86, b86, ew86, eb86, hC86, hv86⟩ := mo_make (enc := Value.bool) (M := M) w84
   refine pl_val (w' := w86) (.map (some b86)) (by rw [ew86, eb86]; exact y_mmap) ?_
   have hb2 := hb2.chg hC86 (fun h => nomatch h)
   have hv47 := hv47.ext hC86
   have hv84 := hv84.ext hC86
   have hC := hC.ext hC86
   have hO := hO.new (X' := [b86]) hC86 (fun q hq => by rw [List.mem_singleton.1 hq, eb86]; exact Nat.le_refl _) (List.nodup_cons.2 ⟨(fun h => nomatch h), List.nodup_nil⟩) hv86.fpl
   refine pl_val (.slice (some ⟨g84, 0, none⟩) 1 1) (y_move rfl) ?_
   obtain ⟨x88, hx88, hs⟩ := bind_some hs
   obtain ⟨g89, f89, hg89, hk89, hp89, ha89, hf89⟩ := os_idx Sl41 Sz22 hv84 hx88
   have hb89 := own_row (Frz.os Frz.int) ha89 hf89
   refine pl_val (.pointer (some ⟨g89, 0 + Int.toNat 0 * 1, none⟩)) (hp89 _ _ _ _ _ _ _ _ _ rfl rfl) ?_
   obtain ⟨v90, hl90, hrow90, hv90⟩ := at_load1 Ag22 Sz22 rfl rfl hb89
   obtain ⟨a90, n90, c90, rfl⟩ := rs_sl hv90
   refine pl_val (.slice a90 n90 c90) (y_load rfl (hl90 _ (Chg.refl _ _))) ?_
   have hO := hO.fr1
   obtain ⟨r93, hr93, hs⟩ := bind_some hs
   refine pl_call Bd127 rfl (c_impl_keyOf (M := (Less M (g84 :: ((f81x0) ++ ([]))))) x88 hv90 hO.less.fut hr93) ?_
   rintro _ w92 ⟨rfl, hC92⟩
   have hb2 := hb2.chg hC92 (fun h => nomatch h)
   have hv47 := hv47.ext hC92
   have hv84 := hv84.ext hC92
   have hv86 := hv86.ext hC92
   have hv90 := hv90.ext hC92
   have hrow90 := hrow90.chg hC92 (fun h => nomatch h)
   have hC := hC.ext hC92
   have hO := hO.ext hC92
   have hO := hO.fr1
   obtain ⟨w94, hst94, hC94, hv94⟩ := mo_put (P := Try.prog) (t := 105) (key := r93) (x := true) Try.underlying105 Try.underlying9 hv86
   refine pl_skip (w' := w94) (ys_ins rfl rfl rfl hst94) ?_
   have hb2 := hb2.chg hC94 (fun hg => hO.apart _ ((fun _ h => h) _ hg) (mem_r (mem_r (mem_l (List.mem_singleton.2 rfl)))))
   have hv47 := hv47.mut hC94 (fun g hg => hO.inM g ((fun _ h => h) g hg)) (fun g hg e => hO.apart g ((fun _ h => h) g hg) (mem_r (mem_l (e))))
   have hv84 := hv84.mut hC94 (fun g hg => hO.inM g ((fun _ h => h) g hg)) (fun g hg e => hO.apart g ((fun _ h => h) g hg) (mem_l (e)))
   have hv90 := hv90.mut hC94 (fun g hg => ⟨hO.inM g ((fun _ h => h) g hg), fun e => hO.apart g ((fun _ h => h) g hg) (mem_l (e))⟩) (fun _ _ h => nomatch h)
   have hC := hC.step hC94 (fun g hg => hO.inN g ((fun _ h => h) g hg))
   have hO := hO.ext hC94
   refine pl_val (.map (some b86)) (y_move rfl) ?_
   refine pl_val (.map (some b86)) (y_assign rfl) ?_
   refine c_nil ?_
   refine c_seq ?_
   refine c_seq (c_region ?_)
   refine pl_val (.int .i64 0) (y_assign rfl) ?_
   refine c_nil ?_
   have hO := hO.fr3
   have hO := hO.drop
   obtain ⟨o644, hl645, hs⟩ := bind_some hs
   refine wp_block ?_
   refine wp_iter (id := 4) (I := fun s640 a w641 => ∃ (σ : Nat → Value) (a646 : Option Addr) (n646 : Nat) (c646 : Nat) (f646 : List Nat) (f648 : List Nat), a = fr 85 (ovl σ [(4, (.slice a47 n47 c47)), (7, (.slice a646 n646 c646)), (8, (.map (some b86))), (9, (.int .i64 s640.2.1))]) ∧ Chg [] w w641 ∧ Own (Nw w []) M w641 (f646 ++ (f648 ++ (f47 ++ []))) ∧ (RT.os 22 (RT.os 3 (RT.int .i64))).val M w641 (.slice a47 n47 c47) s39 f47 ∧ (RT.mo Value.bool).val M w641 (.map (some b86)) s640.2.2 f648 ∧ (RT.os 22 (RT.os 3 (RT.int .i64))).val M w641 (.slice a646 n646 c646) s640.1 f646) (J := fun s640 a w641 => ∃ (σ : Nat → Value) (a649 : Option Addr) (n649 : Nat) (c649 : Nat) (f649 : List Nat) (f651 : List Nat), a = fr 85 (ovl σ [(7, (.slice a649 n649 c649))]) ∧ Chg [] w w641 ∧ Own (Nw w []) M w641 (f649 ++ (f651 ++ (f47 ++ []))) ∧ (RT.os 22 (RT.os 3 (RT.int .i64))).val M w641 (.slice a47 n47 c47) s39 f47 ∧ (RT.mo Value.bool).val M w641 (.map (some b86)) s640.2.2 f651 ∧ (RT.os 22 (RT.os 3 (RT.int .i64))).val M w641 (.slice a649 n649 c649) s640.1 f649) (K := (k_impl_allCongruences M w)) ?_ FU ([r82], 0, mput ([]) r93 true) o644 _ _ ?_ hl645 ?_
   ·rintro s640 o644 a w641 ⟨σ, a646, n646, c646, f646, f648, rfl, hC, hO, hv47, hv648, hv646⟩ hs
    refine c_seq ?_
    refine c_seq (c_region ?_)
    refine pl_val (.int .i64 s640.2.1) (y_move rfl) ?_
    refine pl_val (.slice a646 n646 c646) (y_move rfl) ?_
    refine pl_val (.int .i64 (s640.1.length : Int)) (y_len' Sl41 (os_len hv646) rfl) ?_
    refine pl_val (.bool (decide (s640.2.1 < (s640.1.length : Int)))) (y_lss rfl rfl) ?_
    refine c_nil ?_
    rcases bif_some hs with ⟨hc652, hs⟩ | ⟨hc652, hs⟩
    ·skip
     refine c_condT (congrArg Value.bool hc652) ?_
     refine wp_skip ?_
     refine c_seq ?_
     refine wp_block ?_
     refine c_seq (c_region ?_)
     refine pl_val (.slice a47 n47 c47) (y_move rfl) ?_
     refine pl_val (.int .i64 (s39.length : Int)) (y_len' Sl41 (os_len hv47) rfl) ?_
     refine pl_val (.int .i64 0) (y_move rfl) ?_
     refine c_nil ?_
     obtain ⟨o738, hl739, hs⟩ := bind_some hs
     refine wp_block ?_
     refine wp_forR (id := 6) (I := fun i_ xs_ s734 a w735 => ∃ k736 : Nat, i_ = (k736 : Int) ∧ List.drop k736 s39 = xs_ ∧ (∃ (σ : Nat → Value) (a740 : Option Addr) (n740 : Nat) (c740 : Nat) (f740 : List Nat) (f742 : List Nat), a = fr 85 (ovl σ [(4, (.slice a47 n47 c47)), (7, (.slice a740 n740 c740)), (8, (.map (some b86))), (9, (.int .i64 s640.2.1)), (54, (.slice a47 n47 c47)), (55, (.int .i64 (s39.length : Int))), (56, (.int .i64 (k736 : Int)))]) ∧ Chg [] w w735 ∧ Own (Nw w []) M w735 (f740 ++ (f742 ++ (f47 ++ []))) ∧ (RT.os 22 (RT.os 3 (RT.int .i64))).val M w735 (.slice a47 n47 c47) s39 f47 ∧ (RT.mo Value.bool).val M w735 (.map (some b86)) s734.2 f742 ∧ (RT.os 22 (RT.os 3 (RT.int .i64))).val M w735 (.slice a740 n740 c740) s734.1 f740)) (J := fun s734 a w735 => ∃ (σ : Nat → Value) (a743 : Option Addr) (n743 : Nat) (c743 : Nat) (f743 : List Nat) (f745 : List Nat), a = fr 85 (ovl σ [(4, (.slice a47 n47 c47)), (7, (.slice a743 n743 c743)), (8, (.map (some b86))), (9, (.int .i64 s640.2.1))]) ∧ Chg [] w w735 ∧ Own (Nw w []) M w735 (f743 ++ (f745 ++ (f47 ++ []))) ∧ (RT.os 22 (RT.os 3 (RT.int .i64))).val M w735 (.slice a47 n47 c47) s39 f47 ∧ (RT.mo Value.bool).val M w735 (.map (some b86)) s734.2 f745 ∧ (RT.os 22 (RT.os 3 (RT.int .i64))).val M w735 (.slice a743 n743 c743) s734.1 f743) (K := (k_impl_allCongruences M w)) ?_ ?_ s39 0 (s640.1, s640.2.2) o738 _ _ ?_ hl739 ?_
     ·rintro _ s734 a w735 ⟨k736, rfl, hd, σ, a740, n740, c740, f740, f742, rfl, hC, hO, hv47, hv742, hv740⟩
      have hlt := drop_nil_ge hd
      refine c_seq (c_region ?_)
      refine pl_val (.bool (decide ((k736 : Int) < (s39.length : Int)))) (y_lss rfl rfl) ?_
      refine c_nil ?_
      refine c_seq ?_
      refine c_condF (congrArg Value.bool (decide_eq_false hlt)) ?_
      refine wp_exit ?_
      have hO := hO.fr2
      have hO := hO.fr2
      have hO := hO.fr2
      exact ⟨rfl, _, a740, n740, c740, f740, f742, fr_ovl 85 ⟨rfl, rfl, rfl, rfl, trivial⟩, hC, hO, hv47, hv742, hv740⟩
     ·rintro _ x737 xs_ s734 o738 a w735 ⟨k736, rfl, hd, σ, a740, n740, c740, f740, f742, rfl, hC, hO, hv47, hv742, hv740⟩ hs
      have hlt := drop_cons_lt hd
      have hxk736 := drop_cons_idx hd
      refine c_seq (c_region ?_)
      refine pl_val (.bool (decide ((k736 : Int) < (s39.length : Int)))) (y_lss rfl rfl) ?_
      refine c_nil ?_
      refine c_seq ?_
      refine c_condT (congrArg Value.bool (decide_eq_true hlt)) ?_
      refine wp_skip ?_
      refine c_seq ?_
      refine wp_block ?_
      refine c_seq (c_region ?_)
      obtain ⟨g746, f746, hg746, hk746, hp746, ha746, hf746⟩ := os_idx Sl41 Sz22 hv47 hxk736
      have hb746 := own_row (Frz.os Frz.int) ha746 hf746
      refine pl_val (.pointer (some ⟨g746, 0 + Int.toNat (k736 : Int) * 1, none⟩)) (hp746 _ _ _ _ _ _ _ _ _ rfl rfl) ?_
      obtain ⟨v747, hl747, hrow747, hv747⟩ := at_load1 Ag22 Sz22 rfl rfl hb746
      obtain ⟨a747, n747, c747, rfl⟩ := rs_sl hv747
      refine pl_val (.slice a747 n747 c747) (y_load rfl (hl747 _ (Chg.refl _ _))) ?_
      refine pl_val (.slice a747 n747 c747) (y_assign rfl) ?_
      refine c_nil ?_
      refine c_seq (c_region ?_)
      refine pl_val (.slice a740 n740 c740) (y_move rfl) ?_
      refine pl_val (.int .i64 s640.2.1) (y_move rfl) ?_
      obtain ⟨x749, hx749, hs⟩ := bind_some hs
      obtain ⟨g750, f750, hg750, hk750, hp750, ha750, hf750⟩ := os_idx Sl41 Sz22 hv740 hx749
      have hb750 := own_row (Frz.os Frz.int) ha750 hf750
      refine pl_val (.pointer (some ⟨g750, 0 + Int.toNat s640.2.1 * 1, none⟩)) (hp750 _ _ _ _ _ _ _ _ _ rfl rfl) ?_
      obtain ⟨v751, hl751, hrow751, hv751⟩ := at_load1 Ag22 Sz22 rfl rfl hb750
      obtain ⟨a751, n751, c751, rfl⟩ := rs_sl hv751
      refine pl_val (.slice a751 n751 c751) (y_load rfl (hl751 _ (Chg.refl _ _))) ?_
      refine pl_val (.slice a747 n747 c747) (y_move rfl) ?_
      have hO := hO.fr2
      have hO := hO.fr1
      obtain ⟨r754, hr754, hs⟩ := bind_some hs
      refine pl_call Bd78 rfl (c_impl_join (M := (Less (Less M f740) f47)) x749 x737 (hv751.sub (M' := (Less (Less M f740) f47)) (fun g h => .inl (by simp only [Less] at h ⊢; simp [h]))) (hv747.sub (M' := (Less (Less M f740) f47)) (fun g h => .inl (by simp only [Less] at h ⊢; simp [h]))) (hO.less).less.fut hr754) ?_
      rintro _ w753 ⟨a753x0, n753x0, c753x0, f753x0, rfl, hC753, hv753x0, hOc753⟩
      have hv47 := hv47.ext hC753
      have hv742 := hv742.ext hC753
      have hv740 := hv740.ext hC753
      have hv747 := hv747.ext hC753
      have hrow747 := hrow747.chg hC753 (fun h => nomatch h)
      have hv751 := hv751.ext hC753
      have hrow751 := hrow751.chg hC753 (fun h => nomatch h)
      have hC := hC.ext hC753
      have hO := Own.join0 hO hC753 hOc753
      have hO := hO.perm (R := f753x0 ++ (f740 ++ (f47 ++ (f742 ++ ([]))))) (by simp)
      have hv753x0 := hv753x0.free (M' := M) (Free.os Free.int)
      refine pl_val (.slice a753x0 n753x0 c753x0) (y_assign rfl) ?_
      refine c_nil ?_
      refine c_seq ?_
      refine c_seq (c_region ?_)
      refine pl_val (.slice a753x0 n753x0 c753x0) (y_move rfl) ?_
      obtain ⟨r757, hr757, hs⟩ := bind_some hs
      refine pl_call Bd127 rfl (c_impl_keyOf (M := (Less M f753x0)) r754 (((Frz.os Frz.int)).val hv753x0 Less.sub Less.not) hO.less.fut hr757) ?_
      rintro _ w756 ⟨rfl, hC756⟩
      have hv47 := hv47.ext hC756
      have hv742 := hv742.ext hC756
      have hv740 := hv740.ext hC756
      have hv753x0 := hv753x0.ext hC756
      have hC := hC.ext hC756
      have hO := hO.ext hC756
      refine pl_val (.string r757) (y_assign rfl) ?_
      refine c_nil ?_
      refine c_seq (c_region ?_)
      refine pl_val (.map (some b86)) (y_move rfl) ?_
      refine pl_val (.string r757) (y_move rfl) ?_
      refine pl_val (.bool ((mget s734.2 r757).getD false)) (y_look (enc := Value.bool) Try.underlying105 Try.underlying9 Zv4 (mo_at hv742) rfl rfl) ?_
      refine pl_val (.bool (!((mget s734.2 r757).getD false))) (y_not rfl) ?_
      refine c_nil ?_
      obtain ⟨s770, hm772, hs⟩ := bind_some hs
      refine c_mid (I := fun a w771 => ∃ (σ : Nat → Value) (a773 : Option Addr) (n773 : Nat) (c773 : Nat) (f773 : List Nat) (f775 : List Nat), a = fr 85 (ovl σ [(4, (.slice a47 n47 c47)), (7, (.slice a773 n773 c773)), (8, (.map (some b86))), (9, (.int .i64 s640.2.1)), (54, (.slice a47 n47 c47)), (55, (.int .i64 (s39.length : Int))), (56, (.int .i64 (k736 : Int)))]) ∧ Chg [] w w771 ∧ Own (Nw w []) M w771 (f773 ++ (f47 ++ (f775 ++ []))) ∧ (RT.os 22 (RT.os 3 (RT.int .i64))).val M w771 (.slice a47 n47 c47) s39 f47 ∧ (RT.mo Value.bool).val M w771 (.map (some b86)) s770.2 f775 ∧ (RT.os 22 (RT.os 3 (RT.int .i64))).val M w771 (.slice a773 n773 c773) s770.1 f773) ?_ ?_
      ·replace hs := hm772
       rcases bif_some hs with ⟨hc776, hs⟩ | ⟨hc776, hs⟩
       ·skip
        refine c_condT (congrArg Value.bool hc776) ?_
        refine c_seq (c_region ?_)
        refine pl_val (.map (some b86)) (y_move rfl) ?_
        refine pl_val (.string r757) (y_move rfl) ?_
        have hO := hO.fr3
        obtain ⟨w777, hst777, hC777, hv777⟩ := mo_put (P := Try.prog) (t := 105) (key := r757) (x := true) Try.underlying105 Try.underlying9 hv742
        refine pl_skip (w' := w777) (ys_put rfl rfl rfl hst777) ?_
        have hv47 := hv47.mut hC777 (fun g hg => hO.inM g ((fun _ h => h) g hg)) (fun g hg e => hO.apart g ((fun _ h => h) g hg) (mem_r (mem_r (mem_l (e)))))
        have hv740 := hv740.mut hC777 (fun g hg => hO.inM g ((fun _ h => h) g hg)) (fun g hg e => hO.apart g ((fun _ h => h) g hg) (mem_r (mem_l (e))))
        have hv753x0 := hv753x0.mut hC777 (fun g hg => hO.inM g ((fun _ h => h) g hg)) (fun g hg e => hO.apart g ((fun _ h => h) g hg) (mem_l (e)))
        have hC := hC.step hC777 (fun g hg => hO.inN g ((fun _ h => h) g hg))
        have hO := hO.ext hC777
        refine c_nil ?_
        refine c_region ?_
        refine pl_val (.slice a740 n740 c740) (y_move rfl) ?_
        refine pl_val (.slice a753x0 n753x0 c753x0) (y_move rfl) ?_
        obtain ⟨w778, g778, ew778, eg778, hC778, hb778⟩ := new_block w777 [(.slice a753x0 n753x0 c753x0)] 22
        refine pl_val (w' := w778) (.slice (some ⟨g778, 0, none⟩) 1 1) (y_bslice rfl (by rw [ew778, eg778]; kernel_rfl)) ?_
        have hv47 := hv47.ext hC778
        have hv777 := hv777.ext hC778
        have hv740 := hv740.ext hC778
        have hv753x0 := hv753x0.ext hC778
        have hC := hC.ext hC778
        have hO := hO.fr1
        have hO := hO.new1 hC778 eg778 hb778.lt
        have hO := hO.perm (R := (g778 :: ((f753x0) ++ ([]))) ++ (f742 ++ (f740 ++ (f47 ++ ([]))))) (by simp)
        have hnd778 := hO.nd
        have hv778 := os_of_box (r := (RT.os 3 (RT.int .i64))) (M := M) (css := [[(.slice a753x0 n753x0 c753x0)]]) (fps := [(f753x0 : List Nat)]) (xs := ([r754] : List (List Int))) hb778 ⟨(os_unval hv753x0), trivial⟩ (Nat.le_of_ble_eq_true rfl) hnd778
        have hv778 : (RT.os 22 (RT.os 3 (RT.int .i64))).val M w778 (.slice (some ⟨g778, 0, none⟩) 1 1) [r754] (g778 :: ((f753x0) ++ ([]))) := hv778
        obtain ⟨y781, hy781, hs⟩ := bind_some hs
        have hO := hO.fr2
        obtain ⟨a780, n780, c780, w780, f780, hr780, hC780, hf780, hv780⟩ := app_os Rw41 hy781 hv740 hv778 hO.inM (fun g hg hq => hO.apart g hq (mem_l hg))
        have hG780 := os_block hv740
        refine pl_val (w' := w780) (.slice a780 n780 c780) (y_append rfl rfl (hr780 _)) ?_
        have hO := hO.fr1
        have hO := hO.fr1
        have hv47 := hv47.mut hC780 (fun g hg => hO.inM g (hG780 g hg)) (fun g hg e => hO.apart g (hG780 g hg) (mem_r (mem_r (mem_l (e)))))
        have hv777 := hv777.mut hC780 (fun g hg => hO.inM g (hG780 g hg)) (fun g hg e => hO.apart g (hG780 g hg) (mem_r (mem_l (e))))
        have hC := hC.step hC780 (fun g hg => hO.inN g (hG780 g hg))
        have hO := hO.eat hC780 hf780 (os_nodup hv780) hv780.fpl
        refine pl_val (.slice a780 n780 c780) (y_assign rfl) ?_
        refine c_nil ?_
        cases hs
        have hO := hO.fr1
        have hO := hO.fr2
        have hO := hO.fr2
        exact ⟨_, a780, n780, c780, f780, f742, fr_ovl 85 ⟨rfl, rfl, rfl, rfl, rfl, rfl, rfl, trivial⟩, hC, hO, hv47, hv777, hv780⟩
       ·skip
        refine c_condF (congrArg Value.bool hc776) ?_
        refine wp_skip ?_
        cases hs
        have hO := hO.drop
        have hO := hO.fr2
        have hO := hO.fr2
        have hO := hO.fr2
        exact ⟨_, a740, n740, c740, f740, f742, fr_ovl 85 ⟨rfl, rfl, rfl, rfl, rfl, rfl, rfl, trivial⟩, hC, hO, hv47, hv742, hv740⟩
      ·rintro a1 w771 ⟨σ, a773, n773, c773, f773, f775, rfl, hC, hO, hv47, hv775, hv773⟩
       refine c_seq (c_region ?_)
       refine pl_val (.slice a773 n773 c773) (y_move rfl) ?_
       refine pl_val (.int .i64 (s770.1.length : Int)) (y_len' Sl41 (os_len hv773) rfl) ?_
       refine pl_val (.bool (decide (200 < (s770.1.length : Int)))) (y_gtr rfl rfl) ?_
       refine c_nil ?_
       rcases bif_some hs with ⟨hc783, hs⟩ | ⟨hc783, hs⟩
       ·skip
        refine c_condT (congrArg Value.bool hc783) ?_
        refine c_seq (c_region ?_)
        refine pl_val (.slice none 0 0) (y_assign rfl) ?_
        refine pl_val (.bool false) (y_assign rfl) ?_
        refine c_nil ?_
        refine wp_ret ?_
        cases hs
        have hO := hO.drop
        have hO := hO.drop
        have hO := hO.drop
        have hO := hO.nil
        exact ⟨_, none, 0, 0, [], fr_ovl 85 ⟨rfl, rfl, trivial⟩, hC, os_nil, hO.top⟩
       ·skip
        refine c_condF (congrArg Value.bool hc783) ?_
        refine wp_skip ?_
        refine c_region ?_
        refine pl_val (.int .i64 (w64 ((k736 : Int) + 1))) (y_add rfl rfl) ?_
        refine pl_val (.int .i64 (w64 ((k736 : Int) + 1))) (y_move rfl) ?_
        refine c_nil ?_
        cases hs
        have hO := hO.fr1
        have hO := hO.fr2
        have hO := hO.fr2
        exact ⟨_, rfl, drop_cons_next hd, _, a773, n773, c773, f773, f775, fr_ovl 85 ⟨rfl, rfl, rfl, rfl, rfl, rfl, congrArg (Value.int .i64) (w64_succ hlt (Int.natCast_nonneg _) (os_max hv47)), trivial⟩, hC, hO, hv47, hv775, hv773⟩
     ·skip
      have hO := hO.fr2
      have hO := hO.fr2
      have hO := hO.fr2
      exact ⟨0, rfl, rfl, _, a646, n646, c646, f646, f648, fr_ovl 85 ⟨rfl, rfl, rfl, rfl, rfl, rfl, rfl, trivial⟩, hC, hO, hv47, hv648, hv646⟩
     ·cases o738 with
      | nx _ => exact True.intro
      | rt r_ =>
       have hs := after_rt hs
       intro a1 w1 hK
       cases hs
       exact hK
      | br s734 =>
       have hs := after_br hs
       rintro a1 w735 ⟨σ, a743, n743, c743, f743, f745, rfl, hC, hO, hv47, hv745, hv743⟩
       refine c_region ?_
       refine pl_val (.int .i64 s640.2.1) (y_move rfl) ?_
       refine pl_val (.int .i64 (w64 (s640.2.1 + 1))) (y_add rfl rfl) ?_
       refine pl_val (.int .i64 (w64 (s640.2.1 + 1))) (y_assign rfl) ?_
       refine c_nil ?_
       cases hs
       have hO := hO.fr2
       have hO := hO.fr2
       have hO := hO.fr2
       exact ⟨_, a743, n743, c743, f743, f745, fr_ovl 85 ⟨rfl, rfl, rfl, rfl, trivial⟩, hC, hO, hv47, hv745, hv743⟩
    ·skip
     refine c_condF (congrArg Value.bool hc652) ?_
     refine wp_exit ?_
     cases hs
     have hO := hO.fr2
     have hO := hO.fr2
     have hO := hO.fr2
     exact ⟨rfl, _, a646, n646, c646, f646, f648, fr_ovl 85 ⟨rfl, trivial⟩, hC, hO, hv47, hv648, hv646⟩
   ·skip
    have hO := hO.fr2
    have hO := hO.fr1
    have hO := hO.fr2
    exact ⟨_, (some ⟨g84, 0, none⟩), 1, 1, (g84 :: ((f81x0) ++ ([]))), [b86], fr_ovl 85 ⟨rfl, rfl, rfl, rfl, trivial⟩, hC, hO, hv47, hv94, hv84⟩
   ·cases o644 with
    | nx _ => exact True.intro
    | rt r_ =>
     have hs := after_rt hs
     intro a1 w1 hK
     cases hs
     exact hK
    | br s640 =>
     have hs := after_br hs
     rintro a1 w641 ⟨σ, a649, n649, c649, f649, f651, rfl, hC, hO, hv47, hv651, hv649⟩
     refine c_seq (c_region ?_)
     refine pl_val (.slice a649 n649 c649) (y_move rfl) ?_
     have hL784 := hO
     have hI784 := Own.lend (F := (f649 ++ ([]))) (R := f651 ++ (f47 ++ ([]))) (Own.perm (hL784) (by simp))
     obtain ⟨r785, hr785, hs⟩ := bind_some hs
     refine pl_call Bd128 rfl (c_impl_sortRows__impl_compareCongruences (M := M) s640.1 hv649 hI784 hI784.fut hr785) ?_
     rintro _ w784 ⟨fi784x0, rfl, hC784, hvi784x0, hOc784⟩
     have hO := hO.perm (R := (f649 ++ ([])) ++ (f651 ++ (f47 ++ ([])))) (by simp)
     have hv47 := hv47.mut hC784 (fun g hg => hO.inM g ((fun _ h => h) g hg)) (fun g hg e => hO.apart g ((fun _ h => h) g hg) (mem_r (mem_l (e))))
     have hv651 := hv651.mut hC784 (fun g hg => hO.inM g ((fun _ h => h) g hg)) (fun g hg e => hO.apart g ((fun _ h => h) g hg) (mem_l (e)))
     have hC := hC.step hC784 (fun g hg => hO.inN g ((fun _ h => h) g hg))
     have hO := Own.join hO hC784 hOc784
     have hO := hO.perm (R := fi784x0 ++ (f651 ++ (f47 ++ ([])))) (by simp)
     refine c_nil ?_
     refine c_seq (c_region ?_)
     refine pl_val (.slice a649 n649 c649) (y_move rfl) ?_
     refine pl_val (.slice a649 n649 c649) (y_assign rfl) ?_
     refine pl_val (.bool true) (y_assign rfl) ?_
     refine c_nil ?_
     refine wp_ret ?_
     cases hs
     have hO := hO.fr1
     have hO := hO.drop
     have hO := hO.fr1
     have hO := hO.drop
     exact ⟨_, a649, n649, c649, fi784x0, fr_ovl 85 ⟨rfl, rfl, trivial⟩, hC, hvi784x0, hO.top⟩

theorem Bd109 : Bodied Try.prog 109 := bodied Try.func109 (by kernel_rfl) rfl

theorem Bd110 : Bodied Try.prog 110 := bodied Try.func110 (by kernel_rfl) rfl

def k_impl_congruences (M : Nat → Prop) (w0 : World) (r : (List (List Int)) × Bool) (a : Act) (w : World) : Prop :=
  ∃ (σ : Nat → Value) (ra0 : Option Addr) (rn0 rc0 : Nat) (rf0 : List Nat), a = fr 11 (ovl σ [(2, (.slice ra0 rn0 rc0)), (3, (.bool r.2))]) ∧ Chg [] w0 w ∧ (RT.os 22 (RT.os 3 (RT.int .i64))).val M w (.slice ra0 rn0 rc0) r.1 rf0 ∧ Own (Nw w0 []) (fun _ => True) w (rf0 ++ ([]))
def s_impl_congruences (a_ : Int × (List (Int × (List Int)))) : Option ((List (List Int)) × Bool) :=
  (s_impl_IsAlgebra (a_.1, a_.2)).bind fun r4 =>
  (bif (!r4) then some ([], false) else (s_impl_allCongruences (a_.1, a_.2)).bind fun r7 =>
  some (r7.1, r7.2))
set_option maxHeartbeats 4000000 in
theorem c_impl_congruences {M : Nat → Prop} {w : World} {pa0 : Option Addr} {pn0 pc0 : Nat} (a_ : Int × (List (Int × (List Int)))) (h0 : (RT.rs (RT.pr (RT.int .i64) (RT.rs (RT.int .i64)))).val M w (.slice pa0 pn0 pc0) a_.2 ([])) (hM : ∀ g, w.heap.size ≤ g → M g) {r : (List (List Int)) × Bool} (hs : s_impl_congruences a_ = some r) :
    Gives Try.prog 84 [(.agg #[(.int .i64 a_.1), (.slice pa0 pn0 pc0)])] w (fun v w' => ∃ (ra0 : Option Addr) (rn0 rc0 : Nat) (rf0 : List Nat), v = (.tuple #[(.slice ra0 rn0 rc0), (.bool r.2)]) ∧ Chg [] w w' ∧ (RT.os 22 (RT.os 3 (RT.int .i64))).val M w' (.slice ra0 rn0 rc0) r.1 rf0 ∧ Own (Nw w []) (fun _ => True) w' (rf0 ++ ([]))) := by
 refine calls_fr Try.func84 rfl Try.ntmps84 (Nat.le_of_ble_eq_true rfl) ?_
 have hO := Own.start (N := Nw w []) hM Nw.fut
 have hC := Chg.refl [] w
 unfold s_impl_congruences at hs
 refine wp_mono (Q := KPost (k_impl_congruences M w r)) ?_ (fun e a w1 h => ?_)
 rotate_left
 ·cases e
  case ret =>
   obtain ⟨σ, ra0, rn0, rc0, rf0, rfl, hrest⟩ := h
   exact ret2x Try.results84 (res_tmp rfl) (res_tmp rfl) ⟨ra0, rn0, rc0, rf0, rfl, hrest⟩
  all_goals exact (h : False).elim
 refine c_seq (c_region ?_)
 obtain ⟨w2, g2, ew2, eg2, hC2, hb2⟩ := new_block w [(.int .i64 a_.1), (.slice pa0 pn0 pc0)] 35
 refine pl_val (w' := w2) (.pointer (some ⟨g2, 0, none⟩)) (y_box rfl (by rw [ew2, eg2]; kernel_rfl)) ?_
 have h0 := h0.ext hC2
 have hC := hC.ext hC2
 have hO := hO.new1 hC2 eg2 hb2.lt
 refine pl_val (.slice none 0 0) (y_assign rfl) ?_
 refine pl_val (.bool false) (y_assign rfl) ?_
 refine c_nil ?_
 refine c_seq ?_
 refine c_seq (c_region ?_)
 refine pl_val (.agg #[(.int .i64 a_.1), (.slice pa0 pn0 pc0)]) (y_load rfl ((box_load Ag35 Sz35 hb2 [] [(.int .i64 a_.1), (.slice pa0 pn0 pc0)] [] rfl rfl (fun h => nomatch h)) _ (Chg.refl _ _))) ?_
 obtain ⟨r4, hr4, hs⟩ := bind_some hs
 refine pl_call Bd109 rfl (c_impl_IsAlgebra (M := M) (a_.1, a_.2) h0 hO.fut hr4) ?_
 rintro _ w3 ⟨rfl, hC3⟩
 have h0 := h0.ext hC3
 have hb2 := hb2.chg hC3 (fun h => nomatch h)
 have hC := hC.ext hC3
 have hO := hO.ext hC3
 refine pl_val (.bool (!r4)) (y_not rfl) ?_
 refine c_nil ?_
 rcases bif_some hs with ⟨hc5, hs⟩ | ⟨hc5, hs⟩
 ·skip
  refine c_condT (congrArg Value.bool hc5) ?_
  refine c_seq (c_region ?_)
  refine pl_val (.slice none 0 0) (y_assign rfl) ?_
  refine pl_val (.bool false) (y_assign rfl) ?_
  refine c_nil ?_
  refine wp_ret ?_
  cases hs
  have hO := hO.drop
  have hO := hO.nil
  exact ⟨_, none, 0, 0, [], fr_ovl 11 ⟨rfl, rfl, trivial⟩, hC, os_nil, hO.top⟩
 ·skip
  refine c_condF (congrArg Value.bool hc5) ?_
  refine wp_skip ?_
  refine c_seq (c_region ?_)
  refine pl_val (.agg #[(.int .i64 a_.1), (.slice pa0 pn0 pc0)]) (y_load rfl ((box_load Ag35 Sz35 hb2 [] [(.int .i64 a_.1), (.slice pa0 pn0 pc0)] [] rfl rfl (fun h => nomatch h)) _ (Chg.refl _ _))) ?_
  obtain ⟨r7, hr7, hs⟩ := bind_some hs
  refine pl_call Bd110 rfl (c_impl_allCongruences (M := M) (a_.1, a_.2) h0 hO.fut hr7) ?_
  rintro _ w6 ⟨a6x0, n6x0, c6x0, f6x0, rfl, hC6, hv6x0, hOc6⟩
  have h0 := h0.ext hC6
  have hb2 := hb2.chg hC6 (fun h => nomatch h)
  have hC := hC.ext hC6
  have hO := Own.join0 hO hC6 hOc6
  have hO := hO.perm (R := f6x0 ++ (([g2]) ++ ([]))) (by simp)
  refine pl_val (.slice a6x0 n6x0 c6x0) (y_extract rfl (by kernel_rfl)) ?_
  refine pl_val (.bool r7.2) (y_extract rfl (by kernel_rfl)) ?_
  refine pl_val (.slice a6x0 n6x0 c6x0) (y_assign rfl) ?_
  refine pl_val (.bool r7.2) (y_assign rfl) ?_
  refine c_nil ?_
  refine wp_ret ?_
  cases hs
  have hO := hO.fr1
  have hO := hO.drop
  exact ⟨_, a6x0, n6x0, c6x0, f6x0, fr_ovl 11 ⟨rfl, rfl, trivial⟩, hC, hv6x0, hO.top⟩

theorem Bd84 : Bodied Try.prog 84 := bodied Try.func84 (by kernel_rfl) rfl

def k_impl_fewCongruences (M : Nat → Prop) (w0 : World) (r : (List (List Int)) × Bool) (a : Act) (w : World) : Prop :=
  ∃ (σ : Nat → Value) (ra0 : Option Addr) (rn0 rc0 : Nat) (rf0 : List Nat), a = fr 19 (ovl σ [(2, (.slice ra0 rn0 rc0)), (3, (.bool r.2))]) ∧ Chg [] w0 w ∧ (RT.os 22 (RT.os 3 (RT.int .i64))).val M w (.slice ra0 rn0 rc0) r.1 rf0 ∧ Own (Nw w0 []) (fun _ => True) w (rf0 ++ ([]))
def s_impl_fewCongruences (a_ : Int × (List (Int × (List Int)))) : Option ((List (List Int)) × Bool) :=
  (s_impl_congruences (a_.1, a_.2)).bind fun r4 =>
  (bif ((!r4.2) || (decide (60 < (r4.1.length : Int)))) then some ([], false) else some (r4.1, true))
set_option maxHeartbeats 4000000 in
theorem c_impl_fewCongruences {M : Nat → Prop} {w : World} {pa0 : Option Addr} {pn0 pc0 : Nat} (a_ : Int × (List (Int × (List Int)))) (h0 : (RT.rs (RT.pr (RT.int .i64) (RT.rs (RT.int .i64)))).val M w (.slice pa0 pn0 pc0) a_.2 ([])) (hM : ∀ g, w.heap.size ≤ g → M g) {r : (List (List Int)) × Bool} (hs : s_impl_fewCongruences a_ = some r) :
    Gives Try.prog 53 [(.agg #[(.int .i64 a_.1), (.slice pa0 pn0 pc0)])] w (fun v w' => ∃ (ra0 : Option Addr) (rn0 rc0 : Nat) (rf0 : List Nat), v = (.tuple #[(.slice ra0 rn0 rc0), (.bool r.2)]) ∧ Chg [] w w' ∧ (RT.os 22 (RT.os 3 (RT.int .i64))).val M w' (.slice ra0 rn0 rc0) r.1 rf0 ∧ Own (Nw w []) (fun _ => True) w' (rf0 ++ ([]))) := by
 refine calls_fr Try.func53 rfl Try.ntmps53 (Nat.le_of_ble_eq_true rfl) ?_
 have hO := Own.start (N := Nw w []) hM Nw.fut
 have hC := Chg.refl [] w
 unfold s_impl_fewCongruences at hs
 refine wp_mono (Q := KPost (k_impl_fewCongruences M w r)) ?_ (fun e a w1 h => ?_)
 rotate_left
 ·cases e
  case ret =>
   obtain ⟨σ, ra0, rn0, rc0, rf0, rfl, hrest⟩ := h
   exact ret2x Try.results53 (res_tmp rfl) (res_tmp rfl) ⟨ra0, rn0, rc0, rf0, rfl, hrest⟩
  all_goals exact (h : False).elim
 refine c_seq (c_region ?_)
 obtain ⟨w2, g2, ew2, eg2, hC2, hb2⟩ := new_block w [(.int .i64 a_.1), (.slice pa0 pn0 pc0)] 35
 refine pl_val (w' := w2) (.pointer (some ⟨g2, 0, none⟩)) (y_box rfl (by rw [ew2, eg2]; kernel_rfl)) ?_
 have h0 := h0.ext hC2
 have hC := hC.ext hC2
 have hO := hO.new1 hC2 eg2 hb2.lt
 refine pl_val (.slice none 0 0) (y_assign rfl) ?_
 refine pl_val (.bool false) (y_assign rfl) ?_
 refine c_nil ?_
 refine c_seq (c_region ?_)
 refine pl_val (.agg #[(.int .i64 a_.1), (.slice pa0 pn0 pc0)]) (y_load rfl ((box_load Ag35 Sz35 hb2 [] [(.int .i64 a_.1), (.slice pa0 pn0 pc0)] [] rfl rfl (fun h => nomatch h)) _ (Chg.refl _ _))) ?_
 obtain ⟨r4, hr4, hs⟩ := bind_some hs
 refine pl_call Bd84 rfl (c_impl_congruences (M := M) (a_.1, a_.2) h0 hO.fut hr4) ?_
 rintro _ w3 ⟨a3x0, n3x0, c3x0, f3x0, rfl, hC3, hv3x0, hOc3⟩
 have h0 := h0.ext hC3
 have hb2 := hb2.chg hC3 (fun h => nomatch h)
 have hC := hC.ext hC3
 have hO := Own.join0 hO hC3 hOc3
 have hO := hO.perm (R := f3x0 ++ (([g2]) ++ ([]))) (by simp)
 refine pl_val (.tuple #[(.slice a3x0 n3x0 c3x0), (.bool r4.2)]) (y_move rfl) ?_
 refine pl_val (.slice a3x0 n3x0 c3x0) (y_extract rfl (by kernel_rfl)) ?_
 refine pl_val (.bool r4.2) (y_extract rfl (by kernel_rfl)) ?_
 refine pl_val (.slice a3x0 n3x0 c3x0) (y_assign rfl) ?_
 refine pl_val (.bool r4.2) (y_assign rfl) ?_
 refine c_nil ?_
 refine c_seq ?_
 refine c_seq ?_
 refine c_mid (I := fun a w7 => ∃ (σ : Nat → Value), a = fr 19 (ovl σ [(2, (.slice none 0 0)), (3, (.bool false)), (4, (.slice a3x0 n3x0 c3x0)), (17, (.bool ((!r4.2) || (decide (60 < (r4.1.length : Int))))))]) ∧ Chg [] w3 w7) ?_ ?_
 ·have hMid := Chg.refl [] w3
  refine c_region ?_
  refine pl_val (.bool r4.2) (y_move rfl) ?_
  refine pl_val (.bool (!r4.2)) (y_not rfl) ?_
  refine pl_val (.bool (!r4.2)) (y_move rfl) ?_
  rcases Bool.eq_false_or_eq_true ((!r4.2)) with hc9 | hc9
  ·skip
   refine pl_not (tg := 13) (by kernel_rfl) (congrArg Value.bool hc9) ?_
   refine pl_not (tg := 13) (by kernel_rfl) (congrArg Value.bool hc9) ?_
   refine pl_not (tg := 13) (by kernel_rfl) (congrArg Value.bool hc9) ?_
   refine pl_val (.bool ((!r4.2) || (decide (60 < (r4.1.length : Int))))) (y_pick_t (congrArg Value.bool hc9) (congrArg Value.bool (by rw [hc9]; rfl))) ?_
   refine c_nil ?_
   exact ⟨_, fr_ovl 19 ⟨rfl, rfl, rfl, rfl, trivial⟩, hMid⟩
  ·skip
   refine pl_yes (.slice a3x0 n3x0 c3x0) (tg := 13) (by kernel_rfl) (congrArg Value.bool hc9) (y_move rfl) ?_
   refine pl_yes (.int .i64 (r4.1.length : Int)) (tg := 13) (by kernel_rfl) (congrArg Value.bool hc9) (y_len' Sl41 (os_len hv3x0) rfl) ?_
   refine pl_yes (.bool (decide (60 < (r4.1.length : Int)))) (tg := 13) (by kernel_rfl) (congrArg Value.bool hc9) (y_gtr rfl rfl) ?_
   refine pl_val (.bool ((!r4.2) || (decide (60 < (r4.1.length : Int))))) (y_pick_f (congrArg Value.bool hc9) (congrArg Value.bool (by rw [hc9]; rfl))) ?_
   refine c_nil ?_
   exact ⟨_, fr_ovl 19 ⟨rfl, rfl, rfl, rfl, trivial⟩, hMid⟩
 ·rintro a1 w7 ⟨σ, rfl, hCs6⟩
  have hb2 := hb2.chg hCs6 (fun h => nomatch h)
  have hv3x0 := hv3x0.ext hCs6
  have hC := hC.ext hCs6
  have hO := hO.ext hCs6
  rcases bif_some hs with ⟨hc10, hs⟩ | ⟨hc10, hs⟩
  ·skip
   refine c_condT (congrArg Value.bool hc10) ?_
   refine c_seq (c_region ?_)
   refine pl_val (.slice none 0 0) (y_assign rfl) ?_
   refine pl_val (.bool false) (y_assign rfl) ?_
   refine c_nil ?_
   refine wp_ret ?_
   cases hs
   have hO := hO.drop
   have hO := hO.drop
   have hO := hO.nil
   exact ⟨_, none, 0, 0, [], fr_ovl 19 ⟨rfl, rfl, trivial⟩, hC, os_nil, hO.top⟩
  ·skip
   refine c_condF (congrArg Value.bool hc10) ?_
   refine wp_skip ?_
   refine c_seq (c_region ?_)
   refine pl_val (.slice a3x0 n3x0 c3x0) (y_move rfl) ?_
   refine pl_val (.slice a3x0 n3x0 c3x0) (y_assign rfl) ?_
   refine pl_val (.bool true) (y_assign rfl) ?_
   refine c_nil ?_
   refine wp_ret ?_
   cases hs
   have hO := hO.fr1
   have hO := hO.drop
   exact ⟨_, a3x0, n3x0, c3x0, f3x0, fr_ovl 19 ⟨rfl, rfl, trivial⟩, hC, hv3x0, hO.top⟩

def k_impl_finer (M : Nat → Prop) (w0 : World) (r : Bool) (a : Act) (w : World) : Prop :=
  ∃ (σ : Nat → Value) , a = fr 24 (ovl σ [(4, (.bool r))]) ∧ Chg [] w0 w
def s_impl_finer (p : List Int) (q : List Int) : Option (Bool) :=
  (forC (S := Unit) (R := Bool) (fun k13 s11 =>
  (idx p k13).bind fun x17 =>
  (idx q x17).bind fun x20 =>
  (idx q k13).bind fun x22 =>
  (bif (x20 != x22) then some (.rt false) else some (.nx ()))) 0 (p.length : Int) ()).bind fun o15 => after o15 (fun r_ => some r_) (fun s11 =>
  some true)
set_option maxHeartbeats 4000000 in
theorem c_impl_finer {M : Nat → Prop} {w : World} {pa0 : Option Addr} {pn0 pc0 : Nat} {pa1 : Option Addr} {pn1 pc1 : Nat} (p : List Int) (q : List Int) (h0 : (RT.rs (RT.int .i64)).val M w (.slice pa0 pn0 pc0) p ([])) (h1 : (RT.rs (RT.int .i64)).val M w (.slice pa1 pn1 pc1) q ([])) (hM : ∀ g, w.heap.size ≤ g → M g) {r : Bool} (hs : s_impl_finer p q = some r) :
    Gives Try.prog 54 [(.slice pa0 pn0 pc0), (.slice pa1 pn1 pc1)] w (fun v w' => v = (.bool r) ∧ Chg [] w w') := by
 refine calls_fr Try.func54 rfl Try.ntmps54 (Nat.le_of_ble_eq_true rfl) ?_
 have hO := Own.start (N := Nw w []) hM Nw.fut
 have hC := Chg.refl [] w
 unfold s_impl_finer at hs
 refine wp_mono (Q := KPost (k_impl_finer M w r)) ?_ (fun e a w1 h => ?_)
 rotate_left
 ·cases e
  case ret =>
   obtain ⟨σ, rfl, hrest⟩ := h
   exact ret1x Try.results54 (res_tmp rfl) ⟨rfl, hrest⟩
  all_goals exact (h : False).elim
 refine c_seq (c_region ?_)
 refine pl_val (.bool false) (y_assign rfl) ?_
 refine c_nil ?_
 refine c_seq ?_
 refine c_seq (c_region ?_)
 refine pl_val (.slice pa0 pn0 pc0) (y_move rfl) ?_
 refine pl_val (.int .i64 (p.length : Int)) (y_len' Sl22 (rs_len h0) rfl) ?_
 refine pl_val (.int .i64 0) (y_move rfl) ?_
 refine c_nil ?_
 obtain ⟨o15, hl16, hs⟩ := bind_some hs
 refine wp_block ?_
 refine wp_forC (id := 0) (p.length : Int) (I := fun k13 s11 a w12 => ∃ (σ : Nat → Value), a = fr 24 (ovl σ [(1, (.slice pa1 pn1 pc1)), (7, (.slice pa0 pn0 pc0)), (8, (.int .i64 (p.length : Int))), (9, (.int .i64 k13))]) ∧ Chg [] w w12 ∧ Own (Nw w []) M w12 ([]) ∧ (RT.rs (RT.int .i64)).val M w12 (.slice pa0 pn0 pc0) p ([]) ∧ (RT.rs (RT.int .i64)).val M w12 (.slice pa1 pn1 pc1) q ([])) (J := fun s11 a w12 => ∃ (σ : Nat → Value), a = fr 24 (ovl σ []) ∧ Chg [] w w12 ∧ Own (Nw w []) M w12 ([]) ∧ (RT.rs (RT.int .i64)).val M w12 (.slice pa0 pn0 pc0) p ([]) ∧ (RT.rs (RT.int .i64)).val M w12 (.slice pa1 pn1 pc1) q ([])) (K := (k_impl_finer M w)) ?_ ?_ 0 () o15 _ _ ?_ hl16 ?_
 ·rintro k13 s11 a w12 ⟨σ, rfl, hC, hO, h0, h1⟩ hlt
  refine c_seq (c_region ?_)
  refine pl_val (.bool (decide (k13 < (p.length : Int)))) (y_lss rfl rfl) ?_
  refine c_nil ?_
  refine c_seq ?_
  refine c_condF (congrArg Value.bool (decide_eq_false hlt)) ?_
  refine wp_exit ?_
  exact ⟨rfl, _, fr_ovl 24 trivial, hC, hO, h0, h1⟩
 ·rintro k13 s11 o15 a w12 ⟨σ, rfl, hC, hO, h0, h1⟩ hlt hw hs
  refine c_seq (c_region ?_)
  refine pl_val (.bool (decide (k13 < (p.length : Int)))) (y_lss rfl rfl) ?_
  refine c_nil ?_
  refine c_seq ?_
  refine c_condT (congrArg Value.bool (decide_eq_true hlt)) ?_
  refine wp_skip ?_
  refine c_seq ?_
  refine wp_block ?_
  refine c_seq (c_region ?_)
  refine pl_val (.int .i64 k13) (y_move rfl) ?_
  obtain ⟨x17, hx17, hs⟩ := bind_some hs
  obtain ⟨b18, o18, hp18, ha18⟩ := rs_idx Sl22 Sz3 h0 hx17
  refine pl_val (.pointer (some ⟨b18, o18, none⟩)) (hp18 _ _ _ _ _ _ _ _ _ rfl rfl) ?_
  refine pl_val (.int .i64 x17) (y_load rfl ((at_load_int Ag3 Sz3 ha18) _ (Chg.refl _ _))) ?_
  refine pl_val (.int .i64 k13) (y_assign rfl) ?_
  refine pl_val (.int .i64 x17) (y_assign rfl) ?_
  refine c_nil ?_
  refine c_seq ?_
  refine x_start [] Mx rfl ?_
  have hCw19 := Chg.drew w12
  generalize World.drew w12 = w19 at hCw19 ⊢
  have h0 := h0.ext hCw19
  have h1 := h1.ext hCw19
  have hC := hC.ext hCw19
  have hO := hO.ext hCw19
  have hS := Chg.refl [] w19
  refine x_p 0 (.slice pa1 pn1 pc1) rfl (by kernel_rfl)  (fun _ => y_move rfl) (fun _ => hS) ?_
  refine x_p 1 (.int .i64 x17) rfl (by kernel_rfl)  (fun _ => y_move rfl) (fun _ => hS) ?_
  obtain ⟨x20, hx20, hs⟩ := bind_some hs
  obtain ⟨b21, o21, hp21, ha21⟩ := rs_idx Sl22 Sz3 h1 hx20
  refine x_p 2 (.pointer (some ⟨b21, o21, none⟩)) rfl (by kernel_rfl)  (fun _ => hp21 _ _ _ _ _ _ _ _ _ rfl rfl) (fun _ => hS) ?_
  refine x_l 3 (.int .i64 x20) rfl (by kernel_rfl)  (fun w' hw' => y_load rfl ((at_load_int Ag3 Sz3 ha21) w' hw')) hS ?_
  refine x_p 4 (.slice pa1 pn1 pc1) rfl (by kernel_rfl)  (fun _ => y_move rfl) (fun _ => hS) ?_
  refine x_p 5 (.int .i64 k13) rfl (by kernel_rfl)  (fun _ => y_move rfl) (fun _ => hS) ?_
  obtain ⟨x22, hx22, hs⟩ := bind_some hs
  obtain ⟨b23, o23, hp23, ha23⟩ := rs_idx Sl22 Sz3 h1 hx22
  refine x_p 6 (.pointer (some ⟨b23, o23, none⟩)) rfl (by kernel_rfl)  (fun _ => hp23 _ _ _ _ _ _ _ _ _ rfl rfl) (fun _ => hS) ?_
  refine x_l 7 (.int .i64 x22) rfl (by kernel_rfl)  (fun w' hw' => y_load rfl ((at_load_int Ag3 Sz3 ha23) w' hw')) hS ?_
  refine x_p 8 (.bool (x20 != x22)) rfl (by kernel_rfl)  (fun _ => y_neq rfl rfl) (fun _ => hS) ?_
  refine x_end (by kernel_rfl) ?_
  clear hS
  rcases bif_some hs with ⟨hc24, hs⟩ | ⟨hc24, hs⟩
  ·skip
   refine c_condT (congrArg Value.bool hc24) ?_
   refine c_seq (c_region ?_)
   refine pl_val (.bool false) (y_assign rfl) ?_
   refine c_nil ?_
   refine wp_ret ?_
   cases hs
   exact ⟨_, fr_ovl 24 ⟨rfl, trivial⟩, hC⟩
  ·skip
   refine c_condF (congrArg Value.bool hc24) ?_
   refine wp_skip ?_
   refine c_region ?_
   refine pl_val (.int .i64 (w64 (k13 + 1))) (y_add rfl rfl) ?_
   refine pl_val (.int .i64 (w64 (k13 + 1))) (y_move rfl) ?_
   refine c_nil ?_
   cases hs
   exact ⟨_, fr_ovl 24 ⟨rfl, rfl, rfl, congrArg (Value.int .i64) hw, trivial⟩, hC, hO, h0, h1⟩
 ·skip
  exact ⟨_, fr_ovl 24 ⟨rfl, rfl, rfl, rfl, trivial⟩, hC, hO, h0, h1⟩
 ·cases o15 with
  | nx _ => exact True.intro
  | rt r_ =>
   have hs := after_rt hs
   intro a1 w1 hK
   cases hs
   exact hK
  | br s11 =>
   have hs := after_br hs
   rintro a1 w12 ⟨σ, rfl, hC, hO, h0, h1⟩
   refine c_seq (c_region ?_)
   refine pl_val (.bool true) (y_assign rfl) ?_
   refine c_nil ?_
   refine wp_ret ?_
   cases hs
   exact ⟨_, fr_ovl 24 ⟨rfl, trivial⟩, hC⟩

theorem Bd53 : Bodied Try.prog 53 := bodied Try.func53 (by kernel_rfl) rfl

theorem Bd54 : Bodied Try.prog 54 := bodied Try.func54 (by kernel_rfl) rfl

def k_impl_CongruenceHeight (M : Nat → Prop) (w0 : World) (r : Int × Bool) (a : Act) (w : World) : Prop :=
  ∃ (σ : Nat → Value) , a = fr 61 (ovl σ [(2, (.int .i64 r.1)), (3, (.bool r.2))]) ∧ Chg [] w0 w
def s_impl_CongruenceHeight (a_ : Int × (List (Int × (List Int)))) : Option (Int × Bool) :=
  (s_impl_fewCongruences (a_.1, a_.2)).bind fun r4 =>
  (bif (!r4.2) then some (0, false) else (mks (r4.1.length : Int) (0 : Int)).bind fun y8 =>
  (forC (S := (List Int)) (R := Int × Bool) (fun k135 s133 =>
  (idx r4.1 k135).bind fun x141 =>
  (slc r4.1 0 k135).bind fun y146 =>
  (forC (S := (List Int)) (R := Int × Bool) (fun k181 s179 =>
  (idx y146 k181).bind fun x187 =>
  (s_impl_finer x187 x141).bind fun r192 =>
  (bif r192 then (idx s179 k135).bind fun x195 =>
  (idx s179 k181).bind fun x197 =>
  (idx s179 k135).bind fun x199 =>
  some (.nx (List.set s179 (Int.toNat k135) (max x195 (w64 (x197 + 1))))) else some (.nx s179))) 0 (y146.length : Int) s133).bind fun o183 => after o183 (fun r_ => some (.rt r_)) (fun s179 =>
  some (.nx s179))) 0 (r4.1.length : Int) y8).bind fun o137 => after o137 (fun r_ => some r_) (fun s133 =>
  (idx s133 (w64 ((s133.length : Int) - 1))).bind fun x202 =>
  some (x202, true)))
set_option maxHeartbeats 4000000 in
theorem c_impl_CongruenceHeight {M : Nat → Prop} {w : World} {pa0 : Option Addr} {pn0 pc0 : Nat} (a_ : Int × (List (Int × (List Int)))) (h0 : (RT.rs (RT.pr (RT.int .i64) (RT.rs (RT.int .i64)))).val M w (.slice pa0 pn0 pc0) a_.2 ([])) (hM : ∀ g, w.heap.size ≤ g → M g) {r : Int × Bool} (hs : s_impl_CongruenceHeight a_ = some r) :
    Gives Try.prog 20 [(.agg #[(.int .i64 a_.1), (.slice pa0 pn0 pc0)])] w (fun v w' => v = (.tuple #[(.int .i64 r.1), (.bool r.2)]) ∧ Chg [] w w') := by
 refine calls_fr Try.func20 rfl Try.ntmps20 (Nat.le_of_ble_eq_true rfl) ?_
 have hO := Own.start (N := Nw w []) hM Nw.fut
 have hC := Chg.refl [] w
 unfold s_impl_CongruenceHeight at hs
 refine wp_mono (Q := KPost (k_impl_CongruenceHeight M w r)) ?_ (fun e a w1 h => ?_)
 rotate_left
 ·cases e
  case ret =>
   obtain ⟨σ, rfl, hrest⟩ := h
   exact ret2x Try.results20 (res_tmp rfl) (res_tmp rfl) ⟨rfl, hrest⟩
  all_goals exact (h : False).elim
 refine c_seq (c_region ?_)
 obtain ⟨w2, g2, ew2, eg2, hC2, hb2⟩ := new_block w [(.int .i64 a_.1), (.slice pa0 pn0 pc0)] 35
 refine pl_val (w' := w2) (.pointer (some ⟨g2, 0, none⟩)) (y_box rfl (by rw [ew2, eg2]; kernel_rfl)) ?_
 have h0 := h0.ext hC2
 have hC := hC.ext hC2
 have hO := hO.new1 hC2 eg2 hb2.lt
 refine pl_val (.int .i64 0) (y_assign rfl) ?_
 refine pl_val (.bool false) (y_assign rfl) ?_
 refine c_nil ?_
 refine c_seq (c_region ?_)
 refine pl_val (.agg #[(.int .i64 a_.1), (.slice pa0 pn0 pc0)]) (y_load rfl ((box_load Ag35 Sz35 hb2 [] [(.int .i64 a_.1), (.slice pa0 pn0 pc0)] [] rfl rfl (fun h => nomatch h)) _ (Chg.refl _ _))) ?_
 obtain ⟨r4, hr4, hs⟩ := bind_some hs
 refine pl_call Bd53 rfl (c_impl_fewCongruences (M := M) (a_.1, a_.2) h0 hO.fut hr4) ?_
 rintro _ w3 ⟨a3x0, n3x0, c3x0, f3x0, rfl, hC3, hv3x0, hOc3⟩
 have h0 := h0.ext hC3
 have hb2 := hb2.chg hC3 (fun h => nomatch h)
 have hC := hC.ext hC3
 have hO := Own.join0 hO hC3 hOc3
 have hO := hO.perm (R := f3x0 ++ (([g2]) ++ ([]))) (by simp)
 refine pl_val (.tuple #[(.slice a3x0 n3x0 c3x0), (.bool r4.2)]) (y_move rfl) ?_
 refine pl_val (.slice a3x0 n3x0 c3x0) (y_extract rfl (by kernel_rfl)) ?_
 refine pl_val (.bool r4.2) (y_extract rfl (by kernel_rfl)) ?_
 refine pl_val (.slice a3x0 n3x0 c3x0) (y_assign rfl) ?_
 refine pl_val (.bool r4.2) (y_assign rfl) ?_
 refine c_nil ?_
 refine c_seq ?_
 refine c_seq (c_region ?_)
 refine pl_val (.bool r4.2) (y_move rfl) ?_
 refine pl_val (.bool (!r4.2)) (y_not rfl) ?_
 refine c_nil ?_
 rcases bif_some hs with ⟨hc6, hs⟩ | ⟨hc6, hs⟩
 ·skip
  refine c_condT (congrArg Value.bool hc6) ?_
  refine c_seq (c_region ?_)
  refine pl_val (.int .i64 0) (y_assign rfl) ?_
  refine pl_val (.bool false) (y_assign rfl) ?_
  refine c_nil ?_
  refine wp_ret ?_
  cases hs
  exact ⟨_, fr_ovl 61 ⟨rfl, rfl, trivial⟩, hC⟩
 ·skip
  refine c_condF (congrArg Value.bool hc6) ?_
  refine wp_skip ?_
  refine c_seq (c_region ?_)
  refine pl_val (.slice a3x0 n3x0 c3x0) (y_move rfl) ?_
  refine pl_val (.int .i64 (r4.1.length : Int)) (y_len' Sl41 (os_len hv3x0) rfl) ?_
  obtain ⟨y8, hy8, hs⟩ := bind_some hs
  obtain ⟨a7, n7, c7, w7, f7, hm7, hC7, hfr7, hv7⟩ := mk_os (M := M) (w := w3) (r := (RT.int .i64)) Rw22 hy8 (fun _ _ => ⟨rfl, rfl⟩)
  refine pl_val (w' := w7) (.slice a7 n7 c7) (y_make rfl rfl hm7) ?_
  have hb2 := hb2.chg hC7 (fun h => nomatch h)
  have hv3x0 := hv3x0.ext hC7
  have hC := hC.ext hC7
  have hO := hO.new hC7 hfr7 (os_nodup hv7) hv7.fpl
  refine pl_val (.slice a7 n7 c7) (y_assign rfl) ?_
  refine c_nil ?_
  refine c_seq ?_
  refine c_seq (c_region ?_)
  refine pl_val (.slice a3x0 n3x0 c3x0) (y_move rfl) ?_
  refine pl_val (.int .i64 (r4.1.length : Int)) (y_len' Sl41 (os_len hv3x0) rfl) ?_
  refine pl_val (.int .i64 0) (y_move rfl) ?_
  refine c_nil ?_
  have hO := hO.fr2
  have hO := hO.drop
  obtain ⟨o137, hl138, hs⟩ := bind_some hs
  refine wp_block ?_
  refine wp_forC (id := 0) (r4.1.length : Int) (I := fun k135 s133 a w134 => ∃ (σ : Nat → Value) (f139 : List Nat), a = fr 61 (ovl σ [(4, (.slice a3x0 n3x0 c3x0)), (6, (.slice a7 n7 c7)), (21, (.slice a3x0 n3x0 c3x0)), (22, (.int .i64 (r4.1.length : Int))), (23, (.int .i64 k135))]) ∧ Chg [] w w134 ∧ Own (Nw w []) M w134 (f139 ++ (f3x0 ++ [])) ∧ (RT.os 22 (RT.os 3 (RT.int .i64))).val M w134 (.slice a3x0 n3x0 c3x0) r4.1 f3x0 ∧ (RT.os 3 (RT.int .i64)).val M w134 (.slice a7 n7 c7) s133 f139) (J := fun s133 a w134 => ∃ (σ : Nat → Value) (f140 : List Nat), a = fr 61 (ovl σ [(6, (.slice a7 n7 c7))]) ∧ Chg [] w w134 ∧ Own (Nw w []) M w134 (f140 ++ (f3x0 ++ [])) ∧ (RT.os 22 (RT.os 3 (RT.int .i64))).val M w134 (.slice a3x0 n3x0 c3x0) r4.1 f3x0 ∧ (RT.os 3 (RT.int .i64)).val M w134 (.slice a7 n7 c7) s133 f140) (K := (k_impl_CongruenceHeight M w)) ?_ ?_ 0 y8 o137 _ _ ?_ hl138 ?_
  ·rintro k135 s133 a w134 ⟨σ, f139, rfl, hC, hO, hv3x0, hv139⟩ hlt
   refine c_seq (c_region ?_)
   refine pl_val (.bool (decide (k135 < (r4.1.length : Int)))) (y_lss rfl rfl) ?_
   refine c_nil ?_
   refine c_seq ?_
   refine c_condF (congrArg Value.bool (decide_eq_false hlt)) ?_
   refine wp_exit ?_
   have hO := hO.fr1
   have hO := hO.fr1
   exact ⟨rfl, _, f139, fr_ovl 61 ⟨rfl, trivial⟩, hC, hO, hv3x0, hv139⟩
  ·rintro k135 s133 o137 a w134 ⟨σ, f139, rfl, hC, hO, hv3x0, hv139⟩ hlt hw hs
   refine c_seq (c_region ?_)
   refine pl_val (.bool (decide (k135 < (r4.1.length : Int)))) (y_lss rfl rfl) ?_
   refine c_nil ?_
   refine c_seq ?_
   refine c_condT (congrArg Value.bool (decide_eq_true hlt)) ?_
   refine wp_skip ?_
   refine c_seq ?_
   refine wp_block ?_
   refine c_seq (c_region ?_)
   refine pl_val (.int .i64 k135) (y_move rfl) ?_
   obtain ⟨x141, hx141, hs⟩ := bind_some hs
   obtain ⟨g142, f142, hg142, hk142, hp142, ha142, hf142⟩ := os_idx Sl41 Sz22 hv3x0 hx141
   have hb142 := own_row (Frz.os Frz.int) ha142 hf142
   refine pl_val (.pointer (some ⟨g142, 0 + Int.toNat k135 * 1, none⟩)) (hp142 _ _ _ _ _ _ _ _ _ rfl rfl) ?_
   obtain ⟨v143, hl143, hrow143, hv143⟩ := at_load1 Ag22 Sz22 rfl rfl hb142
   obtain ⟨a143, n143, c143, rfl⟩ := rs_sl hv143
   refine pl_val (.slice a143 n143 c143) (y_load rfl (hl143 _ (Chg.refl _ _))) ?_
   refine pl_val (.int .i64 k135) (y_assign rfl) ?_
   refine pl_val (.slice a143 n143 c143) (y_assign rfl) ?_
   refine c_nil ?_
   refine c_seq (c_region ?_)
   refine pl_val (.slice a3x0 n3x0 c3x0) (y_move rfl) ?_
   refine pl_val (.int .i64 k135) (y_move rfl) ?_
   obtain ⟨y146, hy146, hs⟩ := bind_some hs
   obtain ⟨a145, n145, c145, hv145, hr145, hq145, hz145⟩ := rs_part Try.underlying41 Sz22 (((Frz.os (Frz.os Frz.int))).val hv3x0 (M' := (Less M f3x0)) Less.sub Less.not) hy146
   refine pl_val (.slice a145 n145 c145) (y_slice rfl rfl rfl (hq145 rfl _)) ?_
   refine pl_val (.int .i64 (y146.length : Int)) (y_len' Sl41 (rs_len hv145) rfl) ?_
   refine pl_val (.int .i64 0) (y_move rfl) ?_
   refine c_nil ?_
   obtain ⟨o183, hl184, hs⟩ := bind_some hs
   refine wp_block ?_
   refine wp_forC (id := 2) (y146.length : Int) (I := fun k181 s179 a w180 => ∃ (σ : Nat → Value) (f185 : List Nat), a = fr 61 (ovl σ [(4, (.slice a3x0 n3x0 c3x0)), (6, (.slice a7 n7 c7)), (7, (.int .i64 k135)), (8, (.slice a143 n143 c143)), (21, (.slice a3x0 n3x0 c3x0)), (22, (.int .i64 (r4.1.length : Int))), (23, (.int .i64 k135)), (30, (.slice a145 n145 c145)), (31, (.int .i64 (y146.length : Int))), (32, (.int .i64 k181))]) ∧ Chg [] w w180 ∧ Own (Nw w []) M w180 (f185 ++ (f3x0 ++ [])) ∧ (RT.os 22 (RT.os 3 (RT.int .i64))).val M w180 (.slice a3x0 n3x0 c3x0) r4.1 f3x0 ∧ (RT.os 3 (RT.int .i64)).val M w180 (.slice a7 n7 c7) s179 f185 ∧ (RT.rs (RT.int .i64)).val (Less M f3x0) w180 (.slice a143 n143 c143) x141 ([]) ∧ (RT.rs (RT.rs (RT.int .i64))).val (Less M f3x0) w180 (.slice a145 n145 c145) y146 ([])) (J := fun s179 a w180 => ∃ (σ : Nat → Value) (f186 : List Nat), a = fr 61 (ovl σ [(4, (.slice a3x0 n3x0 c3x0)), (6, (.slice a7 n7 c7)), (21, (.slice a3x0 n3x0 c3x0)), (22, (.int .i64 (r4.1.length : Int))), (23, (.int .i64 k135))]) ∧ Chg [] w w180 ∧ Own (Nw w []) M w180 (f186 ++ (f3x0 ++ [])) ∧ (RT.os 22 (RT.os 3 (RT.int .i64))).val M w180 (.slice a3x0 n3x0 c3x0) r4.1 f3x0 ∧ (RT.os 3 (RT.int .i64)).val M w180 (.slice a7 n7 c7) s179 f186 ∧ (RT.rs (RT.int .i64)).val (Less M f3x0) w180 (.slice a143 n143 c143) x141 ([]) ∧ (RT.rs (RT.rs (RT.int .i64))).val (Less M f3x0) w180 (.slice a145 n145 c145) y146 ([])) (K := (k_impl_CongruenceHeight M w)) ?_ ?_ 0 s133 o183 _ _ ?_ hl184 ?_
   ·rintro k181 s179 a w180 ⟨σ, f185, rfl, hC, hO, hv3x0, hv185, hv143, hv145⟩ hlt
    refine c_seq (c_region ?_)
    refine pl_val (.bool (decide (k181 < (y146.length : Int)))) (y_lss rfl rfl) ?_
    refine c_nil ?_
    refine c_seq ?_
    refine c_condF (congrArg Value.bool (decide_eq_false hlt)) ?_
    refine wp_exit ?_
    have hO := hO.fr1
    have hO := hO.fr1
    exact ⟨rfl, _, f185, fr_ovl 61 ⟨rfl, rfl, rfl, rfl, rfl, trivial⟩, hC, hO, hv3x0, hv185, hv143, hv145⟩
   ·rintro k181 s179 o183 a w180 ⟨σ, f185, rfl, hC, hO, hv3x0, hv185, hv143, hv145⟩ hlt hw hs
    refine c_seq (c_region ?_)
    refine pl_val (.bool (decide (k181 < (y146.length : Int)))) (y_lss rfl rfl) ?_
    refine c_nil ?_
    refine c_seq ?_
    refine c_condT (congrArg Value.bool (decide_eq_true hlt)) ?_
    refine wp_skip ?_
    refine c_seq ?_
    refine wp_block ?_
    refine c_seq (c_region ?_)
    refine pl_val (.int .i64 k181) (y_move rfl) ?_
    obtain ⟨x187, hx187, hs⟩ := bind_some hs
    obtain ⟨b188, o188, hp188, ha188⟩ := rs_idx Sl41 Sz22 hv145 hx187
    refine pl_val (.pointer (some ⟨b188, o188, none⟩)) (hp188 _ _ _ _ _ _ _ _ _ rfl rfl) ?_
    obtain ⟨v189, hl189, hv189⟩ := at_load Ag22 Sz22 (fun _ => rfl) ha188
    obtain ⟨a189, n189, c189, rfl⟩ := rs_sl hv189
    refine pl_val (.slice a189 n189 c189) (y_load rfl (hl189 _ (Chg.refl _ _))) ?_
    refine pl_val (.int .i64 k181) (y_assign rfl) ?_
    refine pl_val (.slice a189 n189 c189) (y_assign rfl) ?_
    refine c_nil ?_
    refine c_seq (c_region ?_)
    refine pl_val (.slice a189 n189 c189) (y_move rfl) ?_
    refine pl_val (.slice a143 n143 c143) (y_move rfl) ?_
    have hO := hO.fr1
    obtain ⟨r192, hr192, hs⟩ := bind_some hs
    refine pl_call Bd54 rfl (c_impl_finer (M := (Less M f3x0)) x187 x141 hv189 hv143 hO.less.fut hr192) ?_
    rintro _ w191 ⟨rfl, hC191⟩
    have hv3x0 := hv3x0.ext hC191
    have hv185 := hv185.ext hC191
    have hv143 := hv143.ext hC191
    have hv145 := hv145.ext hC191
    have hv189 := hv189.ext hC191
    have hC := hC.ext hC191
    have hO := hO.ext hC191
    refine c_nil ?_
    rcases bif_some hs with ⟨hc193, hs⟩ | ⟨hc193, hs⟩
    ·skip
     refine c_condT (congrArg Value.bool hc193) ?_
     refine x_start [13] Mx rfl ?_
     have hCw194 := Chg.drew w191
     generalize World.drew w191 = w194 at hCw194 ⊢
     have hv3x0 := hv3x0.ext hCw194
     have hv185 := hv185.ext hCw194
     have hv143 := hv143.ext hCw194
     have hv145 := hv145.ext hCw194
     have hC := hC.ext hCw194
     have hO := hO.ext hCw194
     have hS := Chg.refl [] w194
     refine x_p 0 (.slice a7 n7 c7) rfl (by kernel_rfl)  (fun _ => y_move rfl) (fun _ => hS) ?_
     refine x_p 1 (.int .i64 k135) rfl (by kernel_rfl)  (fun _ => y_move rfl) (fun _ => hS) ?_
     refine x_p 2 (.slice a7 n7 c7) rfl (by kernel_rfl)  (fun _ => y_move rfl) (fun _ => hS) ?_
     refine x_p 3 (.int .i64 k135) rfl (by kernel_rfl)  (fun _ => y_move rfl) (fun _ => hS) ?_
     obtain ⟨x195, hx195, hs⟩ := bind_some hs
     obtain ⟨g196, f196, hg196, hk196, hp196, ha196, hf196⟩ := os_idx Sl22 Sz3 hv185 hx195
     refine x_p 4 (.pointer (some ⟨g196, 0 + Int.toNat k135 * 1, none⟩)) rfl (by kernel_rfl)  (fun _ => hp196 _ _ _ _ _ _ _ _ _ rfl rfl) (fun _ => hS) ?_
     refine x_l 5 (.int .i64 x195) rfl (by kernel_rfl)  (fun w' hw' => y_load rfl ((at_load_int Ag3 Sz3 ha196) w' hw')) hS ?_
     refine x_p 6 (.slice a7 n7 c7) rfl (by kernel_rfl)  (fun _ => y_move rfl) (fun _ => hS) ?_
     refine x_p 7 (.int .i64 k181) rfl (by kernel_rfl)  (fun _ => y_move rfl) (fun _ => hS) ?_
     obtain ⟨x197, hx197, hs⟩ := bind_some hs
     obtain ⟨g198, f198, hg198, hk198, hp198, ha198, hf198⟩ := os_idx Sl22 Sz3 hv185 hx197
     refine x_p 8 (.pointer (some ⟨g198, 0 + Int.toNat k181 * 1, none⟩)) rfl (by kernel_rfl)  (fun _ => hp198 _ _ _ _ _ _ _ _ _ rfl rfl) (fun _ => hS) ?_
     refine x_l 9 (.int .i64 x197) rfl (by kernel_rfl)  (fun w' hw' => y_load rfl ((at_load_int Ag3 Sz3 ha198) w' hw')) hS ?_
     refine x_p 10 (.int .i64 (w64 (x197 + 1))) rfl (by kernel_rfl)  (fun _ => y_add rfl rfl) (fun _ => hS) ?_
     refine x_p 11 (.int .i64 (max x195 (w64 (x197 + 1)))) rfl (by kernel_rfl)  (fun _ => y_max rfl rfl) (fun _ => hS) ?_
     obtain ⟨x199, hx199, hs⟩ := bind_some hs
     obtain ⟨g200, f200, hg200, hk200, hp200, ha200, hf200⟩ := os_idx Sl22 Sz3 hv185 hx199
     refine x_p 12 (.pointer (some ⟨g200, 0 + Int.toNat k135 * 1, none⟩)) rfl (by kernel_rfl)  (fun _ => hp200 _ _ _ _ _ _ _ _ _ rfl rfl) (fun _ => hS) ?_
     refine x_one (i := 13) (by kernel_rfl) ?_
     have hO := hO.fr1
     obtain ⟨w201, f201, hst201, hC201, hf201, hv201⟩ := os_store (P := Try.prog) (c' := [(.int .i64 (max x195 (w64 (x197 + 1))))]) hg200 hv185 hk200 (fun g hg => hO.inM g (os_block hv185 g (by simpa using hg))) ⟨rfl, rfl⟩ List.nodup_nil (fun _ h => nomatch h) (fun _ h => .inl h)
     have hG201 : ∀ q ∈ [g200], q ∈ f185 := fun q hq => os_block hv185 q (by rw [hg200]; exact hq)
     refine xk_skip (w' := w201) (b := true) rfl (ys_store rfl rfl (hst201 _ _ rfl Sz3)) rfl (fun h => nomatch h) ?_
     have hv3x0 := hv3x0.mut hC201 (fun g hg => hO.inM g (hG201 g hg)) (fun g hg e => hO.apart g (hG201 g hg) (mem_l (e)))
     have hv143 := hv143.mut hC201 (fun g hg => ⟨hO.inM g (hG201 g hg), fun e => hO.apart g (hG201 g hg) (mem_l (e))⟩) (fun _ _ h => nomatch h)
     have hv145 := hv145.mut hC201 (fun g hg => ⟨hO.inM g (hG201 g hg), fun e => hO.apart g (hG201 g hg) (mem_l (e))⟩) (fun _ _ h => nomatch h)
     have hC := hC.step hC201 (fun g hg => hO.inN g (hG201 g hg))
     have hO := hO.grow hC201 (fun q hq => .inl ((hf201 q hq).resolve_right (fun h => nomatch h))) (os_nodup hv201) hv201.fpl
     refine x_end (by kernel_rfl) ?_
     clear hS
     refine c_region ?_
     refine pl_val (.int .i64 (w64 (k181 + 1))) (y_add rfl rfl) ?_
     refine pl_val (.int .i64 (w64 (k181 + 1))) (y_move rfl) ?_
     refine c_nil ?_
     cases hs
     have hO := hO.fr1
     have hO := hO.fr1
     exact ⟨_, f201, fr_ovl 61 ⟨rfl, rfl, rfl, rfl, rfl, rfl, rfl, rfl, rfl, congrArg (Value.int .i64) hw, trivial⟩, hC, hO, hv3x0, hv201, hv143, hv145⟩
    ·skip
     refine c_condF (congrArg Value.bool hc193) ?_
     refine wp_skip ?_
     refine c_region ?_
     refine pl_val (.int .i64 (w64 (k181 + 1))) (y_add rfl rfl) ?_
     refine pl_val (.int .i64 (w64 (k181 + 1))) (y_move rfl) ?_
     refine c_nil ?_
     cases hs
     have hO := hO.fr1
     exact ⟨_, f185, fr_ovl 61 ⟨rfl, rfl, rfl, rfl, rfl, rfl, rfl, rfl, rfl, congrArg (Value.int .i64) hw, trivial⟩, hC, hO, hv3x0, hv185, hv143, hv145⟩
   ·skip
    have hO := hO.fr1
    have hO := hO.fr1
    exact ⟨_, f139, fr_ovl 61 ⟨rfl, rfl, rfl, rfl, rfl, rfl, rfl, rfl, rfl, rfl, trivial⟩, hC, hO, hv3x0, hv139, hv143, hv145⟩
   ·cases o183 with
    | nx _ => exact True.intro
    | rt r_ =>
     have hs := after_rt hs
     intro a1 w1 hK
     cases hs
     exact hK
    | br s179 =>
     have hs := after_br hs
     rintro a1 w180 ⟨σ, f186, rfl, hC, hO, hv3x0, hv186, hv143, hv145⟩
     refine c_region ?_
     refine pl_val (.int .i64 (w64 (k135 + 1))) (y_add rfl rfl) ?_
     refine pl_val (.int .i64 (w64 (k135 + 1))) (y_move rfl) ?_
     refine c_nil ?_
     cases hs
     have hO := hO.fr1
     have hO := hO.fr1
     exact ⟨_, f186, fr_ovl 61 ⟨rfl, rfl, rfl, rfl, congrArg (Value.int .i64) hw, trivial⟩, hC, hO, hv3x0, hv186⟩
  ·skip
   have hO := hO.fr1
   have hO := hO.fr1
   exact ⟨_, f7, fr_ovl 61 ⟨rfl, rfl, rfl, rfl, rfl, trivial⟩, hC, hO, hv3x0, hv7⟩
  ·cases o137 with
   | nx _ => exact True.intro
   | rt r_ =>
    have hs := after_rt hs
    intro a1 w1 hK
    cases hs
    exact hK
   | br s133 =>
    have hs := after_br hs
    rintro a1 w134 ⟨σ, f140, rfl, hC, hO, hv3x0, hv140⟩
    refine c_seq (c_region ?_)
    refine pl_val (.slice a7 n7 c7) (y_move rfl) ?_
    refine pl_val (.slice a7 n7 c7) (y_move rfl) ?_
    refine pl_val (.int .i64 (s133.length : Int)) (y_len' Sl22 (os_len hv140) rfl) ?_
    refine pl_val (.int .i64 (w64 ((s133.length : Int) - 1))) (y_sub rfl rfl) ?_
    obtain ⟨x202, hx202, hs⟩ := bind_some hs
    obtain ⟨g203, f203, hg203, hk203, hp203, ha203, hf203⟩ := os_idx Sl22 Sz3 hv140 hx202
    refine pl_val (.pointer (some ⟨g203, 0 + Int.toNat (w64 ((s133.length : Int) - 1)) * 1, none⟩)) (hp203 _ _ _ _ _ _ _ _ _ rfl rfl) ?_
    refine pl_val (.int .i64 x202) (y_load rfl ((at_load_int Ag3 Sz3 ha203) _ (Chg.refl _ _))) ?_
    refine pl_val (.int .i64 x202) (y_assign rfl) ?_
    refine pl_val (.bool true) (y_assign rfl) ?_
    refine c_nil ?_
    refine wp_ret ?_
    cases hs
    exact ⟨_, fr_ovl 61 ⟨rfl, rfl, trivial⟩, hC⟩

def k_laws_eqIntS (M : Nat → Prop) (w0 : World) (r : Bool) (a : Act) (w : World) : Prop :=
  ∃ (σ : Nat → Value) , a = fr 26 (ovl σ [(4, (.bool r))]) ∧ Chg [] w0 w
def s_laws_eqIntS (a_ : List Int) (b : List Int) : Option (Bool) :=
  (bif ((a_.length : Int) != (b.length : Int)) then some false else (forC (S := Unit) (R := Bool) (fun k12 s10 =>
  (idx a_ k12).bind fun x17 =>
  (idx b k12).bind fun x19 =>
  (bif (x17 != x19) then some (.rt false) else some (.nx ()))) 0 (a_.length : Int) ()).bind fun o14 => after o14 (fun r_ => some r_) (fun s10 =>
  some true))
set_option maxHeartbeats 4000000 in
theorem c_laws_eqIntS {M : Nat → Prop} {w : World} {pa0 : Option Addr} {pn0 pc0 : Nat} {pa1 : Option Addr} {pn1 pc1 : Nat} (a_ : List Int) (b : List Int) (h0 : (RT.rs (RT.int .i64)).val M w (.slice pa0 pn0 pc0) a_ ([])) (h1 : (RT.rs (RT.int .i64)).val M w (.slice pa1 pn1 pc1) b ([])) (hM : ∀ g, w.heap.size ≤ g → M g) {r : Bool} (hs : s_laws_eqIntS a_ b = some r) :
    Gives Try.prog 16 [(.slice pa0 pn0 pc0), (.slice pa1 pn1 pc1)] w (fun v w' => v = (.bool r) ∧ Chg [] w w') := by
 refine calls_fr Try.func16 rfl Try.ntmps16 (Nat.le_of_ble_eq_true rfl) ?_
 have hO := Own.start (N := Nw w []) hM Nw.fut
 have hC := Chg.refl [] w
 unfold s_laws_eqIntS at hs
 refine wp_mono (Q := KPost (k_laws_eqIntS M w r)) ?_ (fun e a w1 h => ?_)
 rotate_left
 ·cases e
  case ret =>
   obtain ⟨σ, rfl, hrest⟩ := h
   exact ret1x Try.results16 (res_tmp rfl) ⟨rfl, hrest⟩
  all_goals exact (h : False).elim
 refine c_seq (c_region ?_)
 refine pl_val (.bool false) (y_assign rfl) ?_
 refine c_nil ?_
 refine c_seq ?_
 refine c_seq (c_region ?_)
 refine pl_val (.slice pa0 pn0 pc0) (y_move rfl) ?_
 refine pl_val (.int .i64 (a_.length : Int)) (y_len' Sl22 (rs_len h0) rfl) ?_
 refine pl_val (.slice pa1 pn1 pc1) (y_move rfl) ?_
 refine pl_val (.int .i64 (b.length : Int)) (y_len' Sl22 (rs_len h1) rfl) ?_
 refine pl_val (.bool ((a_.length : Int) != (b.length : Int))) (y_neq rfl rfl) ?_
 refine c_nil ?_
 rcases bif_some hs with ⟨hc3, hs⟩ | ⟨hc3, hs⟩
 ·skip
  refine c_condT (congrArg Value.bool hc3) ?_
  refine c_seq (c_region ?_)
  refine pl_val (.bool false) (y_assign rfl) ?_
  refine c_nil ?_
  refine wp_ret ?_
  cases hs
  exact ⟨_, fr_ovl 26 ⟨rfl, trivial⟩, hC⟩
 ·skip
  refine c_condF (congrArg Value.bool hc3) ?_
  refine wp_skip ?_
  refine c_seq ?_
  refine c_seq (c_region ?_)
  refine pl_val (.int .i64 0) (y_assign rfl) ?_
  refine c_nil ?_
  obtain ⟨o14, hl15, hs⟩ := bind_some hs
  refine wp_block ?_
  refine wp_forC (id := 0) (a_.length : Int) (I := fun k12 s10 a w11 => ∃ (σ : Nat → Value), a = fr 26 (ovl σ [(0, (.slice pa0 pn0 pc0)), (1, (.slice pa1 pn1 pc1)), (5, (.int .i64 k12))]) ∧ Chg [] w w11 ∧ Own (Nw w []) M w11 ([]) ∧ (RT.rs (RT.int .i64)).val M w11 (.slice pa0 pn0 pc0) a_ ([]) ∧ (RT.rs (RT.int .i64)).val M w11 (.slice pa1 pn1 pc1) b ([])) (J := fun s10 a w11 => ∃ (σ : Nat → Value), a = fr 26 (ovl σ []) ∧ Chg [] w w11 ∧ Own (Nw w []) M w11 ([]) ∧ (RT.rs (RT.int .i64)).val M w11 (.slice pa0 pn0 pc0) a_ ([]) ∧ (RT.rs (RT.int .i64)).val M w11 (.slice pa1 pn1 pc1) b ([])) (K := (k_laws_eqIntS M w)) ?_ ?_ 0 () o14 _ _ ?_ hl15 ?_
  ·rintro k12 s10 a w11 ⟨σ, rfl, hC, hO, h0, h1⟩ hlt
   refine c_seq ?_
   refine c_seq (c_region ?_)
   refine pl_val (.int .i64 k12) (y_move rfl) ?_
   refine pl_val (.slice pa0 pn0 pc0) (y_move rfl) ?_
   refine pl_val (.int .i64 (a_.length : Int)) (y_len' Sl22 (rs_len h0) rfl) ?_
   refine pl_val (.bool (decide (k12 < (a_.length : Int)))) (y_lss rfl rfl) ?_
   refine c_nil ?_
   refine c_condF (congrArg Value.bool (decide_eq_false hlt)) ?_
   refine wp_exit ?_
   exact ⟨rfl, _, fr_ovl 26 trivial, hC, hO, h0, h1⟩
  ·rintro k12 s10 o14 a w11 ⟨σ, rfl, hC, hO, h0, h1⟩ hlt hw hs
   refine c_seq ?_
   refine c_seq (c_region ?_)
   refine pl_val (.int .i64 k12) (y_move rfl) ?_
   refine pl_val (.slice pa0 pn0 pc0) (y_move rfl) ?_
   refine pl_val (.int .i64 (a_.length : Int)) (y_len' Sl22 (rs_len h0) rfl) ?_
   refine pl_val (.bool (decide (k12 < (a_.length : Int)))) (y_lss rfl rfl) ?_
   refine c_nil ?_
   refine c_condT (congrArg Value.bool (decide_eq_true hlt)) ?_
   refine wp_skip ?_
   refine c_seq ?_
   refine wp_block ?_
   refine c_seq ?_
   refine x_start [] Mx rfl ?_
   have hCw16 := Chg.drew w11
   generalize World.drew w11 = w16 at hCw16 ⊢
   have h0 := h0.ext hCw16
   have h1 := h1.ext hCw16
   have hC := hC.ext hCw16
   have hO := hO.ext hCw16
   have hS := Chg.refl [] w16
   refine x_p 0 (.slice pa0 pn0 pc0) rfl (by kernel_rfl)  (fun _ => y_move rfl) (fun _ => hS) ?_
   refine x_p 1 (.int .i64 k12) rfl (by kernel_rfl)  (fun _ => y_move rfl) (fun _ => hS) ?_
   obtain ⟨x17, hx17, hs⟩ := bind_some hs
   obtain ⟨b18, o18, hp18, ha18⟩ := rs_idx Sl22 Sz3 h0 hx17
   refine x_p 2 (.pointer (some ⟨b18, o18, none⟩)) rfl (by kernel_rfl)  (fun _ => hp18 _ _ _ _ _ _ _ _ _ rfl rfl) (fun _ => hS) ?_
   refine x_l 3 (.int .i64 x17) rfl (by kernel_rfl)  (fun w' hw' => y_load rfl ((at_load_int Ag3 Sz3 ha18) w' hw')) hS ?_
   refine x_p 4 (.slice pa1 pn1 pc1) rfl (by kernel_rfl)  (fun _ => y_move rfl) (fun _ => hS) ?_
   refine x_p 5 (.int .i64 k12) rfl (by kernel_rfl)  (fun _ => y_move rfl) (fun _ => hS) ?_
   obtain ⟨x19, hx19, hs⟩ := bind_some hs
   obtain ⟨b20, o20, hp20, ha20⟩ := rs_idx Sl22 Sz3 h1 hx19
   refine x_p 6 (.pointer (some ⟨b20, o20, none⟩)) rfl (by kernel_rfl)  (fun _ => hp20 _ _ _ _ _ _ _ _ _ rfl rfl) (fun _ => hS) ?_
   refine x_l 7 (.int .i64 x19) rfl (by kernel_rfl)  (fun w' hw' => y_load rfl ((at_load_int Ag3 Sz3 ha20) w' hw')) hS ?_
   refine x_p 8 (.bool (x17 != x19)) rfl (by kernel_rfl)  (fun _ => y_neq rfl rfl) (fun _ => hS) ?_
   refine x_end (by kernel_rfl) ?_
   clear hS
   rcases bif_some hs with ⟨hc21, hs⟩ | ⟨hc21, hs⟩
   ·skip
    refine c_condT (congrArg Value.bool hc21) ?_
    refine c_seq (c_region ?_)
    refine pl_val (.bool false) (y_assign rfl) ?_
    refine c_nil ?_
    refine wp_ret ?_
    cases hs
    exact ⟨_, fr_ovl 26 ⟨rfl, trivial⟩, hC⟩
   ·skip
    refine c_condF (congrArg Value.bool hc21) ?_
    refine wp_skip ?_
    refine c_region ?_
    refine pl_val (.int .i64 k12) (y_move rfl) ?_
    refine pl_val (.int .i64 (w64 (k12 + 1))) (y_add rfl rfl) ?_
    refine pl_val (.int .i64 (w64 (k12 + 1))) (y_assign rfl) ?_
    refine c_nil ?_
    cases hs
    exact ⟨_, fr_ovl 26 ⟨rfl, rfl, congrArg (Value.int .i64) hw, trivial⟩, hC, hO, h0, h1⟩
  ·skip
   exact ⟨_, fr_ovl 26 ⟨rfl, rfl, rfl, trivial⟩, hC, hO, h0, h1⟩
  ·cases o14 with
   | nx _ => exact True.intro
   | rt r_ =>
    have hs := after_rt hs
    intro a1 w1 hK
    cases hs
    exact hK
   | br s10 =>
    have hs := after_br hs
    rintro a1 w11 ⟨σ, rfl, hC, hO, h0, h1⟩
    refine c_seq (c_region ?_)
    refine pl_val (.bool true) (y_assign rfl) ?_
    refine c_nil ?_
    refine wp_ret ?_
    cases hs
    exact ⟨_, fr_ovl 26 ⟨rfl, trivial⟩, hC⟩

theorem Bd16 : Bodied Try.prog 16 := bodied Try.func16 (by kernel_rfl) rfl

def k_laws_eqOp (M : Nat → Prop) (w0 : World) (r : Bool) (a : Act) (w : World) : Prop :=
  ∃ (σ : Nat → Value) , a = fr 16 (ovl σ [(4, (.bool r))]) ∧ Chg [] w0 w
def s_laws_eqOp (a_ : Int × (List Int)) (b : Int × (List Int)) : Option (Bool) :=
  (bif (a_.1 != b.1) then some false else (s_laws_eqIntS a_.2 b.2).bind fun r7 =>
  (bif (!r7) then some false else some true))
set_option maxHeartbeats 4000000 in
theorem c_laws_eqOp {M : Nat → Prop} {w : World} {pa0 : Option Addr} {pn0 pc0 : Nat} {pa1 : Option Addr} {pn1 pc1 : Nat} (a_ : Int × (List Int)) (b : Int × (List Int)) (h0 : (RT.rs (RT.int .i64)).val M w (.slice pa0 pn0 pc0) a_.2 ([])) (h1 : (RT.rs (RT.int .i64)).val M w (.slice pa1 pn1 pc1) b.2 ([])) (hM : ∀ g, w.heap.size ≤ g → M g) {r : Bool} (hs : s_laws_eqOp a_ b = some r) :
    Gives Try.prog 85 [(.agg #[(.int .i64 a_.1), (.slice pa0 pn0 pc0)]), (.agg #[(.int .i64 b.1), (.slice pa1 pn1 pc1)])] w (fun v w' => v = (.bool r) ∧ Chg [] w w') := by
 refine calls_fr Try.func85 rfl Try.ntmps85 (Nat.le_of_ble_eq_true rfl) ?_
 have hO := Own.start (N := Nw w []) hM Nw.fut
 have hC := Chg.refl [] w
 unfold s_laws_eqOp at hs
 refine wp_mono (Q := KPost (k_laws_eqOp M w r)) ?_ (fun e a w1 h => ?_)
 rotate_left
 ·cases e
  case ret =>
   obtain ⟨σ, rfl, hrest⟩ := h
   exact ret1x Try.results85 (res_tmp rfl) ⟨rfl, hrest⟩
  all_goals exact (h : False).elim
 refine c_seq (c_region ?_)
 obtain ⟨w3, g3, ew3, eg3, hC3, hb3⟩ := new_block w [(.int .i64 a_.1), (.slice pa0 pn0 pc0)] 81
 refine pl_val (w' := w3) (.pointer (some ⟨g3, 0, none⟩)) (y_box rfl (by rw [ew3, eg3]; kernel_rfl)) ?_
 have h0 := h0.ext hC3
 have h1 := h1.ext hC3
 have hC := hC.ext hC3
 have hO := hO.new1 hC3 eg3 hb3.lt
 obtain ⟨w4, g4, ew4, eg4, hC4, hb4⟩ := new_block w3 [(.int .i64 b.1), (.slice pa1 pn1 pc1)] 81
 refine pl_val (w' := w4) (.pointer (some ⟨g4, 0, none⟩)) (y_box rfl (by rw [ew4, eg4]; kernel_rfl)) ?_
 have h0 := h0.ext hC4
 have h1 := h1.ext hC4
 have hb3 := hb3.chg hC4 (fun h => nomatch h)
 have hC := hC.ext hC4
 have hO := hO.new1 hC4 eg4 hb4.lt
 refine pl_val (.bool false) (y_assign rfl) ?_
 refine c_nil ?_
 refine c_seq ?_
 refine c_seq (c_region ?_)
 refine pl_val (.pointer (some ⟨g3, 0, none⟩)) (y_faddr rfl Fa81x0) ?_
 refine pl_val (.int .i64 a_.1) (y_load rfl ((box_load Ag3 Sz3 hb3 [] [(.int .i64 a_.1)] [(.slice pa0 pn0 pc0)] rfl rfl (fun _ => rfl)) _ (Chg.refl _ _))) ?_
 refine pl_val (.pointer (some ⟨g4, 0, none⟩)) (y_faddr rfl Fa81x0) ?_
 refine pl_val (.int .i64 b.1) (y_load rfl ((box_load Ag3 Sz3 hb4 [] [(.int .i64 b.1)] [(.slice pa1 pn1 pc1)] rfl rfl (fun _ => rfl)) _ (Chg.refl _ _))) ?_
 refine pl_val (.bool (a_.1 != b.1)) (y_neq rfl rfl) ?_
 refine c_nil ?_
 rcases bif_some hs with ⟨hc5, hs⟩ | ⟨hc5, hs⟩
 ·skip
  refine c_condT (congrArg Value.bool hc5) ?_
  refine c_seq (c_region ?_)
  refine pl_val (.bool false) (y_assign rfl) ?_
  refine c_nil ?_
  refine wp_ret ?_
  cases hs
  exact ⟨_, fr_ovl 16 ⟨rfl, trivial⟩, hC⟩
 ·skip
  refine c_condF (congrArg Value.bool hc5) ?_
  refine wp_skip ?_
  refine c_seq ?_
  refine c_seq (c_region ?_)
  refine pl_val (.pointer (some ⟨g3, 1, none⟩)) (y_faddr rfl Fa81x1) ?_
  refine pl_val (.slice pa0 pn0 pc0) (y_load rfl ((box_load Ag22 Sz22 hb3 [(.int .i64 a_.1)] [(.slice pa0 pn0 pc0)] [] rfl rfl (fun _ => rfl)) _ (Chg.refl _ _))) ?_
  refine pl_val (.pointer (some ⟨g4, 1, none⟩)) (y_faddr rfl Fa81x1) ?_
  refine pl_val (.slice pa1 pn1 pc1) (y_load rfl ((box_load Ag22 Sz22 hb4 [(.int .i64 b.1)] [(.slice pa1 pn1 pc1)] [] rfl rfl (fun _ => rfl)) _ (Chg.refl _ _))) ?_
  obtain ⟨r7, hr7, hs⟩ := bind_some hs
  refine pl_call Bd16 rfl (c_laws_eqIntS (M := M) a_.2 b.2 h0 h1 hO.fut hr7) ?_
  rintro _ w6 ⟨rfl, hC6⟩
  have h0 := h0.ext hC6
  have h1 := h1.ext hC6
  have hb3 := hb3.chg hC6 (fun h => nomatch h)
  have hb4 := hb4.chg hC6 (fun h => nomatch h)
  have hC := hC.ext hC6
  have hO := hO.ext hC6
  refine pl_val (.bool (!r7)) (y_not rfl) ?_
  refine c_nil ?_
  rcases bif_some hs with ⟨hc8, hs⟩ | ⟨hc8, hs⟩
  ·skip
   refine c_condT (congrArg Value.bool hc8) ?_
   refine c_seq (c_region ?_)
   refine pl_val (.bool false) (y_assign rfl) ?_
   refine c_nil ?_
   refine wp_ret ?_
   cases hs
   exact ⟨_, fr_ovl 16 ⟨rfl, trivial⟩, hC⟩
  ·skip
   refine c_condF (congrArg Value.bool hc8) ?_
   refine wp_skip ?_
   refine c_seq (c_region ?_)
   refine pl_val (.bool true) (y_assign rfl) ?_
   refine c_nil ?_
   refine wp_ret ?_
   cases hs
   exact ⟨_, fr_ovl 16 ⟨rfl, trivial⟩, hC⟩

theorem Bd85 : Bodied Try.prog 85 := bodied Try.func85 (by kernel_rfl) rfl

def k_laws_eqOpS (M : Nat → Prop) (w0 : World) (r : Bool) (a : Act) (w : World) : Prop :=
  ∃ (σ : Nat → Value) , a = fr 27 (ovl σ [(4, (.bool r))]) ∧ Chg [] w0 w
def s_laws_eqOpS (a_ : List (Int × (List Int))) (b : List (Int × (List Int))) : Option (Bool) :=
  (bif ((a_.length : Int) != (b.length : Int)) then some false else (forC (S := Unit) (R := Bool) (fun k18 s16 =>
  (idx a_ k18).bind fun x23 =>
  (idx b k18).bind fun x27 =>
  (s_laws_eqOp (x23.1, x23.2) (x27.1, x27.2)).bind fun r32 =>
  (bif (!r32) then some (.rt false) else some (.nx ()))) 0 (a_.length : Int) ()).bind fun o20 => after o20 (fun r_ => some r_) (fun s16 =>
  some true))
set_option maxHeartbeats 4000000 in
theorem c_laws_eqOpS {M : Nat → Prop} {w : World} {pa0 : Option Addr} {pn0 pc0 : Nat} {pa1 : Option Addr} {pn1 pc1 : Nat} (a_ : List (Int × (List Int))) (b : List (Int × (List Int))) (h0 : (RT.rs (RT.pr (RT.int .i64) (RT.rs (RT.int .i64)))).val M w (.slice pa0 pn0 pc0) a_ ([])) (h1 : (RT.rs (RT.pr (RT.int .i64) (RT.rs (RT.int .i64)))).val M w (.slice pa1 pn1 pc1) b ([])) (hM : ∀ g, w.heap.size ≤ g → M g) {r : Bool} (hs : s_laws_eqOpS a_ b = some r) :
    Gives Try.prog 55 [(.slice pa0 pn0 pc0), (.slice pa1 pn1 pc1)] w (fun v w' => v = (.bool r) ∧ Chg [] w w') := by
 refine calls_fr Try.func55 rfl Try.ntmps55 (Nat.le_of_ble_eq_true rfl) ?_
 have hO := Own.start (N := Nw w []) hM Nw.fut
 have hC := Chg.refl [] w
 unfold s_laws_eqOpS at hs
 refine wp_mono (Q := KPost (k_laws_eqOpS M w r)) ?_ (fun e a w1 h => ?_)
 rotate_left
 ·cases e
  case ret =>
   obtain ⟨σ, rfl, hrest⟩ := h
   exact ret1x Try.results55 (res_tmp rfl) ⟨rfl, hrest⟩
  all_goals exact (h : False).elim
 refine c_seq (c_region ?_)
 refine pl_val (.bool false) (y_assign rfl) ?_
 refine c_nil ?_
 refine c_seq ?_
 refine c_seq (c_region ?_)
 refine pl_val (.slice pa0 pn0 pc0) (y_move rfl) ?_
 refine pl_val (.int .i64 (a_.length : Int)) (y_len' Sl33 (rs_len h0) rfl) ?_
 refine pl_val (.slice pa1 pn1 pc1) (y_move rfl) ?_
 refine pl_val (.int .i64 (b.length : Int)) (y_len' Sl33 (rs_len h1) rfl) ?_
 refine pl_val (.bool ((a_.length : Int) != (b.length : Int))) (y_neq rfl rfl) ?_
 refine c_nil ?_
 rcases bif_some hs with ⟨hc3, hs⟩ | ⟨hc3, hs⟩
 ·skip
  refine c_condT (congrArg Value.bool hc3) ?_
  refine c_seq (c_region ?_)
  refine pl_val (.bool false) (y_assign rfl) ?_
  refine c_nil ?_
  refine wp_ret ?_
  cases hs
  exact ⟨_, fr_ovl 27 ⟨rfl, trivial⟩, hC⟩
 ·skip
  refine c_condF (congrArg Value.bool hc3) ?_
  refine wp_skip ?_
  refine c_seq ?_
  refine c_seq (c_region ?_)
  refine pl_val (.int .i64 0) (y_assign rfl) ?_
  refine c_nil ?_
  obtain ⟨o20, hl21, hs⟩ := bind_some hs
  refine wp_block ?_
  refine wp_forC (id := 0) (a_.length : Int) (I := fun k18 s16 a w17 => ∃ (σ : Nat → Value), a = fr 27 (ovl σ [(0, (.slice pa0 pn0 pc0)), (1, (.slice pa1 pn1 pc1)), (5, (.int .i64 k18))]) ∧ Chg [] w w17 ∧ Own (Nw w []) M w17 ([]) ∧ (RT.rs (RT.pr (RT.int .i64) (RT.rs (RT.int .i64)))).val M w17 (.slice pa0 pn0 pc0) a_ ([]) ∧ (RT.rs (RT.pr (RT.int .i64) (RT.rs (RT.int .i64)))).val M w17 (.slice pa1 pn1 pc1) b ([])) (J := fun s16 a w17 => ∃ (σ : Nat → Value), a = fr 27 (ovl σ []) ∧ Chg [] w w17 ∧ Own (Nw w []) M w17 ([]) ∧ (RT.rs (RT.pr (RT.int .i64) (RT.rs (RT.int .i64)))).val M w17 (.slice pa0 pn0 pc0) a_ ([]) ∧ (RT.rs (RT.pr (RT.int .i64) (RT.rs (RT.int .i64)))).val M w17 (.slice pa1 pn1 pc1) b ([])) (K := (k_laws_eqOpS M w)) ?_ ?_ 0 () o20 _ _ ?_ hl21 ?_
  ·rintro k18 s16 a w17 ⟨σ, rfl, hC, hO, h0, h1⟩ hlt
   refine c_seq ?_
   refine c_seq (c_region ?_)
   refine pl_val (.int .i64 k18) (y_move rfl) ?_
   refine pl_val (.slice pa0 pn0 pc0) (y_move rfl) ?_
   refine pl_val (.int .i64 (a_.length : Int)) (y_len' Sl33 (rs_len h0) rfl) ?_
   refine pl_val (.bool (decide (k18 < (a_.length : Int)))) (y_lss rfl rfl) ?_
   refine c_nil ?_
   refine c_condF (congrArg Value.bool (decide_eq_false hlt)) ?_
   refine wp_exit ?_
   exact ⟨rfl, _, fr_ovl 27 trivial, hC, hO, h0, h1⟩
  ·rintro k18 s16 o20 a w17 ⟨σ, rfl, hC, hO, h0, h1⟩ hlt hw hs
   refine c_seq ?_
   refine c_seq (c_region ?_)
   refine pl_val (.int .i64 k18) (y_move rfl) ?_
   refine pl_val (.slice pa0 pn0 pc0) (y_move rfl) ?_
   refine pl_val (.int .i64 (a_.length : Int)) (y_len' Sl33 (rs_len h0) rfl) ?_
   refine pl_val (.bool (decide (k18 < (a_.length : Int)))) (y_lss rfl rfl) ?_
   refine c_nil ?_
   refine c_condT (congrArg Value.bool (decide_eq_true hlt)) ?_
   refine wp_skip ?_
   refine c_seq ?_
   refine wp_block ?_
   refine c_seq ?_
   refine x_start [] Mx rfl ?_
   have hCw22 := Chg.drew w17
   generalize World.drew w17 = w22 at hCw22 ⊢
   have h0 := h0.ext hCw22
   have h1 := h1.ext hCw22
   have hC := hC.ext hCw22
   have hO := hO.ext hCw22
   have hS := Chg.refl [] w22
   refine x_p 0 (.slice pa0 pn0 pc0) rfl (by kernel_rfl)  (fun _ => y_move rfl) (fun _ => hS) ?_
   refine x_p 1 (.int .i64 k18) rfl (by kernel_rfl)  (fun _ => y_move rfl) (fun _ => hS) ?_
   obtain ⟨x23, hx23, hs⟩ := bind_some hs
   obtain ⟨b24, o24, hp24, ha24⟩ := rs_idx Sl33 Sz81 h0 hx23
   refine x_p 2 (.pointer (some ⟨b24, o24, none⟩)) rfl (by kernel_rfl)  (fun _ => hp24 _ _ _ _ _ _ _ _ _ rfl rfl) (fun _ => hS) ?_
   obtain ⟨v25, hl25, hv25⟩ := at_load Ag81 Sz81 (by intro h; cases h) ha24
   obtain ⟨cs25, rfl, hr25⟩ := hv25
   obtain ⟨cc25x1, cd25x1, rfl, hh25x1, ht25x1⟩ := pr_open hr25
   obtain rfl := int_rel hh25x1
   obtain ⟨a25x2, n25x2, c25x2, rfl, hv25x2⟩ := rs_rel ht25x1
   refine x_l 3 (.agg #[(.int .i64 x23.1), (.slice a25x2 n25x2 c25x2)]) rfl (by kernel_rfl)  (fun w' hw' => y_load rfl (hl25 w' hw')) hS ?_
   refine x_p 4 (.slice pa1 pn1 pc1) rfl (by kernel_rfl)  (fun _ => y_move rfl) (fun _ => hS) ?_
   refine x_p 5 (.int .i64 k18) rfl (by kernel_rfl)  (fun _ => y_move rfl) (fun _ => hS) ?_
   obtain ⟨x27, hx27, hs⟩ := bind_some hs
   obtain ⟨b28, o28, hp28, ha28⟩ := rs_idx Sl33 Sz81 h1 hx27
   refine x_p 6 (.pointer (some ⟨b28, o28, none⟩)) rfl (by kernel_rfl)  (fun _ => hp28 _ _ _ _ _ _ _ _ _ rfl rfl) (fun _ => hS) ?_
   obtain ⟨v29, hl29, hv29⟩ := at_load Ag81 Sz81 (by intro h; cases h) ha28
   obtain ⟨cs29, rfl, hr29⟩ := hv29
   obtain ⟨cc29x1, cd29x1, rfl, hh29x1, ht29x1⟩ := pr_open hr29
   obtain rfl := int_rel hh29x1
   obtain ⟨a29x2, n29x2, c29x2, rfl, hv29x2⟩ := rs_rel ht29x1
   refine x_l 7 (.agg #[(.int .i64 x27.1), (.slice a29x2 n29x2 c29x2)]) rfl (by kernel_rfl)  (fun w' hw' => y_load rfl (hl29 w' hw')) hS ?_
   refine x_one (i := 8) (by kernel_rfl) ?_
   obtain ⟨r32, hr32, hs⟩ := bind_some hs
   refine xk_call (b := false) rfl  Bd85 rfl (c_laws_eqOp (M := M) (x23.1, x23.2) (x27.1, x27.2) hv25x2 hv29x2 hO.fut hr32) rfl (by rintro _ _ _ ⟨rfl, hC31⟩; exact hS.ext hC31) ?_
   rintro _ w31 ⟨rfl, hC31⟩
   have h0 := h0.ext hC31
   have h1 := h1.ext hC31
   have hv25x2 := hv25x2.ext hC31
   have hv29x2 := hv29x2.ext hC31
   have hC := hC.ext hC31
   have hO := hO.ext hC31
   have hS := hS.ext hC31
   refine x_p 9 (.bool (!r32)) rfl (by kernel_rfl)  (fun _ => y_not rfl) (fun _ => hS) ?_
   refine x_end (by kernel_rfl) ?_
   clear hS
   rcases bif_some hs with ⟨hc33, hs⟩ | ⟨hc33, hs⟩
   ·skip
    refine c_condT (congrArg Value.bool hc33) ?_
    refine c_seq (c_region ?_)
    refine pl_val (.bool false) (y_assign rfl) ?_
    refine c_nil ?_
    refine wp_ret ?_
    cases hs
    exact ⟨_, fr_ovl 27 ⟨rfl, trivial⟩, hC⟩
   ·skip
    refine c_condF (congrArg Value.bool hc33) ?_
    refine wp_skip ?_
    refine c_region ?_
    refine pl_val (.int .i64 k18) (y_move rfl) ?_
    refine pl_val (.int .i64 (w64 (k18 + 1))) (y_add rfl rfl) ?_
    refine pl_val (.int .i64 (w64 (k18 + 1))) (y_assign rfl) ?_
    refine c_nil ?_
    cases hs
    exact ⟨_, fr_ovl 27 ⟨rfl, rfl, congrArg (Value.int .i64) hw, trivial⟩, hC, hO, h0, h1⟩
  ·skip
   exact ⟨_, fr_ovl 27 ⟨rfl, rfl, rfl, trivial⟩, hC, hO, h0, h1⟩
  ·cases o20 with
   | nx _ => exact True.intro
   | rt r_ =>
    have hs := after_rt hs
    intro a1 w1 hK
    cases hs
    exact hK
   | br s16 =>
    have hs := after_br hs
    rintro a1 w17 ⟨σ, rfl, hC, hO, h0, h1⟩
    refine c_seq (c_region ?_)
    refine pl_val (.bool true) (y_assign rfl) ?_
    refine c_nil ?_
    refine wp_ret ?_
    cases hs
    exact ⟨_, fr_ovl 27 ⟨rfl, trivial⟩, hC⟩

theorem Bd55 : Bodied Try.prog 55 := bodied Try.func55 (by kernel_rfl) rfl

def k_laws_eqAlgebra (M : Nat → Prop) (w0 : World) (r : Bool) (a : Act) (w : World) : Prop :=
  ∃ (σ : Nat → Value) , a = fr 16 (ovl σ [(4, (.bool r))]) ∧ Chg [] w0 w
def s_laws_eqAlgebra (a_ : Int × (List (Int × (List Int)))) (b : Int × (List (Int × (List Int)))) : Option (Bool) :=
  (bif (a_.1 != b.1) then some false else (s_laws_eqOpS a_.2 b.2).bind fun r7 =>
  (bif (!r7) then some false else some true))
set_option maxHeartbeats 4000000 in
theorem c_laws_eqAlgebra {M : Nat → Prop} {w : World} {pa0 : Option Addr} {pn0 pc0 : Nat} {pa1 : Option Addr} {pn1 pc1 : Nat} (a_ : Int × (List (Int × (List Int)))) (b : Int × (List (Int × (List Int)))) (h0 : (RT.rs (RT.pr (RT.int .i64) (RT.rs (RT.int .i64)))).val M w (.slice pa0 pn0 pc0) a_.2 ([])) (h1 : (RT.rs (RT.pr (RT.int .i64) (RT.rs (RT.int .i64)))).val M w (.slice pa1 pn1 pc1) b.2 ([])) (hM : ∀ g, w.heap.size ≤ g → M g) {r : Bool} (hs : s_laws_eqAlgebra a_ b = some r) :
    Gives Try.prog 21 [(.agg #[(.int .i64 a_.1), (.slice pa0 pn0 pc0)]), (.agg #[(.int .i64 b.1), (.slice pa1 pn1 pc1)])] w (fun v w' => v = (.bool r) ∧ Chg [] w w') := by
 refine calls_fr Try.func21 rfl Try.ntmps21 (Nat.le_of_ble_eq_true rfl) ?_
 have hO := Own.start (N := Nw w []) hM Nw.fut
 have hC := Chg.refl [] w
 unfold s_laws_eqAlgebra at hs
 refine wp_mono (Q := KPost (k_laws_eqAlgebra M w r)) ?_ (fun e a w1 h => ?_)
 rotate_left
 ·cases e
  case ret =>
   obtain ⟨σ, rfl, hrest⟩ := h
   exact ret1x Try.results21 (res_tmp rfl) ⟨rfl, hrest⟩
  all_goals exact (h : False).elim
 refine c_seq (c_region ?_)
 obtain ⟨w3, g3, ew3, eg3, hC3, hb3⟩ := new_block w [(.int .i64 a_.1), (.slice pa0 pn0 pc0)] 35
 refine pl_val (w' := w3) (.pointer (some ⟨g3, 0, none⟩)) (y_box rfl (by rw [ew3, eg3]; kernel_rfl)) ?_
 have h0 := h0.ext hC3
 have h1 := h1.ext hC3
 have hC := hC.ext hC3
 have hO := hO.new1 hC3 eg3 hb3.lt
 obtain ⟨w4, g4, ew4, eg4, hC4, hb4⟩ := new_block w3 [(.int .i64 b.1), (.slice pa1 pn1 pc1)] 35
 refine pl_val (w' := w4) (.pointer (some ⟨g4, 0, none⟩)) (y_box rfl (by rw [ew4, eg4]; kernel_rfl)) ?_
 have h0 := h0.ext hC4
 have h1 := h1.ext hC4
 have hb3 := hb3.chg hC4 (fun h => nomatch h)
 have hC := hC.ext hC4
 have hO := hO.new1 hC4 eg4 hb4.lt
 refine pl_val (.bool false) (y_assign rfl) ?_
 refine c_nil ?_
 refine c_seq ?_
 refine c_seq (c_region ?_)
 refine pl_val (.pointer (some ⟨g3, 0, none⟩)) (y_faddr rfl Fa35x0) ?_
 refine pl_val (.int .i64 a_.1) (y_load rfl ((box_load Ag3 Sz3 hb3 [] [(.int .i64 a_.1)] [(.slice pa0 pn0 pc0)] rfl rfl (fun _ => rfl)) _ (Chg.refl _ _))) ?_
 refine pl_val (.pointer (some ⟨g4, 0, none⟩)) (y_faddr rfl Fa35x0) ?_
 refine pl_val (.int .i64 b.1) (y_load rfl ((box_load Ag3 Sz3 hb4 [] [(.int .i64 b.1)] [(.slice pa1 pn1 pc1)] rfl rfl (fun _ => rfl)) _ (Chg.refl _ _))) ?_
 refine pl_val (.bool (a_.1 != b.1)) (y_neq rfl rfl) ?_
 refine c_nil ?_
 rcases bif_some hs with ⟨hc5, hs⟩ | ⟨hc5, hs⟩
 ·skip
  refine c_condT (congrArg Value.bool hc5) ?_
  refine c_seq (c_region ?_)
  refine pl_val (.bool false) (y_assign rfl) ?_
  refine c_nil ?_
  refine wp_ret ?_
  cases hs
  exact ⟨_, fr_ovl 16 ⟨rfl, trivial⟩, hC⟩
 ·skip
  refine c_condF (congrArg Value.bool hc5) ?_
  refine wp_skip ?_
  refine c_seq ?_
  refine c_seq (c_region ?_)
  refine pl_val (.pointer (some ⟨g3, 1, none⟩)) (y_faddr rfl Fa35x1) ?_
  refine pl_val (.slice pa0 pn0 pc0) (y_load rfl ((box_load Ag33 Sz33 hb3 [(.int .i64 a_.1)] [(.slice pa0 pn0 pc0)] [] rfl rfl (fun _ => rfl)) _ (Chg.refl _ _))) ?_
  refine pl_val (.pointer (some ⟨g4, 1, none⟩)) (y_faddr rfl Fa35x1) ?_
  refine pl_val (.slice pa1 pn1 pc1) (y_load rfl ((box_load Ag33 Sz33 hb4 [(.int .i64 b.1)] [(.slice pa1 pn1 pc1)] [] rfl rfl (fun _ => rfl)) _ (Chg.refl _ _))) ?_
  obtain ⟨r7, hr7, hs⟩ := bind_some hs
  refine pl_call Bd55 rfl (c_laws_eqOpS (M := M) a_.2 b.2 h0 h1 hO.fut hr7) ?_
  rintro _ w6 ⟨rfl, hC6⟩
  have h0 := h0.ext hC6
  have h1 := h1.ext hC6
  have hb3 := hb3.chg hC6 (fun h => nomatch h)
  have hb4 := hb4.chg hC6 (fun h => nomatch h)
  have hC := hC.ext hC6
  have hO := hO.ext hC6
  refine pl_val (.bool (!r7)) (y_not rfl) ?_
  refine c_nil ?_
  rcases bif_some hs with ⟨hc8, hs⟩ | ⟨hc8, hs⟩
  ·skip
   refine c_condT (congrArg Value.bool hc8) ?_
   refine c_seq (c_region ?_)
   refine pl_val (.bool false) (y_assign rfl) ?_
   refine c_nil ?_
   refine wp_ret ?_
   cases hs
   exact ⟨_, fr_ovl 16 ⟨rfl, trivial⟩, hC⟩
  ·skip
   refine c_condF (congrArg Value.bool hc8) ?_
   refine wp_skip ?_
   refine c_seq (c_region ?_)
   refine pl_val (.bool true) (y_assign rfl) ?_
   refine c_nil ?_
   refine wp_ret ?_
   cases hs
   exact ⟨_, fr_ovl 16 ⟨rfl, trivial⟩, hC⟩

theorem Ag30 : AggT Try.prog 30 true := fun _ => by kernel_rfl

theorem Sz30 : SzT Try.prog 30 2 := ⟨_, rfl, rfl⟩

theorem Bd17 : Bodied Try.prog 17 := bodied Try.func17 (by kernel_rfl) rfl

theorem Bd19 : Bodied Try.prog 19 := bodied Try.func19 (by kernel_rfl) rfl

theorem Bd18 : Bodied Try.prog 18 := bodied Try.func18 (by kernel_rfl) rfl

theorem Bd20 : Bodied Try.prog 20 := bodied Try.func20 (by kernel_rfl) rfl

theorem Bd21 : Bodied Try.prog 21 := bodied Try.func21 (by kernel_rfl) rfl

def k_laws_FnExactCongruenceHeight (M : Nat → Prop) (w0 : World) (r : Bool) (a : Act) (w : World) : Prop :=
  ∃ (σ : Nat → Value) , a = fr 40 (ovl σ [(2, (.bool r))]) ∧ Chg [] w0 w
def s_laws_FnExactCongruenceHeight (aA : Int × (List (Int × (List Int)))) : Option (Bool) :=
  (s_laws_szAlgebra (aA.1, aA.2) 1048576).bind fun r4 =>
  (bif (decide (r4 < 0)) then some true else (s_laws_toAlgebra (aA.1, aA.2)).bind fun r7 =>
  (s_spec_CongruenceHeight (r7.1, r7.2)).bind fun r10 =>
  (s_laws_toAlgebra (aA.1, aA.2)).bind fun r12 =>
  (s_impl_CongruenceHeight (r12.1, r12.2)).bind fun r17 =>
  (bif ((r17.1 != r10.1) || (!(r17.2 == r10.2))) then some false else (s_laws_toAlgebra (aA.1, aA.2)).bind fun r25 =>
  (s_laws_eqAlgebra (r12.1, r12.2) (r25.1, r25.2)).bind fun r28 =>
  (bif (!r28) then some false else some true)))
set_option maxHeartbeats 4000000 in
theorem c_laws_FnExactCongruenceHeight {M : Nat → Prop} {w : World} {pa0 : Option Addr} {pn0 pc0 : Nat} (aA : Int × (List (Int × (List Int)))) (h0 : (RT.rs (RT.pr (RT.int .i64) (RT.rs (RT.int .i64)))).val M w (.slice pa0 pn0 pc0) aA.2 ([])) (hM : ∀ g, w.heap.size ≤ g → M g) {r : Bool} (hs : s_laws_FnExactCongruenceHeight aA = some r) :
    Gives Try.prog 4 [(.agg #[(.int .i64 aA.1), (.slice pa0 pn0 pc0)])] w (fun v w' => v = (.bool r) ∧ Chg [] w w') := by
 refine calls_fr Try.func4 rfl Try.ntmps4 (Nat.le_of_ble_eq_true rfl) ?_
 have hO := Own.start (N := Nw w []) hM Nw.fut
 have hC := Chg.refl [] w
 unfold s_laws_FnExactCongruenceHeight at hs
 refine wp_mono (Q := KPost (k_laws_FnExactCongruenceHeight M w r)) ?_ (fun e a w1 h => ?_)
 rotate_left
 ·cases e
  case ret =>
   obtain ⟨σ, rfl, hrest⟩ := h
   exact ret1x Try.results4 (res_tmp rfl) ⟨rfl, hrest⟩
  all_goals exact (h : False).elim
 refine c_seq (c_region ?_)
 obtain ⟨w2, g2, ew2, eg2, hC2, hb2⟩ := new_block w [(.int .i64 aA.1), (.slice pa0 pn0 pc0)] 30
 refine pl_val (w' := w2) (.pointer (some ⟨g2, 0, none⟩)) (y_box rfl (by rw [ew2, eg2]; kernel_rfl)) ?_
 have h0 := h0.ext hC2
 have hC := hC.ext hC2
 have hO := hO.new1 hC2 eg2 hb2.lt
 refine pl_val (.bool false) (y_assign rfl) ?_
 refine c_nil ?_
 refine c_seq (c_region ?_)
 refine pl_val (.int .i64 1048576) (y_assign rfl) ?_
 refine c_nil ?_
 refine c_seq (c_region ?_)
 refine pl_val (.agg #[(.int .i64 aA.1), (.slice pa0 pn0 pc0)]) (y_load rfl ((box_load Ag30 Sz30 hb2 [] [(.int .i64 aA.1), (.slice pa0 pn0 pc0)] [] rfl rfl (fun h => nomatch h)) _ (Chg.refl _ _))) ?_
 refine pl_val (.int .i64 1048576) (y_move rfl) ?_
 obtain ⟨r4, hr4, hs⟩ := bind_some hs
 refine pl_call Bd17 rfl (c_laws_szAlgebra (M := M) (aA.1, aA.2) 1048576 h0 hO.fut hr4) ?_
 rintro _ w3 ⟨rfl, hC3⟩
 have h0 := h0.ext hC3
 have hb2 := hb2.chg hC3 (fun h => nomatch h)
 have hC := hC.ext hC3
 have hO := hO.ext hC3
 refine pl_val (.int .i64 r4) (y_assign rfl) ?_
 refine c_nil ?_
 refine c_seq ?_
 refine c_seq (c_region ?_)
 refine pl_val (.int .i64 r4) (y_move rfl) ?_
 refine pl_val (.bool (decide (r4 < 0))) (y_lss rfl rfl) ?_
 refine c_nil ?_
 rcases bif_some hs with ⟨hc5, hs⟩ | ⟨hc5, hs⟩
 ·skip
  refine c_condT (congrArg Value.bool hc5) ?_
  refine c_seq (c_region ?_)
  refine pl_val (.bool true) (y_assign rfl) ?_
  refine c_nil ?_
  refine wp_ret ?_
  cases hs
  exact ⟨_, fr_ovl 40 ⟨rfl, trivial⟩, hC⟩
 ·skip
  refine c_condF (congrArg Value.bool hc5) ?_
  refine wp_skip ?_
  refine c_seq (c_region ?_)
  refine pl_val (.agg #[(.int .i64 aA.1), (.slice pa0 pn0 pc0)]) (y_load rfl ((box_load Ag30 Sz30 hb2 [] [(.int .i64 aA.1), (.slice pa0 pn0 pc0)] [] rfl rfl (fun h => nomatch h)) _ (Chg.refl _ _))) ?_
  obtain ⟨r7, hr7, hs⟩ := bind_some hs
  refine pl_call Bd19 rfl (c_laws_toAlgebra (M := M) (aA.1, aA.2) h0 hO.fut hr7) ?_
  rintro _ w6 ⟨a6x0, n6x0, c6x0, f6x0, rfl, hC6, hv6x0, hOc6⟩
  have h0 := h0.ext hC6
  have hb2 := hb2.chg hC6 (fun h => nomatch h)
  have hC := hC.ext hC6
  have hO := Own.join0 hO hC6 hOc6
  have hO := hO.perm (R := f6x0 ++ (([g2]) ++ ([]))) (by simp)
  obtain ⟨r10, hr10, hs⟩ := bind_some hs
  refine pl_call Bd18 rfl (c_spec_CongruenceHeight (M := (Less M f6x0)) (r7.1, r7.2) (((Frz.os (Frz.pr Frz.int (Frz.os Frz.int)))).val hv6x0 Less.sub Less.not) hO.less.fut hr10) ?_
  rintro _ w9 ⟨rfl, hC9⟩
  have h0 := h0.ext hC9
  have hb2 := hb2.chg hC9 (fun h => nomatch h)
  have hv6x0 := hv6x0.ext hC9
  have hC := hC.ext hC9
  have hO := hO.ext hC9
  refine pl_val (.tuple #[(.int .i64 r10.1), (.bool r10.2)]) (y_move rfl) ?_
  refine pl_val (.int .i64 r10.1) (y_extract rfl (by kernel_rfl)) ?_
  refine pl_val (.bool r10.2) (y_extract rfl (by kernel_rfl)) ?_
  refine pl_val (.int .i64 r10.1) (y_assign rfl) ?_
  refine pl_val (.bool r10.2) (y_assign rfl) ?_
  refine c_nil ?_
  refine c_seq (c_region ?_)
  refine pl_val (.agg #[(.int .i64 aA.1), (.slice pa0 pn0 pc0)]) (y_load rfl ((box_load Ag30 Sz30 hb2 [] [(.int .i64 aA.1), (.slice pa0 pn0 pc0)] [] rfl rfl (fun h => nomatch h)) _ (Chg.refl _ _))) ?_
  obtain ⟨r12, hr12, hs⟩ := bind_some hs
  refine pl_call Bd19 rfl (c_laws_toAlgebra (M := M) (aA.1, aA.2) h0 hO.fut hr12) ?_
  rintro _ w11 ⟨a11x0, n11x0, c11x0, f11x0, rfl, hC11, hv11x0, hOc11⟩
  have h0 := h0.ext hC11
  have hb2 := hb2.chg hC11 (fun h => nomatch h)
  have hv6x0 := hv6x0.ext hC11
  have hC := hC.ext hC11
  have hO := Own.join0 hO hC11 hOc11
  have hO := hO.perm (R := f11x0 ++ (f6x0 ++ (([g2]) ++ ([])))) (by simp)
  obtain ⟨w14, g14, ew14, eg14, hC14, hb14⟩ := new_block w11 [(.int .i64 0), (.slice none 0 0)] 35
  refine pl_val (w' := w14) (.pointer (some ⟨g14, 0, none⟩)) (y_alloc (by rw [ew14, eg14]; kernel_rfl)) ?_
  have h0 := h0.ext hC14
  have hb2 := hb2.chg hC14 (fun h => nomatch h)
  have hv6x0 := hv6x0.ext hC14
  have hv11x0 := hv11x0.ext hC14
  have hC := hC.ext hC14
  have hO := hO.new1 hC14 eg14 hb14.lt
  obtain ⟨w15, hst15, hC15, hb15⟩ := box_store (P := Try.prog) hb14 [] [(.int .i64 0), (.slice none 0 0)] [] [(.int .i64 r12.1), (.slice a11x0 n11x0 c11x0)] rfl rfl (by intro u hu; simp only [List.mem_cons, List.not_mem_nil, or_false] at hu; rcases hu with rfl | rfl <;> rfl)
  refine pl_skip (w' := w15) (ys_store rfl rfl (hst15 _ _ rfl Sz35)) ?_
  have h0 := h0.mut hC15 (fun g hg => hO.inM g ((fun _ h => h) g hg)) (fun _ _ h => nomatch h)
  have hb2 := hb2.chg hC15 (fun hg => hO.apart _ ((fun _ h => h) _ hg) (mem_r (mem_r (mem_l (List.mem_singleton.2 rfl)))))
  have hv6x0 := hv6x0.mut hC15 (fun g hg => hO.inM g ((fun _ h => h) g hg)) (fun g hg e => hO.apart g ((fun _ h => h) g hg) (mem_r (mem_l (e))))
  have hv11x0 := hv11x0.mut hC15 (fun g hg => hO.inM g ((fun _ h => h) g hg)) (fun g hg e => hO.apart g ((fun _ h => h) g hg) (mem_l (e)))
  have hC := hC.step hC15 (fun g hg => hO.inN g ((fun _ h => h) g hg))
  have hO := hO.ext hC15
  have hb15 : BoxV w15 g14 35 [(.int .i64 r12.1), (.slice a11x0 n11x0 c11x0)] := hb15
  refine c_nil ?_
  refine c_seq (c_region ?_)
  refine pl_val (.agg #[(.int .i64 r12.1), (.slice a11x0 n11x0 c11x0)]) (y_load rfl ((box_load Ag35 Sz35 hb15 [] [(.int .i64 r12.1), (.slice a11x0 n11x0 c11x0)] [] rfl rfl (fun h => nomatch h)) _ (Chg.refl _ _))) ?_
  have hO := hO.fr1
  obtain ⟨r17, hr17, hs⟩ := bind_some hs
  refine pl_call Bd20 rfl (c_impl_CongruenceHeight (M := (Less M f11x0)) (r12.1, r12.2) (((Frz.os (Frz.pr Frz.int (Frz.os Frz.int)))).val hv11x0 Less.sub Less.not) hO.less.fut hr17) ?_
  rintro _ w16 ⟨rfl, hC16⟩
  have h0 := h0.ext hC16
  have hb2 := hb2.chg hC16 (fun h => nomatch h)
  have hv6x0 := hv6x0.ext hC16
  have hv11x0 := hv11x0.ext hC16
  have hb15 := hb15.chg hC16 (fun h => nomatch h)
  have hC := hC.ext hC16
  have hO := hO.ext hC16
  refine pl_val (.tuple #[(.int .i64 r17.1), (.bool r17.2)]) (y_move rfl) ?_
  refine pl_val (.int .i64 r17.1) (y_extract rfl (by kernel_rfl)) ?_
  refine pl_val (.bool r17.2) (y_extract rfl (by kernel_rfl)) ?_
  refine pl_val (.int .i64 r17.1) (y_assign rfl) ?_
  refine pl_val (.bool r17.2) (y_assign rfl) ?_
  refine c_nil ?_
  refine c_seq ?_
  refine c_seq ?_
  refine c_mid (I := fun a w19 => ∃ (σ : Nat → Value), a = fr 40 (ovl σ [(1, (.pointer (some ⟨g2, 0, none⟩))), (2, (.bool false)), (6, (.pointer (some ⟨g14, 0, none⟩))), (34, (.bool ((r17.1 != r10.1) || (!(r17.2 == r10.2)))))]) ∧ Chg [] w16 w19) ?_ ?_
  ·have hMid := Chg.refl [] w16
   refine c_region ?_
   refine pl_val (.int .i64 r17.1) (y_move rfl) ?_
   refine pl_val (.int .i64 r10.1) (y_move rfl) ?_
   refine pl_val (.bool (r17.1 != r10.1)) (y_neq rfl rfl) ?_
   refine pl_val (.bool (r17.1 != r10.1)) (y_move rfl) ?_
   rcases Bool.eq_false_or_eq_true ((r17.1 != r10.1)) with hc21 | hc21
   ·skip
    refine pl_not (tg := 30) (by kernel_rfl) (congrArg Value.bool hc21) ?_
    refine pl_not (tg := 30) (by kernel_rfl) (congrArg Value.bool hc21) ?_
    refine pl_not (tg := 30) (by kernel_rfl) (congrArg Value.bool hc21) ?_
    refine pl_val (.bool ((r17.1 != r10.1) || (!(r17.2 == r10.2)))) (y_pick_t (congrArg Value.bool hc21) (congrArg Value.bool (by rw [hc21]; rfl))) ?_
    refine c_nil ?_
    exact ⟨_, fr_ovl 40 ⟨rfl, rfl, rfl, rfl, trivial⟩, hMid⟩
   ·skip
    refine pl_yes (.bool r17.2) (tg := 30) (by kernel_rfl) (congrArg Value.bool hc21) (y_move rfl) ?_
    refine pl_yes (.bool r10.2) (tg := 30) (by kernel_rfl) (congrArg Value.bool hc21) (y_move rfl) ?_
    refine pl_yes (.bool (!(r17.2 == r10.2))) (tg := 30) (by kernel_rfl) (congrArg Value.bool hc21) (y_bneq Try.underlying4 rfl rfl) ?_
    refine pl_val (.bool ((r17.1 != r10.1) || (!(r17.2 == r10.2)))) (y_pick_f (congrArg Value.bool hc21) (congrArg Value.bool (by rw [hc21]; rfl))) ?_
    refine c_nil ?_
    exact ⟨_, fr_ovl 40 ⟨rfl, rfl, rfl, rfl, trivial⟩, hMid⟩
  ·rintro a1 w19 ⟨σ, rfl, hCs18⟩
   have h0 := h0.ext hCs18
   have hb2 := hb2.chg hCs18 (fun h => nomatch h)
   have hv6x0 := hv6x0.ext hCs18
   have hv11x0 := hv11x0.ext hCs18
   have hb15 := hb15.chg hCs18 (fun h => nomatch h)
   have hC := hC.ext hCs18
   have hO := hO.ext hCs18
   rcases bif_some hs with ⟨hc22, hs⟩ | ⟨hc22, hs⟩
   ·skip
    refine c_condT (congrArg Value.bool hc22) ?_
    refine c_seq (c_region ?_)
    refine pl_val (.bool false) (y_assign rfl) ?_
    refine c_nil ?_
    refine wp_ret ?_
    cases hs
    exact ⟨_, fr_ovl 40 ⟨rfl, trivial⟩, hC⟩
   ·skip
    refine c_condF (congrArg Value.bool hc22) ?_
    refine wp_skip ?_
    refine c_seq ?_
    refine c_seq ?_
    refine x_start [] Mx rfl ?_
    have hCw23 := Chg.drew w19
    generalize World.drew w19 = w23 at hCw23 ⊢
    have h0 := h0.ext hCw23
    have hb2 := hb2.chg hCw23 (fun h => nomatch h)
    have hv6x0 := hv6x0.ext hCw23
    have hv11x0 := hv11x0.ext hCw23
    have hb15 := hb15.chg hCw23 (fun h => nomatch h)
    have hC := hC.ext hCw23
    have hO := hO.ext hCw23
    have hS := Chg.refl [] w23
    refine x_l 0 (.agg #[(.int .i64 r12.1), (.slice a11x0 n11x0 c11x0)]) rfl (by kernel_rfl)  (fun w' hw' => y_load rfl ((box_load Ag35 Sz35 hb15 [] [(.int .i64 r12.1), (.slice a11x0 n11x0 c11x0)] [] rfl rfl (fun h => nomatch h)) w' hw')) hS ?_
    refine x_l 1 (.agg #[(.int .i64 aA.1), (.slice pa0 pn0 pc0)]) rfl (by kernel_rfl)  (fun w' hw' => y_load rfl ((box_load Ag30 Sz30 hb2 [] [(.int .i64 aA.1), (.slice pa0 pn0 pc0)] [] rfl rfl (fun h => nomatch h)) w' hw')) hS ?_
    refine x_one (i := 2) (by kernel_rfl) ?_
    obtain ⟨r25, hr25, hs⟩ := bind_some hs
    refine xk_call (b := false) rfl  Bd19 rfl (c_laws_toAlgebra (M := M) (aA.1, aA.2) h0 hO.fut hr25) rfl (by rintro _ _ _ ⟨a24x0, n24x0, c24x0, f24x0, rfl, hC24, hv24x0, hOc24⟩; exact hS.ext hC24) ?_
    rintro _ w24 ⟨a24x0, n24x0, c24x0, f24x0, rfl, hC24, hv24x0, hOc24⟩
    have h0 := h0.ext hC24
    have hb2 := hb2.chg hC24 (fun h => nomatch h)
    have hv6x0 := hv6x0.ext hC24
    have hv11x0 := hv11x0.ext hC24
    have hb15 := hb15.chg hC24 (fun h => nomatch h)
    have hC := hC.ext hC24
    have hO := Own.join0 hO hC24 hOc24
    have hO := hO.perm (R := f24x0 ++ (f11x0 ++ (([g14]) ++ (f6x0 ++ (([g2]) ++ ([])))))) (by simp)
    have hS := hS.ext hC24
    refine x_one (i := 3) (by kernel_rfl) ?_
    have hO := hO.fr1
    obtain ⟨r28, hr28, hs⟩ := bind_some hs
    refine xk_call (b := false) rfl  Bd21 rfl (c_laws_eqAlgebra (M := (Less (Less M f11x0) f24x0)) (r12.1, r12.2) (r25.1, r25.2) ((((Frz.os (Frz.pr Frz.int (Frz.os Frz.int)))).val hv11x0 Less.sub Less.not).sub Less.sub) (((Frz.os (Frz.pr Frz.int (Frz.os Frz.int)))).val (hv24x0.sub Less.sub) Less.sub Less.not) (hO.less).less.fut hr28) rfl (by rintro _ _ _ ⟨rfl, hC27⟩; exact hS.ext hC27) ?_
    rintro _ w27 ⟨rfl, hC27⟩
    have h0 := h0.ext hC27
    have hb2 := hb2.chg hC27 (fun h => nomatch h)
    have hv6x0 := hv6x0.ext hC27
    have hv11x0 := hv11x0.ext hC27
    have hb15 := hb15.chg hC27 (fun h => nomatch h)
    have hv24x0 := hv24x0.ext hC27
    have hC := hC.ext hC27
    have hO := hO.ext hC27
    have hS := hS.ext hC27
    refine x_p 4 (.bool (!r28)) rfl (by kernel_rfl)  (fun _ => y_not rfl) (fun _ => hS) ?_
    refine x_end (by kernel_rfl) ?_
    clear hS
    rcases bif_some hs with ⟨hc29, hs⟩ | ⟨hc29, hs⟩
    ·skip
     refine c_condT (congrArg Value.bool hc29) ?_
     refine c_seq (c_region ?_)
     refine pl_val (.bool false) (y_assign rfl) ?_
     refine c_nil ?_
     refine wp_ret ?_
     cases hs
     exact ⟨_, fr_ovl 40 ⟨rfl, trivial⟩, hC⟩
    ·skip
     refine c_condF (congrArg Value.bool hc29) ?_
     refine wp_skip ?_
     refine c_seq (c_region ?_)
     refine pl_val (.bool true) (y_assign rfl) ?_
     refine c_nil ?_
     refine wp_ret ?_
     cases hs
     exact ⟨_, fr_ovl 40 ⟨rfl, trivial⟩, hC⟩

end Go.Proofs
