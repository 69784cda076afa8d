/- What functions of the program compute, as plain functions, and that a call gives just that. Conditions: those named in each theorem. -/
import Derived.Test.YtbicnacclhhlkaaF1
set_option linter.unusedVariables false
namespace Go.Proofs
open Go.G Go.RowKit
set_option maxRecDepth 100000

def k_impl_keyOf (M : Nat → Prop) (w0 : World) (r : ByteArray) (a : Act) (w : World) : Prop :=
  ∃ (σ : Nat → Value) , a = fr 27 (ovl σ [(2, (.string r))]) ∧ Chg [] w0 w
def s_impl_keyOf (list : List Int) : Option (ByteArray) :=
  (mkc 0 (w64 (2 * (list.length : Int)))).bind fun u3 =>
  (forR (S := (List Int)) (R := ByteArray) (fun _ x16 s13 =>
  (app s13 ([IntKind.u8.wrap (ishr .i64 x16 8), IntKind.u8.wrap x16])).bind fun y27 =>
  some (.nx y27)) 0 list (List.replicate (Int.toNat 0) (0 : Int))).bind fun o17 => after o17 (fun r_ => some r_) (fun s13 =>
  some (bstr s13))
set_option maxHeartbeats 4000000 in
theorem c_impl_keyOf {M : Nat → Prop} {w : World} {pa0 : Option Addr} {pn0 pc0 : Nat} (list : List Int) (h0 : (RT.rs (RT.int .i64)).val M w (.slice pa0 pn0 pc0) list ([])) (hM : ∀ g, w.heap.size ≤ g → M g) {r : ByteArray} (hs : s_impl_keyOf list = some r) :
    Gives Try.prog 112 [(.slice pa0 pn0 pc0)] w (fun v w' => v = (.string r) ∧ Chg [] w w') := by
 refine calls_fr Try.func112 rfl Try.ntmps112 (Nat.le_of_ble_eq_true rfl) ?_
 have hO := Own.start (N := Nw w []) hM Nw.fut
 have hC := Chg.refl [] w
 unfold s_impl_keyOf at hs
 refine wp_mono (Q := KPost (k_impl_keyOf M w r)) ?_ (fun e a c8 h => ?_)
 rotate_left
 ·cases e
  case ret =>
   obtain ⟨σ, rfl, hrest⟩ := h
   exact ret1x Try.results112 (res_tmp rfl) ⟨rfl, hrest⟩
  all_goals exact (h : False).elim
 refine c_sr ?_
 refine pl_val (.string ByteArray.empty) (y_assign rfl) ?_
 refine c_nil ?_
 refine c_sr ?_
 refine pl_val (.slice pa0 pn0 pc0) (y_move rfl) ?_
 refine pl_val (.int .i64 (list.length : Int)) (y_len' Sl41 (rs_len h0) rfl) ?_
 refine pl_val (.int .i64 (w64 (2 * (list.length : Int)))) (y_mul rfl rfl) ?_
 obtain ⟨u3, c9, hs⟩ := bind_some hs
 obtain ⟨b1, b2, b3, d0, d1, d2, b4, d3, b5⟩ := mk_cap (M := M) (w := w) (r := (RT.int .u8)) (x := (0 : Int)) Rw152 c9 (fun _ _ => ⟨rfl, rfl⟩)
 refine pl_val (w' := d0) (.slice b1 b2 b3) (y_make rfl rfl d2) ?_
 have h0 := h0.ext b4
 have hC := hC.ext b4
 have hO := hO.new b4 d3 (os_nodup b5) b5.fpl
 refine pl_val (.slice b1 b2 b3) (y_assign rfl) ?_
 refine c_nil ?_
 refine c_seq ?_
 refine c_sr ?_
 refine pl_val (.slice pa0 pn0 pc0) (y_move rfl) ?_
 refine pl_val (.int .i64 (list.length : Int)) (y_len' Sl41 (rs_len h0) rfl) ?_
 refine pl_val (.int .i64 0) (y_move rfl) ?_
 refine c_nil ?_
 obtain ⟨o17, d4, hs⟩ := bind_some hs
 refine wp_block ?_
 refine wp_forR (id := 0) (I := fun i_ xs_ s13 a a0 => ∃ a1 : Nat, i_ = (a1 : Int) ∧ List.drop a1 list = xs_ ∧ (∃ (σ : Nat → Value) (a2 : Option Addr) (a3 : Nat) (a4 : Nat) (a6 : List Nat), a = fr 27 (ovl σ [(3, (.slice a2 a3 a4)), (10, (.slice pa0 pn0 pc0)), (11, (.int .i64 (list.length : Int))), (12, (.int .i64 (a1 : Int)))]) ∧ Chg [] w a0 ∧ Own (Nw w []) M a0 (a6 ++ []) ∧ (RT.rs (RT.int .i64)).val M a0 (.slice pa0 pn0 pc0) list ([]) ∧ (RT.os 5 (RT.int .u8)).val M a0 (.slice a2 a3 a4) s13 a6)) (J := fun s13 a a0 => ∃ (σ : Nat → Value) (a7 : Option Addr) (a8 : Nat) (a9 : Nat) (b6 : List Nat), a = fr 27 (ovl σ [(3, (.slice a7 a8 a9))]) ∧ Chg [] w a0 ∧ Own (Nw w []) M a0 (b6 ++ []) ∧ (RT.rs (RT.int .i64)).val M a0 (.slice pa0 pn0 pc0) list ([]) ∧ (RT.os 5 (RT.int .u8)).val M a0 (.slice a7 a8 a9) s13 b6) (K := (k_impl_keyOf M w)) ?_ ?_ list 0 (List.replicate (Int.toNat 0) (0 : Int)) o17 _ _ ?_ d4 ?_
 ·rintro _ s13 a a0 ⟨a1, rfl, hd, σ, a2, a3, a4, a6, rfl, hC, hO, h0, a5⟩
  have hlt := drop_nil_ge hd
  refine c_sr ?_
  refine pl_val (.bool (decide ((a1 : Int) < (list.length : Int)))) (y_lss rfl rfl) ?_
  refine c_nil ?_
  refine c_seq ?_
  refine c_condF (congrArg Value.bool (decide_eq_false hlt)) ?_
  refine wp_exit ?_
  exact ⟨rfl, _, a2, a3, a4, a6, fr_ovl 27 ⟨rfl, trivial⟩, hC, hO, h0, a5⟩
 ·rintro _ x16 xs_ s13 o17 a a0 ⟨a1, rfl, hd, σ, a2, a3, a4, a6, rfl, hC, hO, h0, a5⟩ hs
  have hlt := drop_cons_lt hd
  have d5 := drop_cons_idx hd
  refine c_sr ?_
  refine pl_val (.bool (decide ((a1 : Int) < (list.length : Int)))) (y_lss rfl rfl) ?_
  refine c_nil ?_
  refine c_seq ?_
  refine c_condT (congrArg Value.bool (decide_eq_true hlt)) ?_
  refine wp_skip ?_
  refine c_seq ?_
  refine wp_block ?_
  refine c_sr ?_
  obtain ⟨d6, d7, d8, d9⟩ := rs_idx Sl41 Sz3 h0 d5
  refine pl_val (.pointer (some ⟨d6, d7, none⟩)) (d8 _ _ _ _ _ _ _ _ _ rfl rfl) ?_
  refine pl_val (.int .i64 x16) (y_load rfl ((at_load_int Ag3 Sz3 d9) _ (Chg.refl _ _))) ?_
  refine pl_val (.int .i64 x16) (y_assign rfl) ?_
  refine c_nil ?_
  refine c_region ?_
  refine pl_val (.slice a2 a3 a4) (y_move rfl) ?_
  refine pl_val (.int .i64 x16) (y_move rfl) ?_
  refine pl_val (.int .i64 (ishr .i64 x16 8)) (y_shr rfl rfl (by decide)) ?_
  refine pl_val (.int .u8 (IntKind.u8.wrap (ishr .i64 x16 8))) (y_conv_int Try.underlying3 Try.underlying5 rfl) ?_
  refine pl_val (.int .i64 x16) (y_move rfl) ?_
  refine pl_val (.int .u8 (IntKind.u8.wrap x16)) (y_conv_int Try.underlying3 Try.underlying5 rfl) ?_
  obtain ⟨c4, b7, e0, c5, b0, c6⟩ := new_block a0 [(.int .u8 (IntKind.u8.wrap (ishr .i64 x16 8))), (.int .u8 (IntKind.u8.wrap x16))] 5
  refine pl_val (w' := c4) (.slice (some ⟨b7, 0, none⟩) 2 2) (y_bslice rfl (by rw [e0, c5]; kernel_rfl)) ?_
  have h0 := h0.ext b0
  have a5 := a5.ext b0
  have hC := hC.ext b0
  have hO := hO.new1 b0 c5 c6.lt
  have b8 := os_of_box (r := (RT.int .u8)) (M := M) (css := [[(.int .u8 (IntKind.u8.wrap (ishr .i64 x16 8)))], [(.int .u8 (IntKind.u8.wrap x16))]]) (fps := [([] : List Nat), ([] : List Nat)]) (xs := ([IntKind.u8.wrap (ishr .i64 x16 8), IntKind.u8.wrap x16] : List Int)) c6 ⟨⟨rfl, rfl⟩, ⟨⟨rfl, rfl⟩, trivial⟩⟩ (Nat.le_of_ble_eq_true rfl) (List.nodup_cons.2 ⟨(fun h => nomatch h), List.nodup_nil⟩)
  have b8 : (RT.os 5 (RT.int .u8)).val M c4 (.slice (some ⟨b7, 0, none⟩) 2 2) [IntKind.u8.wrap (ishr .i64 x16 8), IntKind.u8.wrap x16] [b7] := b8
  obtain ⟨y27, e1, hs⟩ := bind_some hs
  have hO := hO.fr1
  obtain ⟨b9, c0, c1, e2, e3, e4, c2, e5, c3⟩ := app_os Rw152 e1 a5 b8 hO.inM (fun g hg hq => hO.apart g hq (mem_l hg))
  have c7 := os_block a5
  refine pl_val (w' := e2) (.slice b9 c0 c1) (y_append rfl rfl (e4 _)) ?_
  have hO := hO.fr1
  have hO := hO.fr1
  have h0 := h0.mt c2 hO c7
  have hC := hC.st c2 hO c7
  have hO := hO.eat c2 e5 (os_nodup c3) c3.fpl
  refine pl_val (.slice b9 c0 c1) (y_assign rfl) ?_
  refine c_nil ?_
  refine c_region ?_
  refine pl_val (.int .i64 (w64 ((a1 : Int) + 1))) (y_add rfl rfl) ?_
  refine pl_val (.int .i64 (w64 ((a1 : Int) + 1))) (y_move rfl) ?_
  refine c_nil ?_
  cases hs
  exact ⟨_, rfl, drop_cons_next hd, _, b9, c0, c1, e3, fr_ovl 27 ⟨rfl, rfl, rfl, congrArg (Value.int .i64) (w64_succ hlt (Int.natCast_nonneg _) (rs_max h0)), trivial⟩, hC, hO, h0, c3⟩
 ·skip
  exact ⟨0, rfl, rfl, _, b1, b2, b3, d1, fr_ovl 27 ⟨rfl, rfl, rfl, rfl, trivial⟩, hC, hO, h0, b5⟩
 cases o17 with
 | nx _ => exact True.intro
 | rt r_ =>
  have hs := after_rt hs
  intro e6 c8 hK
  cases hs
  exact hK
 | br s13 =>
  have hs := after_br hs
  rintro e6 a0 ⟨σ, a7, a8, a9, b6, rfl, hC, hO, h0, e7⟩
  refine c_sr ?_
  refine pl_val (.slice a7 a8 a9) (y_move rfl) ?_
  refine pl_val (.string (bstr s13)) (y_str Try.underlying152 Try.underlying9 Try.underlying5 e7 rfl) ?_
  refine pl_val (.string (bstr s13)) (y_assign rfl) ?_
  refine c_nil ?_
  refine wp_ret ?_
  cases hs
  exact ⟨_, fr_ovl 27 ⟨rfl, trivial⟩, hC⟩

theorem Bd112 : Bodied Try.prog 112 := bodied Try.func112 (by kernel_rfl) rfl

def k_impl_tupleSet (M : Nat → Prop) (w0 : World) (r : (List (ByteArray × Bool))) (a : Act) (w : World) : Prop :=
  ∃ (σ : Nat → Value) (rn0 : Nat) (rf0 : List Nat), a = fr 19 (ovl σ [(2, (.map (some rn0)))]) ∧ Chg [] w0 w ∧ (RT.mo Value.bool).val M w (.map (some rn0)) r rf0 ∧ Own (Nw w0 []) (fun _ => True) w (rf0 ++ ([]))
def s_impl_tupleSet (r_ : Int × (List (List Int))) : Option ((List (ByteArray × Bool))) :=
  (forR (S := (List (ByteArray × Bool))) (R := (List (ByteArray × Bool))) (fun _ x21 s18 =>
  (s_impl_keyOf x21).bind fun r30 =>
  some (.nx (mput s18 r30 true))) 0 r_.2 ([])).bind fun o22 => after o22 (fun r_ => some r_) (fun s18 =>
  some s18)
set_option maxHeartbeats 4000000 in
theorem c_impl_tupleSet {M : Nat → Prop} {w : World} {pa0 : Option Addr} {pn0 pc0 : Nat} (r_ : Int × (List (List Int))) (h0 : (RT.rs (RT.rs (RT.int .i64))).val M w (.slice pa0 pn0 pc0) r_.2 ([])) (hM : ∀ g, w.heap.size ≤ g → M g) {r : (List (ByteArray × Bool))} (hs : s_impl_tupleSet r_ = some r) :
    Gives Try.prog 111 [(.agg #[(.int .i64 r_.1), (.slice pa0 pn0 pc0)])] w (fun v w' => ∃ (rn0 : Nat) (rf0 : List Nat), v = (.map (some rn0)) ∧ Chg [] w w' ∧ (RT.mo Value.bool).val M w' (.map (some rn0)) r rf0 ∧ Own (Nw w []) (fun _ => True) w' (rf0 ++ ([]))) := by
 refine calls_fr Try.func111 rfl Try.ntmps111 (Nat.le_of_ble_eq_true rfl) ?_
 have hO := Own.start (N := Nw w []) hM Nw.fut
 have hC := Chg.refl [] w
 unfold s_impl_tupleSet at hs
 refine wp_mono (Q := KPost (k_impl_tupleSet M w r)) ?_ (fun e a c0 h => ?_)
 rotate_left
 ·cases e
  case ret =>
   obtain ⟨σ, rn0, rf0, rfl, hrest⟩ := h
   exact ret1x Try.results111 (res_tmp rfl) ⟨rn0, rf0, rfl, hrest⟩
  all_goals exact (h : False).elim
 refine c_sr ?_
 obtain ⟨b5, b6, c1, b7, b1, a7⟩ := new_block w [(.int .i64 r_.1), (.slice pa0 pn0 pc0)] 54
 refine pl_val (w' := b5) (.pointer (some ⟨b6, 0, none⟩)) (y_box rfl (by rw [c1, b7]; kernel_rfl)) ?_
 have h0 := h0.ext b1
 have hC := hC.ext b1
 have hO := hO.new1 b1 b7 a7.lt
 refine pl_val (.map none) (y_assign rfl) ?_
 refine c_nil ?_
 refine c_sr ?_
 obtain ⟨c2, a0, c3, b8, a8, b9⟩ := mo_make (enc := Value.bool) (M := M) b5
 refine pl_val (w' := c2) (.map (some a0)) (by rw [c3, b8]; exact y_mmap) ?_
 have h0 := h0.ext a8
 have a7 := a7.cn a8
 have hC := hC.ext a8
 have hO := hO.new (X' := [a0]) a8 (fun q hq => by rw [List.mem_singleton.1 hq, b8]; exact Nat.le_refl _) (List.nodup_cons.2 ⟨(fun h => nomatch h), List.nodup_nil⟩) b9.fpl
 refine pl_val (.map (some a0)) (y_assign rfl) ?_
 refine c_nil ?_
 refine c_seq ?_
 refine c_sr ?_
 refine pl_val (.pointer (some ⟨b6, 1, none⟩)) (y_faddr rfl Fa54x1) ?_
 refine pl_val (.slice pa0 pn0 pc0) (y_load rfl ((box_load Ag47 Sz47 a7 [(.int .i64 r_.1)] [(.slice pa0 pn0 pc0)] [] rfl rfl (fun _ => rfl)) _ (Chg.refl _ _))) ?_
 refine pl_val (.int .i64 (r_.2.length : Int)) (y_len' Sl47 (rs_len h0) rfl) ?_
 refine pl_val (.int .i64 0) (y_move rfl) ?_
 refine c_nil ?_
 have hO := hO.fr1
 have hO := hO.drop
 obtain ⟨o22, c4, hs⟩ := bind_some hs
 refine wp_block ?_
 refine wp_forR (id := 0) (I := fun i_ xs_ s18 a a1 => ∃ a2 : Nat, i_ = (a2 : Int) ∧ List.drop a2 r_.2 = xs_ ∧ (∃ (σ : Nat → Value) (a3 : List Nat), a = fr 19 (ovl σ [(3, (.map (some a0))), (8, (.slice pa0 pn0 pc0)), (9, (.int .i64 (r_.2.length : Int))), (10, (.int .i64 (a2 : Int)))]) ∧ Chg [] w a1 ∧ Own (Nw w []) M a1 (a3 ++ []) ∧ (RT.rs (RT.rs (RT.int .i64))).val M a1 (.slice pa0 pn0 pc0) r_.2 ([]) ∧ (RT.mo Value.bool).val M a1 (.map (some a0)) s18 a3)) (J := fun s18 a a1 => ∃ (σ : Nat → Value) (a9 : List Nat), a = fr 19 (ovl σ [(3, (.map (some a0)))]) ∧ Chg [] w a1 ∧ Own (Nw w []) M a1 (a9 ++ []) ∧ (RT.rs (RT.rs (RT.int .i64))).val M a1 (.slice pa0 pn0 pc0) r_.2 ([]) ∧ (RT.mo Value.bool).val M a1 (.map (some a0)) s18 a9) (K := (k_impl_tupleSet M w)) ?_ ?_ r_.2 0 ([]) o22 _ _ ?_ c4 ?_
 ·rintro _ s18 a a1 ⟨a2, rfl, hd, σ, a3, rfl, hC, hO, h0, a5⟩
  have hlt := drop_nil_ge hd
  refine c_sr ?_
  refine pl_val (.bool (decide ((a2 : Int) < (r_.2.length : Int)))) (y_lss rfl rfl) ?_
  refine c_nil ?_
  refine c_seq ?_
  refine c_condF (congrArg Value.bool (decide_eq_false hlt)) ?_
  refine wp_exit ?_
  exact ⟨rfl, _, a3, fr_ovl 19 ⟨rfl, trivial⟩, hC, hO, h0, a5⟩
 ·rintro _ x21 xs_ s18 o22 a a1 ⟨a2, rfl, hd, σ, a3, rfl, hC, hO, h0, a5⟩ hs
  have hlt := drop_cons_lt hd
  have c5 := drop_cons_idx hd
  refine c_sr ?_
  refine pl_val (.bool (decide ((a2 : Int) < (r_.2.length : Int)))) (y_lss rfl rfl) ?_
  refine c_nil ?_
  refine c_seq ?_
  refine c_condT (congrArg Value.bool (decide_eq_true hlt)) ?_
  refine wp_skip ?_
  refine c_seq ?_
  refine wp_block ?_
  refine c_sr ?_
  obtain ⟨c6, c7, c8, c9⟩ := rs_idx Sl47 Sz41 h0 c5
  refine pl_val (.pointer (some ⟨c6, c7, none⟩)) (c8 _ _ _ _ _ _ _ _ _ rfl rfl) ?_
  obtain ⟨d7, d0, a4⟩ := at_load Ag41 Sz41 (fun _ => rfl) c9
  obtain ⟨b2, b3, b4, rfl⟩ := rs_sl a4
  refine pl_val (.slice b2 b3 b4) (y_load rfl (d0 _ (Chg.refl _ _))) ?_
  refine pl_val (.slice b2 b3 b4) (y_assign rfl) ?_
  refine c_nil ?_
  refine c_region ?_
  refine pl_val (.map (some a0)) (y_move rfl) ?_
  refine pl_val (.slice b2 b3 b4) (y_move rfl) ?_
  obtain ⟨r30, d1, hs⟩ := bind_some hs
  refine pl_call Bd112 rfl (c_impl_keyOf (M := M) x21 a4 hO.fut d1) ?_
  rintro _ d8 ⟨rfl, a6⟩
  have h0 := h0.ext a6
  have a5 := a5.ext a6
  have a4 := a4.ext a6
  have hC := hC.ext a6
  have hO := hO.ext a6
  obtain ⟨d2, d3, b0, d4⟩ := mo_put (P := Try.prog) (t := 130) (key := r30) (x := true) Try.underlying130 Try.underlying9 a5
  refine pl_skip (w' := d2) (ys_put rfl rfl rfl d3) ?_
  have h0 := h0.mt b0 hO same_
  have a4 := a4.mt b0 hO same_
  have hC := hC.st b0 hO same_
  have hO := hO.ext b0
  refine c_nil ?_
  refine c_region ?_
  refine pl_val (.int .i64 (w64 ((a2 : Int) + 1))) (y_add rfl rfl) ?_
  refine pl_val (.int .i64 (w64 ((a2 : Int) + 1))) (y_move rfl) ?_
  refine c_nil ?_
  cases hs
  exact ⟨_, rfl, drop_cons_next hd, _, a3, fr_ovl 19 ⟨rfl, rfl, rfl, congrArg (Value.int .i64) (w64_succ hlt (Int.natCast_nonneg _) (rs_max h0)), trivial⟩, hC, hO, h0, d4⟩
 ·skip
  exact ⟨0, rfl, rfl, _, [a0], fr_ovl 19 ⟨rfl, rfl, rfl, rfl, trivial⟩, hC, hO, h0, b9⟩
 cases o22 with
 | nx _ => exact True.intro
 | rt r_ =>
  have hs := after_rt hs
  intro d5 c0 hK
  cases hs
  exact hK
 | br s18 =>
  have hs := after_br hs
  rintro d5 a1 ⟨σ, a9, rfl, hC, hO, h0, d6⟩
  refine c_sr ?_
  refine pl_val (.map (some a0)) (y_move rfl) ?_
  refine pl_val (.map (some a0)) (y_assign rfl) ?_
  refine c_nil ?_
  refine wp_ret ?_
  cases hs
  exact ⟨_, a0, a9, fr_ovl 19 ⟨rfl, trivial⟩, hC, d6, hO.top⟩

theorem Rw143 : RowT Try.prog 143 47 1 [(.slice none 0 0)] := ⟨Try.underlying143, ⟨_, _, rfl, rfl, rfl, rfl, by decide⟩, rfl, by decide⟩

theorem Rw144 : RowT Try.prog 144 147 1 [(.slice none 0 0)] := ⟨Try.underlying144, ⟨_, _, rfl, rfl, rfl, rfl, by decide⟩, rfl, by decide⟩

theorem Fa146x1 : ∀ (a : Addr) (w : World), (Instr.fieldAt 146 (.pointer (some a)) 1).run Try.prog w = .ok (.pointer (some (a.add 1))) w := fun _ _ => by kernel_rfl

theorem Ag143 : AggT Try.prog 143 false := fun _ => by kernel_rfl

theorem Sz143 : SzT Try.prog 143 1 := ⟨_, rfl, rfl⟩

theorem Sl143 : SlT Try.prog 143 47 := Try.underlying143

theorem Fa146x2 : ∀ (a : Addr) (w : World), (Instr.fieldAt 146 (.pointer (some a)) 2).run Try.prog w = .ok (.pointer (some (a.add 2))) w := fun _ _ => by kernel_rfl

theorem Ag144 : AggT Try.prog 144 false := fun _ => by kernel_rfl

theorem Sz144 : SzT Try.prog 144 1 := ⟨_, rfl, rfl⟩

theorem Sl144 : SlT Try.prog 144 147 := Try.underlying144

theorem Sz147 : SzT Try.prog 147 1 := ⟨_, rfl, rfl⟩

theorem Ag147 : AggT Try.prog 147 false := fun _ => by kernel_rfl

theorem Bd111 : Bodied Try.prog 111 := bodied Try.func111 (by kernel_rfl) rfl

theorem Rw147 : RowT Try.prog 147 130 1 [(.map none)] := ⟨Try.underlying147, ⟨_, _, rfl, rfl, rfl, rfl, by decide⟩, rfl, by decide⟩

def k_impl_newNetSearch (M : Nat → Prop) (w0 : World) (r : (Option (Int × (List (List (List Int))) × (List (List (List (ByteArray × Bool))))))) (a : Act) (w : World) : Prop :=
  ∃ (σ : Nat → Value) (rn0 : Value) (rf0 : List Nat), a = fr 74 (ovl σ [(2, rn0)]) ∧ Chg [] w0 w ∧ (RT.op 146 (RT.pr (RT.int .i64) (RT.pr (RT.os 47 (RT.os 41 (RT.rs (RT.int .i64)))) (RT.os 147 (RT.os 130 (RT.mo Value.bool)))))).val M w rn0 r rf0 ∧ Own (Nw w0 []) (fun _ => True) w (rf0 ++ ([]))
def s_impl_newNetSearch (net : Int × Int × (List ((List Int) × (Int × (List (List Int)))))) : Option ((Option (Int × (List (List (List Int))) × (List (List (List (ByteArray × Bool))))))) :=
  (mks net.1 ([] : List (List Int))).bind fun y5 =>
  (mks net.1 ([] : List (List (ByteArray × Bool)))).bind fun y8 =>
  (forR (S := (List (List (List Int))) × (List (List (List (ByteArray × Bool))))) (R := (Option (Int × (List (List (List Int))) × (List (List (List (ByteArray × Bool))))))) (fun _ x256 s253 =>
  (forR (S := Int) (R := (Option (Int × (List (List (List Int))) × (List (List (List (ByteArray × Bool))))))) (fun _ x273 s270 =>
  some (.nx (max s270 x273))) 0 x256.1 0).bind fun o274 => after o274 (fun r_ => some (.rt r_)) (fun s270 =>
  (idx s253.1 s270).bind fun x278 =>
  (app x278 ([x256.1])).bind fun y286 =>
  (idx s253.2 s270).bind fun x332 =>
  (s_impl_tupleSet (x256.2.1, x256.2.2)).bind fun r337 =>
  (app x332 ([r337])).bind fun y343 =>
  some (.nx (List.set s253.1 (Int.toNat s270) y286, List.set s253.2 (Int.toNat s270) y343)))) 0 net.2.2 (y5, y8)).bind fun o257 => after o257 (fun r_ => some r_) (fun s253 =>
  some (some (net.2.1, s253.1, s253.2)))
set_option maxHeartbeats 4000000 in
theorem c_impl_newNetSearch {M : Nat → Prop} {w : World} {pa0 : Option Addr} {pn0 pc0 : Nat} (net : Int × Int × (List ((List Int) × (Int × (List (List Int)))))) (h0 : (RT.rs (RT.pr (RT.rs (RT.int .i64)) (RT.pr (RT.int .i64) (RT.rs (RT.rs (RT.int .i64)))))).val M w (.slice pa0 pn0 pc0) net.2.2 ([])) (hM : ∀ g, w.heap.size ≤ g → M g) {r : (Option (Int × (List (List (List Int))) × (List (List (List (ByteArray × Bool))))))} (hs : s_impl_newNetSearch net = some r) :
    Gives Try.prog 104 [(.agg #[(.int .i64 net.1), (.int .i64 net.2.1), (.slice pa0 pn0 pc0)])] w (fun v w' => ∃ (rn0 : Value) (rf0 : List Nat), v = rn0 ∧ Chg [] w w' ∧ (RT.op 146 (RT.pr (RT.int .i64) (RT.pr (RT.os 47 (RT.os 41 (RT.rs (RT.int .i64)))) (RT.os 147 (RT.os 130 (RT.mo Value.bool)))))).val M w' rn0 r rf0 ∧ Own (Nw w []) (fun _ => True) w' (rf0 ++ ([]))) := by
 refine calls_fr Try.func104 rfl Try.ntmps104 (Nat.le_of_ble_eq_true rfl) ?_
 have hO := Own.start (N := Nw w []) hM Nw.fut
 have hC := Chg.refl [] w
 unfold s_impl_newNetSearch at hs
 refine wp_mono (Q := KPost (k_impl_newNetSearch M w r)) ?_ (fun e a q4 h => ?_)
 rotate_left
 ·cases e
  case ret =>
   obtain ⟨σ, rn0, rf0, rfl, hrest⟩ := h
   exact ret1x Try.results104 (res_tmp rfl) ⟨rn0, rf0, rfl, hrest⟩
  all_goals exact (h : False).elim
 refine c_sr ?_
 obtain ⟨o6, f1, x6, q5, o7, b4⟩ := new_block w [(.int .i64 net.1), (.int .i64 net.2.1), (.slice pa0 pn0 pc0)] 30
 refine pl_val (w' := o6) (.pointer (some ⟨f1, 0, none⟩)) (y_box rfl (by rw [x6, q5]; kernel_rfl)) ?_
 have h0 := h0.ext o7
 have hC := hC.ext o7
 have hO := hO.new1 o7 q5 b4.lt
 refine pl_val (.pointer none) (y_assign rfl) ?_
 refine c_nil ?_
 refine c_seq ?_
 obtain ⟨y5, q6, hs⟩ := bind_some hs
 obtain ⟨y8, q7, hs⟩ := bind_some hs
 refine c_mid (I := fun a f2 => ∃ (σ : Nat → Value) (b0 : Option Addr) (a7 : Option Addr) (b1 : Nat) (a8 : Nat) (l6 : List Nat) (l7 : List Nat) (a5 : Nat) (b2 : Nat) (a9 : Nat), a = fr 74 (ovl σ [(1, (.pointer (some ⟨f1, 0, none⟩))), (2, (.pointer none)), (3, (.pointer (some ⟨a5, 0, none⟩)))]) ∧ Chg [] w f2 ∧ Own (Nw w []) M f2 (([a5]) ++ (l7 ++ (l6 ++ (([f1]) ++ [])))) ∧ (RT.rs (RT.pr (RT.rs (RT.int .i64)) (RT.pr (RT.int .i64) (RT.rs (RT.rs (RT.int .i64)))))).val M f2 (.slice pa0 pn0 pc0) net.2.2 ([]) ∧ BoxV f2 f1 30 [(.int .i64 net.1), (.int .i64 net.2.1), (.slice pa0 pn0 pc0)] ∧ (RT.os 47 (RT.os 41 (RT.rs (RT.int .i64)))).val M f2 (.slice b0 b2 b1) y5 l6 ∧ (RT.os 147 (RT.os 130 (RT.mo Value.bool))).val M f2 (.slice a7 a9 a8) y8 l7 ∧ BoxV f2 a5 146 [(.int .i64 net.2.1), (.slice b0 b2 b1), (.slice a7 a9 a8)]) ?_ ?_
 ·skip
  refine x_start [] Mx rfl ?_
  have k2 := Chg.drew o6
  generalize World.drew o6 = o8 at k2 ⊢
  have h0 := h0.ext k2
  have b4 := b4.cn k2
  have hC := hC.ext k2
  have hO := hO.ext k2
  have hS := Chg.refl [] o8
  refine x_p 0 (.pointer (some ⟨f1, 1, none⟩)) rfl (by kernel_rfl)  (fun _ => y_faddr rfl Fa30x1) (fun _ => hS) ?_
  refine x_l 1 (.int .i64 net.2.1) rfl (by kernel_rfl)  (fun w' hw' => y_load rfl ((box_load Ag3 Sz3 b4 [(.int .i64 net.1)] [(.int .i64 net.2.1)] [(.slice pa0 pn0 pc0)] rfl rfl (fun _ => rfl)) w' hw')) hS ?_
  refine x_p 2 (.pointer (some ⟨f1, 0, none⟩)) rfl (by kernel_rfl)  (fun _ => y_faddr rfl Fa30x0) (fun _ => hS) ?_
  refine x_l 3 (.int .i64 net.1) rfl (by kernel_rfl)  (fun w' hw' => y_load rfl ((box_load Ag3 Sz3 b4 [] [(.int .i64 net.1)] [(.int .i64 net.2.1), (.slice pa0 pn0 pc0)] rfl rfl (fun _ => rfl)) w' hw')) hS ?_
  refine x_p 5 (.pointer (some ⟨f1, 0, none⟩)) rfl (by kernel_rfl)  (fun _ => y_faddr rfl Fa30x0) (fun _ => hS) ?_
  refine x_l 6 (.int .i64 net.1) rfl (by kernel_rfl)  (fun w' hw' => y_load rfl ((box_load Ag3 Sz3 b4 [] [(.int .i64 net.1)] [(.int .i64 net.2.1), (.slice pa0 pn0 pc0)] rfl rfl (fun _ => rfl)) w' hw')) hS ?_
  refine x_two (i := 4) (j := 7) (by kernel_rfl) ?_ ?_
  ·skip
   obtain ⟨l8, l9, m0, q8, x7, x8, j1, x9, h3⟩ := mk_os (M := M) (w := o8) (r := (RT.os 41 (RT.rs (RT.int .i64)))) Rw143 q6 (fun _ _ => (os_unval os_nil))
   refine xk_val (w' := q8) (b := false) (.slice l8 l9 m0) rfl  (y_make rfl rfl x8) rfl (fun _ => hS.ext j1) ?_
   have h0 := h0.ext j1
   have b4 := b4.cn j1
   have hC := hC.ext j1
   have hO := hO.new j1 x9 (os_nodup h3) h3.fpl
   have hS := hS.ext j1
   refine x_one (i := 7) (by kernel_rfl) ?_
   obtain ⟨m1, m2, m3, q9, y0, y1, h4, y2, k3⟩ := mk_os (M := M) (w := q8) (r := (RT.os 130 (RT.mo Value.bool))) Rw144 q7 (fun _ _ => (os_unval os_nil))
   refine xk_val (w' := q9) (b := false) (.slice m1 m2 m3) rfl  (y_make rfl rfl y1) rfl (fun _ => hS.ext h4) ?_
   have h0 := h0.ext h4
   have b4 := b4.cn h4
   have h3 := h3.ext h4
   have hC := hC.ext h4
   have hO := hO.new h4 y2 (os_nodup k3) k3.fpl
   have hS := hS.ext h4
   refine x_p 8 (.agg #[(.int .i64 net.2.1), (.slice l8 l9 m0), (.slice m1 m2 m3)]) rfl (by kernel_rfl)  (fun _ => y_build rfl (by kernel_rfl)) (fun _ => hS) ?_
   refine x_one (i := 9) (by kernel_rfl) ?_
   obtain ⟨y3, o9, y4, r0, f3, r1⟩ := new_block q9 [(.int .i64 net.2.1), (.slice l8 l9 m0), (.slice m1 m2 m3)] 146
   refine xk_val (w' := y3) (b := false) (.pointer (some ⟨o9, 0, none⟩)) rfl  (y_box rfl (by rw [y4, r0]; kernel_rfl)) rfl (fun _ => hS.ext f3) ?_
   have h0 := h0.ext f3
   have b4 := b4.cn f3
   have h3 := h3.ext f3
   have k3 := k3.ext f3
   have hC := hC.ext f3
   have hO := hO.new1 f3 r0 r1.lt
   have hS := hS.ext f3
   refine x_p 10 (.pointer (some ⟨o9, 0, none⟩)) rfl (by kernel_rfl)  (fun _ => y_assign rfl) (fun _ => hS) ?_
   refine x_end (by kernel_rfl) ?_
   clear hS
   have hO := hO.fr3
   have hO := hO.fr3
   have hO := hO.fr3
   have hO := hO.fr3
   exact ⟨_, l8, m1, m0, m3, x7, y0, o9, l9, m2, fr_ovl 74 ⟨rfl, rfl, rfl, trivial⟩, hC, hO, h0, b4, h3, k3, r1⟩
  ·skip
   obtain ⟨m4, m5, m6, r2, y6, y7, j2, y9, h5⟩ := mk_os (M := M) (w := o8) (r := (RT.os 130 (RT.mo Value.bool))) Rw144 q7 (fun _ _ => (os_unval os_nil))
   refine xk_val (w' := r2) (b := false) (.slice m4 m5 m6) rfl  (y_make rfl rfl y7) rfl (fun _ => hS.ext j2) ?_
   have h0 := h0.ext j2
   have b4 := b4.cn j2
   have hC := hC.ext j2
   have hO := hO.new j2 y9 (os_nodup h5) h5.fpl
   have hS := hS.ext j2
   refine x_one (i := 4) (by kernel_rfl) ?_
   obtain ⟨m7, m8, m9, r3, z0, z1, h6, z2, k4⟩ := mk_os (M := M) (w := r2) (r := (RT.os 41 (RT.rs (RT.int .i64)))) Rw143 q6 (fun _ _ => (os_unval os_nil))
   refine xk_val (w' := r3) (b := false) (.slice m7 m8 m9) rfl  (y_make rfl rfl z1) rfl (fun _ => hS.ext h6) ?_
   have h0 := h0.ext h6
   have b4 := b4.cn h6
   have h5 := h5.ext h6
   have hC := hC.ext h6
   have hO := hO.new h6 z2 (os_nodup k4) k4.fpl
   have hS := hS.ext h6
   refine x_p 8 (.agg #[(.int .i64 net.2.1), (.slice m7 m8 m9), (.slice m4 m5 m6)]) rfl (by kernel_rfl)  (fun _ => y_build rfl (by kernel_rfl)) (fun _ => hS) ?_
   refine x_one (i := 9) (by kernel_rfl) ?_
   obtain ⟨z3, p0, z4, r4, f4, r5⟩ := new_block r3 [(.int .i64 net.2.1), (.slice m7 m8 m9), (.slice m4 m5 m6)] 146
   refine xk_val (w' := z3) (b := false) (.pointer (some ⟨p0, 0, none⟩)) rfl  (y_box rfl (by rw [z4, r4]; kernel_rfl)) rfl (fun _ => hS.ext f4) ?_
   have h0 := h0.ext f4
   have b4 := b4.cn f4
   have h5 := h5.ext f4
   have k4 := k4.ext f4
   have hC := hC.ext f4
   have hO := hO.new1 f4 r4 r5.lt
   have hS := hS.ext f4
   refine x_p 10 (.pointer (some ⟨p0, 0, none⟩)) rfl (by kernel_rfl)  (fun _ => y_assign rfl) (fun _ => hS) ?_
   refine x_end (by kernel_rfl) ?_
   clear hS
   have hO := hO.fr3
   have hO := hO.fr2
   have hO := hO.fr3
   have hO := hO.fr3
   exact ⟨_, m7, m4, m9, m6, z0, y6, p0, m8, m5, fr_ovl 74 ⟨rfl, rfl, rfl, trivial⟩, hC, hO, h0, b4, k4, h5, r5⟩
 rintro k5 f2 ⟨σ, b0, a7, b1, a8, l6, l7, a5, b2, a9, rfl, hC, hO, h0, b4, z5, z6, a0⟩
 refine c_seq ?_
 refine c_sr ?_
 refine pl_val (.pointer (some ⟨f1, 2, none⟩)) (y_faddr rfl Fa30x2) ?_
 refine pl_val (.slice pa0 pn0 pc0) (y_load rfl ((box_load Ag28 Sz28 b4 [(.int .i64 net.1), (.int .i64 net.2.1)] [(.slice pa0 pn0 pc0)] [] rfl rfl (fun _ => rfl)) _ (Chg.refl _ _))) ?_
 refine pl_val (.int .i64 (net.2.2.length : Int)) (y_len' Sl28 (rs_len h0) rfl) ?_
 refine pl_val (.int .i64 0) (y_move rfl) ?_
 refine c_nil ?_
 have hO := hO.fr3
 have hO := hO.drop
 obtain ⟨o257, z7, hs⟩ := bind_some hs
 refine wp_block ?_
 refine wp_forR (id := 0) (I := fun i_ xs_ s253 a c0 => ∃ c1 : Nat, i_ = (c1 : Int) ∧ List.drop c1 net.2.2 = xs_ ∧ (∃ (σ : Nat → Value) (d8 : List Nat) (c2 : List Nat), a = fr 74 (ovl σ [(3, (.pointer (some ⟨a5, 0, none⟩))), (20, (.slice pa0 pn0 pc0)), (21, (.int .i64 (net.2.2.length : Int))), (22, (.int .i64 (c1 : Int)))]) ∧ Chg [] w c0 ∧ Own (Nw w []) M c0 (([a5]) ++ (c2 ++ (d8 ++ []))) ∧ (RT.rs (RT.pr (RT.rs (RT.int .i64)) (RT.pr (RT.int .i64) (RT.rs (RT.rs (RT.int .i64)))))).val M c0 (.slice pa0 pn0 pc0) net.2.2 ([]) ∧ (RT.os 47 (RT.os 41 (RT.rs (RT.int .i64)))).val M c0 (.slice b0 b2 b1) s253.1 d8 ∧ (RT.os 147 (RT.os 130 (RT.mo Value.bool))).val M c0 (.slice a7 a9 a8) s253.2 c2 ∧ BoxV c0 a5 146 [(.int .i64 net.2.1), (.slice b0 b2 b1), (.slice a7 a9 a8)])) (J := fun s253 a c0 => ∃ (σ : Nat → Value) (j3 : List Nat) (j4 : List Nat), a = fr 74 (ovl σ [(3, (.pointer (some ⟨a5, 0, none⟩)))]) ∧ Chg [] w c0 ∧ Own (Nw w []) M c0 (([a5]) ++ (j4 ++ (j3 ++ []))) ∧ (RT.rs (RT.pr (RT.rs (RT.int .i64)) (RT.pr (RT.int .i64) (RT.rs (RT.rs (RT.int .i64)))))).val M c0 (.slice pa0 pn0 pc0) net.2.2 ([]) ∧ (RT.os 47 (RT.os 41 (RT.rs (RT.int .i64)))).val M c0 (.slice b0 b2 b1) s253.1 j3 ∧ (RT.os 147 (RT.os 130 (RT.mo Value.bool))).val M c0 (.slice a7 a9 a8) s253.2 j4 ∧ BoxV c0 a5 146 [(.int .i64 net.2.1), (.slice b0 b2 b1), (.slice a7 a9 a8)]) (K := (k_impl_newNetSearch M w)) ?_ ?_ net.2.2 0 (y5, y8) o257 _ _ ?_ z7 ?_
 ·rintro _ s253 a c0 ⟨c1, rfl, hd, σ, d8, c2, rfl, hC, hO, h0, b5, a4, a0⟩
  have hlt := drop_nil_ge hd
  refine c_sr ?_
  refine pl_val (.bool (decide ((c1 : Int) < (net.2.2.length : Int)))) (y_lss rfl rfl) ?_
  refine c_nil ?_
  refine c_seq ?_
  refine c_condF (congrArg Value.bool (decide_eq_false hlt)) ?_
  refine wp_exit ?_
  have hO := hO.fr2
  have hO := hO.fr2
  have hO := hO.fr2
  exact ⟨rfl, _, d8, c2, fr_ovl 74 ⟨rfl, trivial⟩, hC, hO, h0, b5, a4, a0⟩
 ·rintro _ x256 xs_ s253 o257 a c0 ⟨c1, rfl, hd, σ, d8, c2, rfl, hC, hO, h0, b5, a4, a0⟩ hs
  have hlt := drop_cons_lt hd
  have z8 := drop_cons_idx hd
  refine c_sr ?_
  refine pl_val (.bool (decide ((c1 : Int) < (net.2.2.length : Int)))) (y_lss rfl rfl) ?_
  refine c_nil ?_
  refine c_seq ?_
  refine c_condT (congrArg Value.bool (decide_eq_true hlt)) ?_
  refine wp_skip ?_
  refine c_seq ?_
  refine wp_block ?_
  refine c_sr ?_
  obtain ⟨z9, A0, A1, A2⟩ := rs_idx Sl28 Sz56 h0 z8
  refine pl_val (.pointer (some ⟨z9, A0, none⟩)) (A1 _ _ _ _ _ _ _ _ _ rfl rfl) ?_
  obtain ⟨N5, A3, A4⟩ := at_load Ag56 Sz56 (by intro h; cases h) A2
  obtain ⟨N6, rfl, A5⟩ := A4
  obtain ⟨N7, N8, rfl, A6, A7⟩ := pr_open A5
  obtain ⟨b6, b7, b8, rfl, a1⟩ := rs_rel A6
  obtain ⟨N9, O0, rfl, A8, A9⟩ := pr_open A7
  obtain rfl := int_rel A8
  obtain ⟨c8, c9, d0, rfl, a2⟩ := rs_rel A9
  refine pl_val (.agg #[(.slice b6 b7 b8), (.int .i64 x256.2.1), (.slice c8 c9 d0)]) (y_load rfl (A3 _ (Chg.refl _ _))) ?_
  obtain ⟨B0, b9, B1, r6, f5, r7⟩ := new_block c0 [(.slice none 0 0), (.int .i64 0), (.slice none 0 0)] 56
  refine pl_val (w' := B0) (.pointer (some ⟨b9, 0, none⟩)) (y_alloc (by rw [B1, r6]; kernel_rfl)) ?_
  have h0 := h0.ext f5
  have b5 := b5.ext f5
  have a4 := a4.ext f5
  have a0 := a0.cn f5
  have a1 := a1.ext f5
  have a2 := a2.ext f5
  have hC := hC.ext f5
  have hO := hO.new1 f5 r6 r7.lt
  obtain ⟨r8, B2, f6, a3⟩ := box_store (P := Try.prog) r7 [] [(.slice none 0 0), (.int .i64 0), (.slice none 0 0)] [] [(.slice b6 b7 b8), (.int .i64 x256.2.1), (.slice c8 c9 d0)] rfl rfl (by intro u hu; simp only [List.mem_cons, List.not_mem_nil, or_false] at hu; rcases hu with rfl | rfl | rfl <;> rfl)
  refine pl_skip (w' := r8) (ys_store rfl rfl (B2 _ _ rfl Sz56)) ?_
  have h0 := h0.mt f6 hO same_
  have b5 := b5.ma f6 hO same_ (fun _ e => (mem_r (mem_r (mem_l (e)))))
  have a4 := a4.ma f6 hO same_ (fun _ e => (mem_r (mem_l (e))))
  have a0 := a0.ap f6 hO same_ (mem_l (List.mem_singleton.2 rfl))
  have a1 := a1.mt f6 hO same_
  have a2 := a2.mt f6 hO same_
  have hC := hC.st f6 hO same_
  have hO := hO.ext f6
  have a3 : BoxV r8 b9 56 [(.slice b6 b7 b8), (.int .i64 x256.2.1), (.slice c8 c9 d0)] := a3
  refine c_nil ?_
  refine c_sr ?_
  refine pl_val (.int .i64 0) (y_assign rfl) ?_
  refine c_nil ?_
  refine c_seq ?_
  refine c_sr ?_
  refine pl_val (.pointer (some ⟨b9, 0, none⟩)) (y_faddr rfl Fa56x0) ?_
  refine pl_val (.slice b6 b7 b8) (y_load rfl ((box_load Ag41 Sz41 a3 [] [(.slice b6 b7 b8)] [(.int .i64 x256.2.1), (.slice c8 c9 d0)] rfl rfl (fun _ => rfl)) _ (Chg.refl _ _))) ?_
  refine pl_val (.int .i64 (x256.1.length : Int)) (y_len' Sl41 (rs_len a1) rfl) ?_
  refine pl_val (.int .i64 0) (y_move rfl) ?_
  refine c_nil ?_
  obtain ⟨o274, B3, hs⟩ := bind_some hs
  refine wp_block ?_
  refine wp_forR (id := 2) (I := fun i_ xs_ s270 a b3 => ∃ d9 : Nat, i_ = (d9 : Int) ∧ List.drop d9 x256.1 = xs_ ∧ (∃ (σ : Nat → Value), a = fr 74 (ovl σ [(3, (.pointer (some ⟨a5, 0, none⟩))), (5, (.pointer (some ⟨b9, 0, none⟩))), (6, (.int .i64 s270)), (20, (.slice pa0 pn0 pc0)), (21, (.int .i64 (net.2.2.length : Int))), (22, (.int .i64 (c1 : Int))), (27, (.slice b6 b7 b8)), (28, (.int .i64 (x256.1.length : Int))), (29, (.int .i64 (d9 : Int)))]) ∧ Chg [] w b3 ∧ Own (Nw w []) M b3 (([b9]) ++ (([a5]) ++ (c2 ++ (d8 ++ [])))) ∧ (RT.rs (RT.pr (RT.rs (RT.int .i64)) (RT.pr (RT.int .i64) (RT.rs (RT.rs (RT.int .i64)))))).val M b3 (.slice pa0 pn0 pc0) net.2.2 ([]) ∧ (RT.os 47 (RT.os 41 (RT.rs (RT.int .i64)))).val M b3 (.slice b0 b2 b1) s253.1 d8 ∧ (RT.os 147 (RT.os 130 (RT.mo Value.bool))).val M b3 (.slice a7 a9 a8) s253.2 c2 ∧ BoxV b3 a5 146 [(.int .i64 net.2.1), (.slice b0 b2 b1), (.slice a7 a9 a8)] ∧ (RT.rs (RT.int .i64)).val M b3 (.slice b6 b7 b8) x256.1 ([]) ∧ (RT.rs (RT.rs (RT.int .i64))).val M b3 (.slice c8 c9 d0) x256.2.2 ([]) ∧ BoxV b3 b9 56 [(.slice b6 b7 b8), (.int .i64 x256.2.1), (.slice c8 c9 d0)])) (J := fun s270 a b3 => ∃ (σ : Nat → Value), a = fr 74 (ovl σ [(3, (.pointer (some ⟨a5, 0, none⟩))), (5, (.pointer (some ⟨b9, 0, none⟩))), (6, (.int .i64 s270)), (20, (.slice pa0 pn0 pc0)), (21, (.int .i64 (net.2.2.length : Int))), (22, (.int .i64 (c1 : Int)))]) ∧ Chg [] w b3 ∧ Own (Nw w []) M b3 (([b9]) ++ (([a5]) ++ (c2 ++ (d8 ++ [])))) ∧ (RT.rs (RT.pr (RT.rs (RT.int .i64)) (RT.pr (RT.int .i64) (RT.rs (RT.rs (RT.int .i64)))))).val M b3 (.slice pa0 pn0 pc0) net.2.2 ([]) ∧ (RT.os 47 (RT.os 41 (RT.rs (RT.int .i64)))).val M b3 (.slice b0 b2 b1) s253.1 d8 ∧ (RT.os 147 (RT.os 130 (RT.mo Value.bool))).val M b3 (.slice a7 a9 a8) s253.2 c2 ∧ BoxV b3 a5 146 [(.int .i64 net.2.1), (.slice b0 b2 b1), (.slice a7 a9 a8)] ∧ (RT.rs (RT.int .i64)).val M b3 (.slice b6 b7 b8) x256.1 ([]) ∧ (RT.rs (RT.rs (RT.int .i64))).val M b3 (.slice c8 c9 d0) x256.2.2 ([]) ∧ BoxV b3 b9 56 [(.slice b6 b7 b8), (.int .i64 x256.2.1), (.slice c8 c9 d0)]) (K := (k_impl_newNetSearch M w)) ?_ ?_ x256.1 0 0 o274 _ _ ?_ B3 ?_
  ·rintro _ s270 a b3 ⟨d9, rfl, hd, σ, rfl, hC, hO, h0, b5, a4, a0, a1, a2, a3⟩
   have hlt := drop_nil_ge hd
   refine c_sr ?_
   refine pl_val (.bool (decide ((d9 : Int) < (x256.1.length : Int)))) (y_lss rfl rfl) ?_
   refine c_nil ?_
   refine c_seq ?_
   refine c_condF (congrArg Value.bool (decide_eq_false hlt)) ?_
   refine wp_exit ?_
   have hO := hO.fr3
   have hO := hO.fr3
   have hO := hO.fr3
   have hO := hO.fr3
   exact ⟨rfl, _, fr_ovl 74 ⟨rfl, rfl, rfl, rfl, rfl, rfl, trivial⟩, hC, hO, h0, b5, a4, a0, a1, a2, a3⟩
  ·rintro _ x273 xs_ s270 o274 a b3 ⟨d9, rfl, hd, σ, rfl, hC, hO, h0, b5, a4, a0, a1, a2, a3⟩ hs
   have hlt := drop_cons_lt hd
   have B4 := drop_cons_idx hd
   refine c_sr ?_
   refine pl_val (.bool (decide ((d9 : Int) < (x256.1.length : Int)))) (y_lss rfl rfl) ?_
   refine c_nil ?_
   refine c_seq ?_
   refine c_condT (congrArg Value.bool (decide_eq_true hlt)) ?_
   refine wp_skip ?_
   refine c_seq ?_
   refine wp_block ?_
   refine c_sr ?_
   obtain ⟨B5, B6, B7, B8⟩ := rs_idx Sl41 Sz3 a1 B4
   refine pl_val (.pointer (some ⟨B5, B6, none⟩)) (B7 _ _ _ _ _ _ _ _ _ rfl rfl) ?_
   refine pl_val (.int .i64 x273) (y_load rfl ((at_load_int Ag3 Sz3 B8) _ (Chg.refl _ _))) ?_
   refine pl_val (.int .i64 x273) (y_assign rfl) ?_
   refine c_nil ?_
   refine c_region ?_
   refine pl_val (.int .i64 s270) (y_move rfl) ?_
   refine pl_val (.int .i64 x273) (y_move rfl) ?_
   refine pl_val (.int .i64 (max s270 x273)) (y_max rfl rfl) ?_
   refine pl_val (.int .i64 (max s270 x273)) (y_assign rfl) ?_
   refine c_nil ?_
   refine c_region ?_
   refine pl_val (.int .i64 (w64 ((d9 : Int) + 1))) (y_add rfl rfl) ?_
   refine pl_val (.int .i64 (w64 ((d9 : Int) + 1))) (y_move rfl) ?_
   refine c_nil ?_
   cases hs
   have hO := hO.fr3
   have hO := hO.fr3
   have hO := hO.fr3
   have hO := hO.fr3
   exact ⟨_, rfl, drop_cons_next hd, _, fr_ovl 74 ⟨rfl, rfl, rfl, rfl, rfl, rfl, rfl, rfl, congrArg (Value.int .i64) (w64_succ hlt (Int.natCast_nonneg _) (rs_max a1)), trivial⟩, hC, hO, h0, b5, a4, a0, a1, a2, a3⟩
  ·skip
   have hO := hO.fr3
   have hO := hO.fr3
   have hO := hO.fr3
   have hO := hO.fr3
   exact ⟨0, rfl, rfl, _, fr_ovl 74 ⟨rfl, rfl, rfl, rfl, rfl, rfl, rfl, rfl, rfl, trivial⟩, hC, hO, h0, b5, a4, a0, a1, a2, a3⟩
  cases o274 with
  | nx _ => exact True.intro
  | rt r_ =>
   have hs := after_rt hs
   intro k5 q4 hK
   cases hs
   exact hK
  | br s270 =>
   have hs := after_br hs
   rintro k5 b3 ⟨σ, rfl, hC, hO, h0, b5, a4, a0, a1, a2, a3⟩
   refine c_seq ?_
   obtain ⟨x278, h7, hs⟩ := bind_some hs
   obtain ⟨y286, p1, hs⟩ := bind_some hs
   refine c_mid (I := fun a d3 => ∃ (σ : Nat → Value) (d4 : List Nat), a = fr 74 (ovl σ [(3, (.pointer (some ⟨a5, 0, none⟩))), (5, (.pointer (some ⟨b9, 0, none⟩))), (6, (.int .i64 s270)), (20, (.slice pa0 pn0 pc0)), (21, (.int .i64 (net.2.2.length : Int))), (22, (.int .i64 (c1 : Int)))]) ∧ Chg [] w d3 ∧ Own (Nw w []) M d3 (d4 ++ (([b9]) ++ (([a5]) ++ (c2 ++ [])))) ∧ (RT.rs (RT.pr (RT.rs (RT.int .i64)) (RT.pr (RT.int .i64) (RT.rs (RT.rs (RT.int .i64)))))).val M d3 (.slice pa0 pn0 pc0) net.2.2 ([]) ∧ (RT.os 47 (RT.os 41 (RT.rs (RT.int .i64)))).val M d3 (.slice b0 b2 b1) (List.set s253.1 (Int.toNat s270) y286) d4 ∧ (RT.os 147 (RT.os 130 (RT.mo Value.bool))).val M d3 (.slice a7 a9 a8) s253.2 c2 ∧ BoxV d3 a5 146 [(.int .i64 net.2.1), (.slice b0 b2 b1), (.slice a7 a9 a8)] ∧ (RT.rs (RT.int .i64)).val M d3 (.slice b6 b7 b8) x256.1 ([]) ∧ (RT.rs (RT.rs (RT.int .i64))).val M d3 (.slice c8 c9 d0) x256.2.2 ([]) ∧ BoxV d3 b9 56 [(.slice b6 b7 b8), (.int .i64 x256.2.1), (.slice c8 c9 d0)]) ?_ ?_
   ·skip
    refine x_start [15, 17] Mx rfl ?_
    have d6 := Chg.drew b3
    generalize World.drew b3 = p2 at d6 ⊢
    have h0 := h0.ext d6
    have b5 := b5.ext d6
    have a4 := a4.ext d6
    have a0 := a0.cn d6
    have a1 := a1.ext d6
    have a2 := a2.ext d6
    have a3 := a3.cn d6
    have hC := hC.ext d6
    have hO := hO.ext d6
    have hS := Chg.refl [] p2
    refine x_p 0 (.pointer (some ⟨a5, 0, none⟩)) rfl (by kernel_rfl)  (fun _ => y_move rfl) (fun _ => hS) ?_
    refine x_p 1 (.pointer (some ⟨a5, 0, none⟩)) rfl (by kernel_rfl)  (fun _ => y_nilc rfl) (fun _ => hS) ?_
    refine x_p 2 (.pointer (some ⟨a5, 1, none⟩)) rfl (by kernel_rfl)  (fun _ => y_faddr rfl Fa146x1) (fun _ => hS) ?_
    refine x_p 4 (.int .i64 s270) rfl (by kernel_rfl)  (fun _ => y_move rfl) (fun _ => hS) ?_
    refine x_p 5 (.pointer (some ⟨a5, 0, none⟩)) rfl (by kernel_rfl)  (fun _ => y_move rfl) (fun _ => hS) ?_
    refine x_p 6 (.pointer (some ⟨a5, 0, none⟩)) rfl (by kernel_rfl)  (fun _ => y_nilc rfl) (fun _ => hS) ?_
    refine x_p 7 (.pointer (some ⟨a5, 1, none⟩)) rfl (by kernel_rfl)  (fun _ => y_faddr rfl Fa146x1) (fun _ => hS) ?_
    refine x_l 8 (.slice b0 b2 b1) rfl (by kernel_rfl)  (fun w' hw' => y_load rfl ((box_load Ag143 Sz143 a0 [(.int .i64 net.2.1)] [(.slice b0 b2 b1)] [(.slice a7 a9 a8)] rfl rfl (fun _ => rfl)) w' hw')) hS ?_
    refine x_p 9 (.int .i64 s270) rfl (by kernel_rfl)  (fun _ => y_move rfl) (fun _ => hS) ?_
    obtain ⟨B9, O1, p3, O2, C0, C1, C2⟩ := os_idx Sl143 Sz47 b5 h7
    have C3 := own_row (Frz.os (Frz.rs Frz.int)) C1 C2
    refine x_p 10 (.pointer (some ⟨B9, 0 + Int.toNat s270 * 1, none⟩)) rfl (by kernel_rfl)  (fun _ => C0 _ _ _ _ _ _ _ _ _ rfl rfl) (fun _ => hS) ?_
    obtain ⟨O3, C4, hrow307, k6⟩ := at_load1 Ag47 Sz47 rfl rfl C3
    obtain ⟨h8, h9, i0, rfl⟩ := rs_sl k6
    refine x_l 11 (.slice h8 h9 i0) rfl (by kernel_rfl)  (fun w' hw' => y_load rfl (C4 w' hw')) hS ?_
    refine x_p 12 (.pointer (some ⟨b9, 0, none⟩)) rfl (by kernel_rfl)  (fun _ => y_faddr rfl Fa56x0) (fun _ => hS) ?_
    refine x_l 13 (.slice b6 b7 b8) rfl (by kernel_rfl)  (fun w' hw' => y_load rfl ((box_load Ag41 Sz41 a3 [] [(.slice b6 b7 b8)] [(.int .i64 x256.2.1), (.slice c8 c9 d0)] rfl rfl (fun _ => rfl)) w' hw')) hS ?_
    refine x_two (i := 3) (j := 14) (by kernel_rfl) ?_ ?_
    ·skip
     refine xk_val (b := false) (.slice b0 b2 b1) rfl  (y_load rfl ((box_load Ag143 Sz143 a0 [(.int .i64 net.2.1)] [(.slice b0 b2 b1)] [(.slice a7 a9 a8)] rfl rfl (fun _ => rfl)) _ (Chg.refl _ _))) rfl (fun _ => hS) ?_
     refine x_one (i := 14) (by kernel_rfl) ?_
     obtain ⟨p4, p5, C5, r9, d1, s0⟩ := new_block p2 [(.slice b6 b7 b8)] 41
     refine xk_val (w' := p4) (b := false) (.slice (some ⟨p5, 0, none⟩) 1 1) rfl  (y_bslice rfl (by rw [C5, r9]; kernel_rfl)) rfl (fun _ => hS.ext d1) ?_
     have h0 := h0.ext d1
     have b5 := b5.ext d1
     have a4 := a4.ext d1
     have a0 := a0.cn d1
     have a1 := a1.ext d1
     have a2 := a2.ext d1
     have a3 := a3.cn d1
     have k6 := k6.ext d1
     have hrow307 := hrow307.cn d1
     have hC := hC.ext d1
     have hO := hO.new1 d1 r9 s0.lt
     have p6 := os_of_box (r := (RT.rs (RT.int .i64))) (M := M) (css := [[(.slice b6 b7 b8)]]) (fps := [([] : List Nat)]) (xs := ([x256.1] : List (List Int))) s0 ⟨(rs_unval a1), trivial⟩ (Nat.le_of_ble_eq_true rfl) (List.nodup_cons.2 ⟨(fun h => nomatch h), List.nodup_nil⟩)
     have p6 : (RT.os 41 (RT.rs (RT.int .i64))).val M p4 (.slice (some ⟨p5, 0, none⟩) 1 1) [x256.1] [p5] := p6
     have hS := hS.ext d1
     refine x_one (i := 15) (by kernel_rfl) ?_
     have hO := hO.fr4
     obtain ⟨C6, C7, C8, O4, C9, j5⟩ := oh_take (c := [(.slice h8 h9 i0)]) p3 (os_hole b5) (idx_map_some h7) hrow307 rfl
     have hO := hO.split C9
     have s1 : (RT.os 41 (RT.rs (RT.int .i64))).val M p4 (.slice h8 h9 i0) x278 C6 := ⟨[_], rfl, C8⟩
     have hO := hO.fr2
     have hO := hO.fr1
     obtain ⟨s2, s3, s4, D0, O5, D1, e0, D2, n0⟩ := app_os Rw47 p1 s1 p6 hO.inM (fun g hg hq => hO.apart g hq (mem_l hg))
     have f7 := os_block s1
     refine xk_val (w' := D0) (b := true) (.slice s2 s3 s4) rfl  (y_append rfl rfl (D1 _)) rfl (fun h => nomatch h) ?_
     have hO := hO.fr1
     have hO := hO.fr1
     have h0 := h0.mt e0 hO f7
     have j5 := j5.ma e0 hO f7 (fun _ e => (mem_r (mem_l (e))))
     have a4 := a4.ma e0 hO f7 (fun _ e => (mem_r (mem_r (mem_r (mem_r (mem_l (e)))))))
     have a0 := a0.ap e0 hO f7 (mem_r (mem_r (mem_r (mem_l (List.mem_singleton.2 rfl)))))
     have a1 := a1.mt e0 hO f7
     have a2 := a2.mt e0 hO f7
     have a3 := a3.ap e0 hO f7 (mem_r (mem_r (mem_l (List.mem_singleton.2 rfl))))
     have hC := hC.st e0 hO f7
     have hO := hO.eat e0 D2 (os_nodup n0) n0.fpl
     obtain ⟨s5, O6, s6, D3, D4, O7, O8⟩ := os_idx Sl143 Sz47 j5 (idx_hole h7)
     refine x_p 16 (.pointer (some ⟨s5, 0 + Int.toNat s270 * 1, none⟩)) rfl (by kernel_rfl)  (fun _ => D4 _ _ _ _ _ _ _ _ _ rfl rfl) (fun h => nomatch h) ?_
     refine x_one (i := 17) (by kernel_rfl) ?_
     have hO := hO.fr1
     obtain ⟨D5, D6, D7, f8, D8, k7⟩ := os_store (P := Try.prog) (y := some y286) (c' := [(.slice s2 s3 s4)]) s6 j5 D3 (fun g hg => hO.inM g (os_block j5 g (by simpa using hg))) (show (RT.hole (RT.os 41 (RT.rs (RT.int .i64)))).rel _ _ _ (some _) _ from os_unval n0) (os_nodup n0) (fun g hg hq => hO.apart g hq (mem_l hg)) (fun _ h => .inl h)
     have i1 : ∀ q ∈ [s5], q ∈ C7 := fun q hq => os_block j5 q (by rw [s6]; exact hq)
     have k7 := os_fill k7
     refine xk_skip (w' := D5) (b := true) rfl (ys_store rfl rfl (D7 _ _ rfl Sz47)) rfl (fun h => nomatch h) ?_
     have hO := hO.fr1
     have hO := hO.fr1
     have h0 := h0.mt f8 hO i1
     have a4 := a4.ma f8 hO i1 (fun _ e => (mem_r (mem_r (mem_r (mem_l (e))))))
     have a0 := a0.ap f8 hO i1 (mem_r (mem_r (mem_l (List.mem_singleton.2 rfl))))
     have a1 := a1.mt f8 hO i1
     have a2 := a2.mt f8 hO i1
     have a3 := a3.ap f8 hO i1 (mem_r (mem_l (List.mem_singleton.2 rfl)))
     have hC := hC.st f8 hO i1
     have hO := hO.eat f8 (fun q hq => (D8 q hq).elim .inl (fun h => .inr (.inl h))) (os_nodup k7) k7.fpl
     refine x_end (by kernel_rfl) ?_
     clear hS
     have hO := hO.fr3
     have hO := hO.fr3
     have hO := hO.fr3
     have hO := hO.fr3
     exact ⟨_, D6, fr_ovl 74 ⟨rfl, rfl, rfl, rfl, rfl, rfl, trivial⟩, hC, hO, h0, k7, a4, a0, a1, a2, a3⟩
    ·skip
     obtain ⟨n1, p7, D9, s7, d2, s8⟩ := new_block p2 [(.slice b6 b7 b8)] 41
     refine xk_val (w' := n1) (b := false) (.slice (some ⟨p7, 0, none⟩) 1 1) rfl  (y_bslice rfl (by rw [D9, s7]; kernel_rfl)) rfl (fun _ => hS.ext d2) ?_
     have h0 := h0.ext d2
     have b5 := b5.ext d2
     have a4 := a4.ext d2
     have a0 := a0.cn d2
     have a1 := a1.ext d2
     have a2 := a2.ext d2
     have a3 := a3.cn d2
     have k6 := k6.ext d2
     have hrow307 := hrow307.cn d2
     have hC := hC.ext d2
     have hO := hO.new1 d2 s7 s8.lt
     have n2 := os_of_box (r := (RT.rs (RT.int .i64))) (M := M) (css := [[(.slice b6 b7 b8)]]) (fps := [([] : List Nat)]) (xs := ([x256.1] : List (List Int))) s8 ⟨(rs_unval a1), trivial⟩ (Nat.le_of_ble_eq_true rfl) (List.nodup_cons.2 ⟨(fun h => nomatch h), List.nodup_nil⟩)
     have n2 : (RT.os 41 (RT.rs (RT.int .i64))).val M n1 (.slice (some ⟨p7, 0, none⟩) 1 1) [x256.1] [p7] := n2
     have hS := hS.ext d2
     refine x_two (i := 3) (j := 15) (by kernel_rfl) ?_ ?_
     ·skip
      refine xk_val (b := false) (.slice b0 b2 b1) rfl  (y_load rfl ((box_load Ag143 Sz143 a0 [(.int .i64 net.2.1)] [(.slice b0 b2 b1)] [(.slice a7 a9 a8)] rfl rfl (fun _ => rfl)) _ (Chg.refl _ _))) rfl (fun _ => hS) ?_
      refine x_one (i := 15) (by kernel_rfl) ?_
      have hO := hO.fr4
      obtain ⟨E0, E1, E2, O9, E3, j6⟩ := oh_take (c := [(.slice h8 h9 i0)]) p3 (os_hole b5) (idx_map_some h7) hrow307 rfl
      have hO := hO.split E3
      have s9 : (RT.os 41 (RT.rs (RT.int .i64))).val M n1 (.slice h8 h9 i0) x278 E0 := ⟨[_], rfl, E2⟩
      have hO := hO.fr2
      have hO := hO.fr1
      obtain ⟨t0, t1, t2, E4, P0, E5, e1, E6, n3⟩ := app_os Rw47 p1 s9 n2 hO.inM (fun g hg hq => hO.apart g hq (mem_l hg))
      have f9 := os_block s9
      refine xk_val (w' := E4) (b := true) (.slice t0 t1 t2) rfl  (y_append rfl rfl (E5 _)) rfl (fun h => nomatch h) ?_
      have hO := hO.fr1
      have hO := hO.fr1
      have h0 := h0.mt e1 hO f9
      have j6 := j6.ma e1 hO f9 (fun _ e => (mem_r (mem_l (e))))
      have a4 := a4.ma e1 hO f9 (fun _ e => (mem_r (mem_r (mem_r (mem_r (mem_l (e)))))))
      have a0 := a0.ap e1 hO f9 (mem_r (mem_r (mem_r (mem_l (List.mem_singleton.2 rfl)))))
      have a1 := a1.mt e1 hO f9
      have a2 := a2.mt e1 hO f9
      have a3 := a3.ap e1 hO f9 (mem_r (mem_r (mem_l (List.mem_singleton.2 rfl))))
      have hC := hC.st e1 hO f9
      have hO := hO.eat e1 E6 (os_nodup n3) n3.fpl
      obtain ⟨t3, P1, t4, E7, E8, P2, P3⟩ := os_idx Sl143 Sz47 j6 (idx_hole h7)
      refine x_p 16 (.pointer (some ⟨t3, 0 + Int.toNat s270 * 1, none⟩)) rfl (by kernel_rfl)  (fun _ => E8 _ _ _ _ _ _ _ _ _ rfl rfl) (fun h => nomatch h) ?_
      refine x_one (i := 17) (by kernel_rfl) ?_
      have hO := hO.fr1
      obtain ⟨E9, F0, F1, g0, F2, k8⟩ := os_store (P := Try.prog) (y := some y286) (c' := [(.slice t0 t1 t2)]) t4 j6 E7 (fun g hg => hO.inM g (os_block j6 g (by simpa using hg))) (show (RT.hole (RT.os 41 (RT.rs (RT.int .i64)))).rel _ _ _ (some _) _ from os_unval n3) (os_nodup n3) (fun g hg hq => hO.apart g hq (mem_l hg)) (fun _ h => .inl h)
      have i2 : ∀ q ∈ [t3], q ∈ E1 := fun q hq => os_block j6 q (by rw [t4]; exact hq)
      have k8 := os_fill k8
      refine xk_skip (w' := E9) (b := true) rfl (ys_store rfl rfl (F1 _ _ rfl Sz47)) rfl (fun h => nomatch h) ?_
      have hO := hO.fr1
      have hO := hO.fr1
      have h0 := h0.mt g0 hO i2
      have a4 := a4.ma g0 hO i2 (fun _ e => (mem_r (mem_r (mem_r (mem_l (e))))))
      have a0 := a0.ap g0 hO i2 (mem_r (mem_r (mem_l (List.mem_singleton.2 rfl))))
      have a1 := a1.mt g0 hO i2
      have a2 := a2.mt g0 hO i2
      have a3 := a3.ap g0 hO i2 (mem_r (mem_l (List.mem_singleton.2 rfl)))
      have hC := hC.st g0 hO i2
      have hO := hO.eat g0 (fun q hq => (F2 q hq).elim .inl (fun h => .inr (.inl h))) (os_nodup k8) k8.fpl
      refine x_end (by kernel_rfl) ?_
      clear hS
      have hO := hO.fr3
      have hO := hO.fr3
      have hO := hO.fr3
      have hO := hO.fr3
      exact ⟨_, F0, fr_ovl 74 ⟨rfl, rfl, rfl, rfl, rfl, rfl, trivial⟩, hC, hO, h0, k8, a4, a0, a1, a2, a3⟩
     ·skip
      have hO := hO.fr4
      obtain ⟨F3, F4, F5, P4, F6, j7⟩ := oh_take (c := [(.slice h8 h9 i0)]) p3 (os_hole b5) (idx_map_some h7) hrow307 rfl
      have hO := hO.split F6
      have t5 : (RT.os 41 (RT.rs (RT.int .i64))).val M n1 (.slice h8 h9 i0) x278 F3 := ⟨[_], rfl, F5⟩
      have hO := hO.fr2
      have hO := hO.fr1
      obtain ⟨t6, t7, t8, F7, P5, F8, e2, F9, n4⟩ := app_os Rw47 p1 t5 n2 hO.inM (fun g hg hq => hO.apart g hq (mem_l hg))
      have g1 := os_block t5
      refine xk_val (w' := F7) (b := true) (.slice t6 t7 t8) rfl  (y_append rfl rfl (F8 _)) rfl (fun h => nomatch h) ?_
      have hO := hO.fr1
      have hO := hO.fr1
      have h0 := h0.mt e2 hO g1
      have j7 := j7.ma e2 hO g1 (fun _ e => (mem_r (mem_l (e))))
      have a4 := a4.ma e2 hO g1 (fun _ e => (mem_r (mem_r (mem_r (mem_r (mem_l (e)))))))
      have a0 := a0.ap e2 hO g1 (mem_r (mem_r (mem_r (mem_l (List.mem_singleton.2 rfl)))))
      have a1 := a1.mt e2 hO g1
      have a2 := a2.mt e2 hO g1
      have a3 := a3.ap e2 hO g1 (mem_r (mem_r (mem_l (List.mem_singleton.2 rfl))))
      have hC := hC.st e2 hO g1
      have hO := hO.eat e2 F9 (os_nodup n4) n4.fpl
      refine x_one (i := 3) (by kernel_rfl) ?_
      refine xk_val (b := true) (.slice b0 b2 b1) rfl  (y_load rfl ((box_load Ag143 Sz143 a0 [(.int .i64 net.2.1)] [(.slice b0 b2 b1)] [(.slice a7 a9 a8)] rfl rfl (fun _ => rfl)) _ (Chg.refl _ _))) rfl (fun h => nomatch h) ?_
      obtain ⟨t9, P6, u0, G0, G1, P7, P8⟩ := os_idx Sl143 Sz47 j7 (idx_hole h7)
      refine x_p 16 (.pointer (some ⟨t9, 0 + Int.toNat s270 * 1, none⟩)) rfl (by kernel_rfl)  (fun _ => G1 _ _ _ _ _ _ _ _ _ rfl rfl) (fun h => nomatch h) ?_
      refine x_one (i := 17) (by kernel_rfl) ?_
      have hO := hO.fr1
      obtain ⟨G2, G3, G4, g2, G5, k9⟩ := os_store (P := Try.prog) (y := some y286) (c' := [(.slice t6 t7 t8)]) u0 j7 G0 (fun g hg => hO.inM g (os_block j7 g (by simpa using hg))) (show (RT.hole (RT.os 41 (RT.rs (RT.int .i64)))).rel _ _ _ (some _) _ from os_unval n4) (os_nodup n4) (fun g hg hq => hO.apart g hq (mem_l hg)) (fun _ h => .inl h)
      have i3 : ∀ q ∈ [t9], q ∈ F4 := fun q hq => os_block j7 q (by rw [u0]; exact hq)
      have k9 := os_fill k9
      refine xk_skip (w' := G2) (b := true) rfl (ys_store rfl rfl (G4 _ _ rfl Sz47)) rfl (fun h => nomatch h) ?_
      have hO := hO.fr1
      have hO := hO.fr1
      have h0 := h0.mt g2 hO i3
      have a4 := a4.ma g2 hO i3 (fun _ e => (mem_r (mem_r (mem_r (mem_l (e))))))
      have a0 := a0.ap g2 hO i3 (mem_r (mem_r (mem_l (List.mem_singleton.2 rfl))))
      have a1 := a1.mt g2 hO i3
      have a2 := a2.mt g2 hO i3
      have a3 := a3.ap g2 hO i3 (mem_r (mem_l (List.mem_singleton.2 rfl)))
      have hC := hC.st g2 hO i3
      have hO := hO.eat g2 (fun q hq => (G5 q hq).elim .inl (fun h => .inr (.inl h))) (os_nodup k9) k9.fpl
      refine x_end (by kernel_rfl) ?_
      clear hS
      have hO := hO.fr3
      have hO := hO.fr3
      have hO := hO.fr3
      have hO := hO.fr3
      exact ⟨_, G3, fr_ovl 74 ⟨rfl, rfl, rfl, rfl, rfl, rfl, trivial⟩, hC, hO, h0, k9, a4, a0, a1, a2, a3⟩
   rintro k5 d3 ⟨σ, d4, rfl, hC, hO, h0, a6, a4, a0, a1, a2, a3⟩
   refine x_start [16, 18] Mx rfl ?_
   have d7 := Chg.drew d3
   generalize World.drew d3 = G6 at d7 ⊢
   have h0 := h0.ext d7
   have a6 := a6.ext d7
   have a4 := a4.ext d7
   have a0 := a0.cn d7
   have a1 := a1.ext d7
   have a2 := a2.ext d7
   have a3 := a3.cn d7
   have hC := hC.ext d7
   have hO := hO.ext d7
   have hS := Chg.refl [] G6
   refine x_p 0 (.pointer (some ⟨a5, 0, none⟩)) rfl (by kernel_rfl)  (fun _ => y_move rfl) (fun _ => hS) ?_
   refine x_p 1 (.pointer (some ⟨a5, 0, none⟩)) rfl (by kernel_rfl)  (fun _ => y_nilc rfl) (fun _ => hS) ?_
   refine x_p 2 (.pointer (some ⟨a5, 2, none⟩)) rfl (by kernel_rfl)  (fun _ => y_faddr rfl Fa146x2) (fun _ => hS) ?_
   refine x_p 4 (.int .i64 s270) rfl (by kernel_rfl)  (fun _ => y_move rfl) (fun _ => hS) ?_
   refine x_p 5 (.pointer (some ⟨a5, 0, none⟩)) rfl (by kernel_rfl)  (fun _ => y_move rfl) (fun _ => hS) ?_
   refine x_p 6 (.pointer (some ⟨a5, 0, none⟩)) rfl (by kernel_rfl)  (fun _ => y_nilc rfl) (fun _ => hS) ?_
   refine x_p 7 (.pointer (some ⟨a5, 2, none⟩)) rfl (by kernel_rfl)  (fun _ => y_faddr rfl Fa146x2) (fun _ => hS) ?_
   refine x_l 8 (.slice a7 a9 a8) rfl (by kernel_rfl)  (fun w' hw' => y_load rfl ((box_load Ag144 Sz144 a0 [(.int .i64 net.2.1), (.slice b0 b2 b1)] [(.slice a7 a9 a8)] [] rfl rfl (fun _ => rfl)) w' hw')) hS ?_
   refine x_p 9 (.int .i64 s270) rfl (by kernel_rfl)  (fun _ => y_move rfl) (fun _ => hS) ?_
   obtain ⟨x332, e3, hs⟩ := bind_some hs
   obtain ⟨G7, P9, n5, Q0, G8, G9, H0⟩ := os_idx Sl144 Sz147 a4 e3
   have H1 := own_row (Frz.os Frz.mo) G9 H0
   refine x_p 10 (.pointer (some ⟨G7, 0 + Int.toNat s270 * 1, none⟩)) rfl (by kernel_rfl)  (fun _ => G8 _ _ _ _ _ _ _ _ _ rfl rfl) (fun _ => hS) ?_
   obtain ⟨Q1, H2, hrow334, d5⟩ := at_load1 Ag147 Sz147 rfl rfl H1
   obtain ⟨e4, e5, e6, rfl⟩ := rs_sl d5
   refine x_l 11 (.slice e4 e5 e6) rfl (by kernel_rfl)  (fun w' hw' => y_load rfl (H2 w' hw')) hS ?_
   refine x_p 12 (.pointer (some ⟨b9, 1, none⟩)) rfl (by kernel_rfl)  (fun _ => y_faddr rfl Fa56x1) (fun _ => hS) ?_
   refine x_l 13 (.agg #[(.int .i64 x256.2.1), (.slice c8 c9 d0)]) rfl (by kernel_rfl)  (fun w' hw' => y_load rfl ((box_load Ag54 Sz54 a3 [(.slice b6 b7 b8)] [(.int .i64 x256.2.1), (.slice c8 c9 d0)] [] rfl rfl (fun h => nomatch h)) w' hw')) hS ?_
   refine x_two (i := 3) (j := 14) (by kernel_rfl) ?_ ?_
   ·skip
    refine xk_val (b := false) (.slice a7 a9 a8) rfl  (y_load rfl ((box_load Ag144 Sz144 a0 [(.int .i64 net.2.1), (.slice b0 b2 b1)] [(.slice a7 a9 a8)] [] rfl rfl (fun _ => rfl)) _ (Chg.refl _ _))) rfl (fun _ => hS) ?_
    refine x_one (i := 14) (by kernel_rfl) ?_
    obtain ⟨r337, p8, hs⟩ := bind_some hs
    refine xk_call (b := false) rfl  Bd111 rfl (c_impl_tupleSet (M := M) (x256.2.1, x256.2.2) a2 hO.fut p8) rfl (by rintro _ _ _ ⟨p9, l0, rfl, c3, n6, u1⟩; exact hS.ext c3) ?_
    rintro _ H3 ⟨p9, l0, rfl, c3, n6, u1⟩
    have h0 := h0.ext c3
    have a6 := a6.ext c3
    have a4 := a4.ext c3
    have a0 := a0.cn c3
    have a1 := a1.ext c3
    have a2 := a2.ext c3
    have a3 := a3.cn c3
    have d5 := d5.ext c3
    have hrow334 := hrow334.cn c3
    have hC := hC.ext c3
    have hO := Own.join0 hO c3 u1
    have hO := hO.perm (R := l0 ++ (d4 ++ (([b9]) ++ (([a5]) ++ (c2 ++ ([])))))) (by simp)
    have hS := hS.ext c3
    refine x_one (i := 15) (by kernel_rfl) ?_
    obtain ⟨q0, n7, H4, u2, c4, u3⟩ := new_block H3 [(.map (some p9))] 130
    refine xk_val (w' := q0) (b := false) (.slice (some ⟨n7, 0, none⟩) 1 1) rfl  (y_bslice rfl (by rw [H4, u2]; kernel_rfl)) rfl (fun _ => hS.ext c4) ?_
    have h0 := h0.ext c4
    have a6 := a6.ext c4
    have a4 := a4.ext c4
    have a0 := a0.cn c4
    have a1 := a1.ext c4
    have a2 := a2.ext c4
    have a3 := a3.cn c4
    have d5 := d5.ext c4
    have hrow334 := hrow334.cn c4
    have n6 := n6.ext c4
    have hC := hC.ext c4
    have hO := hO.new1 c4 u2 u3.lt
    have hO := hO.perm (R := (n7 :: ((l0) ++ ([]))) ++ (d4 ++ (([b9]) ++ (([a5]) ++ (c2 ++ ([])))))) (by simp)
    have H5 := hO.nd
    have q1 := os_of_box (r := (RT.mo Value.bool)) (M := M) (css := [[(.map (some p9))]]) (fps := [(l0 : List Nat)]) (xs := ([r337] : List (List (ByteArray × Bool)))) u3 ⟨(mo_unval n6), trivial⟩ (Nat.le_of_ble_eq_true rfl) H5
    have q1 : (RT.os 130 (RT.mo Value.bool)).val M q0 (.slice (some ⟨n7, 0, none⟩) 1 1) [r337] (n7 :: ((l0) ++ ([]))) := q1
    have hS := hS.ext c4
    refine x_one (i := 16) (by kernel_rfl) ?_
    have hO := hO.fr4
    obtain ⟨H6, H7, H8, Q2, H9, j8⟩ := oh_take (c := [(.slice e4 e5 e6)]) n5 (os_hole a4) (idx_map_some e3) hrow334 rfl
    have hO := hO.split H9
    have u4 : (RT.os 130 (RT.mo Value.bool)).val M q0 (.slice e4 e5 e6) x332 H6 := ⟨[_], rfl, H8⟩
    obtain ⟨y343, i4, hs⟩ := bind_some hs
    have hO := hO.fr2
    have hO := hO.fr1
    obtain ⟨u5, u6, u7, I0, Q3, I1, e7, I2, n8⟩ := app_os Rw147 i4 u4 q1 hO.inM (fun g hg hq => hO.apart g hq (mem_l hg))
    have g3 := os_block u4
    refine xk_val (w' := I0) (b := true) (.slice u5 u6 u7) rfl  (y_append rfl rfl (I1 _)) rfl (fun h => nomatch h) ?_
    have hO := hO.fr1
    have hO := hO.fr1
    have h0 := h0.mt e7 hO g3
    have a6 := a6.ma e7 hO g3 (fun _ e => (mem_r (mem_r (mem_l (e)))))
    have j8 := j8.ma e7 hO g3 (fun _ e => (mem_r (mem_l (e))))
    have a0 := a0.ap e7 hO g3 (mem_r (mem_r (mem_r (mem_r (mem_l (List.mem_singleton.2 rfl))))))
    have a1 := a1.mt e7 hO g3
    have a2 := a2.mt e7 hO g3
    have a3 := a3.ap e7 hO g3 (mem_r (mem_r (mem_r (mem_l (List.mem_singleton.2 rfl)))))
    have hC := hC.st e7 hO g3
    have hO := hO.eat e7 I2 (os_nodup n8) n8.fpl
    obtain ⟨u9, Q4, v0, I3, I4, Q5, Q6⟩ := os_idx Sl144 Sz147 j8 (idx_hole e3)
    refine x_p 17 (.pointer (some ⟨u9, 0 + Int.toNat s270 * 1, none⟩)) rfl (by kernel_rfl)  (fun _ => I4 _ _ _ _ _ _ _ _ _ rfl rfl) (fun h => nomatch h) ?_
    refine x_one (i := 18) (by kernel_rfl) ?_
    have hO := hO.fr1
    obtain ⟨I5, I6, I7, g4, I8, l1⟩ := os_store (P := Try.prog) (y := some y343) (c' := [(.slice u5 u6 u7)]) v0 j8 I3 (fun g hg => hO.inM g (os_block j8 g (by simpa using hg))) (show (RT.hole (RT.os 130 (RT.mo Value.bool))).rel _ _ _ (some _) _ from os_unval n8) (os_nodup n8) (fun g hg hq => hO.apart g hq (mem_l hg)) (fun _ h => .inl h)
    have i5 : ∀ q ∈ [u9], q ∈ H7 := fun q hq => os_block j8 q (by rw [v0]; exact hq)
    have l1 := os_fill l1
    refine xk_skip (w' := I5) (b := true) rfl (ys_store rfl rfl (I7 _ _ rfl Sz147)) rfl (fun h => nomatch h) ?_
    have hO := hO.fr1
    have hO := hO.fr1
    have h0 := h0.mt g4 hO i5
    have a6 := a6.ma g4 hO i5 (fun _ e => (mem_r (mem_l (e))))
    have a0 := a0.ap g4 hO i5 (mem_r (mem_r (mem_r (mem_l (List.mem_singleton.2 rfl)))))
    have a1 := a1.mt g4 hO i5
    have a2 := a2.mt g4 hO i5
    have a3 := a3.ap g4 hO i5 (mem_r (mem_r (mem_l (List.mem_singleton.2 rfl))))
    have hC := hC.st g4 hO i5
    have hO := hO.eat g4 (fun q hq => (I8 q hq).elim .inl (fun h => .inr (.inl h))) (os_nodup l1) l1.fpl
    refine x_end (by kernel_rfl) ?_
    clear hS
    refine c_region ?_
    refine pl_val (.int .i64 (w64 ((c1 : Int) + 1))) (y_add rfl rfl) ?_
    refine pl_val (.int .i64 (w64 ((c1 : Int) + 1))) (y_move rfl) ?_
    refine c_nil ?_
    cases hs
    have hO := hO.fr2
    have hO := hO.drop
    have hO := hO.fr1
    have hO := hO.fr1
    have hO := hO.fr2
    exact ⟨_, rfl, drop_cons_next hd, _, d4, I6, fr_ovl 74 ⟨rfl, rfl, rfl, congrArg (Value.int .i64) (w64_succ hlt (Int.natCast_nonneg _) (rs_max h0)), trivial⟩, hC, hO, h0, a6, l1, a0⟩
   ·skip
    obtain ⟨r337, p8, hs⟩ := bind_some hs
    refine xk_call (b := false) rfl  Bd111 rfl (c_impl_tupleSet (M := M) (x256.2.1, x256.2.2) a2 hO.fut p8) rfl (by rintro _ _ _ ⟨l2, g5, rfl, c5, i6, v1⟩; exact hS.ext c5) ?_
    rintro _ v2 ⟨l2, g5, rfl, c5, i6, v1⟩
    have h0 := h0.ext c5
    have a6 := a6.ext c5
    have a4 := a4.ext c5
    have a0 := a0.cn c5
    have a1 := a1.ext c5
    have a2 := a2.ext c5
    have a3 := a3.cn c5
    have d5 := d5.ext c5
    have hrow334 := hrow334.cn c5
    have hC := hC.ext c5
    have hO := Own.join0 hO c5 v1
    have hO := hO.perm (R := g5 ++ (d4 ++ (([b9]) ++ (([a5]) ++ (c2 ++ ([])))))) (by simp)
    have hS := hS.ext c5
    refine x_two (i := 3) (j := 15) (by kernel_rfl) ?_ ?_
    ·skip
     refine xk_val (b := false) (.slice a7 a9 a8) rfl  (y_load rfl ((box_load Ag144 Sz144 a0 [(.int .i64 net.2.1), (.slice b0 b2 b1)] [(.slice a7 a9 a8)] [] rfl rfl (fun _ => rfl)) _ (Chg.refl _ _))) rfl (fun _ => hS) ?_
     refine x_one (i := 15) (by kernel_rfl) ?_
     obtain ⟨q2, n9, I9, v3, c6, v4⟩ := new_block v2 [(.map (some l2))] 130
     refine xk_val (w' := q2) (b := false) (.slice (some ⟨n9, 0, none⟩) 1 1) rfl  (y_bslice rfl (by rw [I9, v3]; kernel_rfl)) rfl (fun _ => hS.ext c6) ?_
     have h0 := h0.ext c6
     have a6 := a6.ext c6
     have a4 := a4.ext c6
     have a0 := a0.cn c6
     have a1 := a1.ext c6
     have a2 := a2.ext c6
     have a3 := a3.cn c6
     have d5 := d5.ext c6
     have hrow334 := hrow334.cn c6
     have i6 := i6.ext c6
     have hC := hC.ext c6
     have hO := hO.new1 c6 v3 v4.lt
     have hO := hO.perm (R := (n9 :: ((g5) ++ ([]))) ++ (d4 ++ (([b9]) ++ (([a5]) ++ (c2 ++ ([])))))) (by simp)
     have J0 := hO.nd
     have q3 := os_of_box (r := (RT.mo Value.bool)) (M := M) (css := [[(.map (some l2))]]) (fps := [(g5 : List Nat)]) (xs := ([r337] : List (List (ByteArray × Bool)))) v4 ⟨(mo_unval i6), trivial⟩ (Nat.le_of_ble_eq_true rfl) J0
     have q3 : (RT.os 130 (RT.mo Value.bool)).val M q2 (.slice (some ⟨n9, 0, none⟩) 1 1) [r337] (n9 :: ((g5) ++ ([]))) := q3
     have hS := hS.ext c6
     refine x_one (i := 16) (by kernel_rfl) ?_
     have hO := hO.fr4
     obtain ⟨J1, J2, J3, Q7, J4, j9⟩ := oh_take (c := [(.slice e4 e5 e6)]) n5 (os_hole a4) (idx_map_some e3) hrow334 rfl
     have hO := hO.split J4
     have v5 : (RT.os 130 (RT.mo Value.bool)).val M q2 (.slice e4 e5 e6) x332 J1 := ⟨[_], rfl, J3⟩
     obtain ⟨y343, i4, hs⟩ := bind_some hs
     have hO := hO.fr2
     have hO := hO.fr1
     obtain ⟨v6, v7, v8, J5, Q8, J6, e8, J7, o0⟩ := app_os Rw147 i4 v5 q3 hO.inM (fun g hg hq => hO.apart g hq (mem_l hg))
     have g6 := os_block v5
     refine xk_val (w' := J5) (b := true) (.slice v6 v7 v8) rfl  (y_append rfl rfl (J6 _)) rfl (fun h => nomatch h) ?_
     have hO := hO.fr1
     have hO := hO.fr1
     have h0 := h0.mt e8 hO g6
     have a6 := a6.ma e8 hO g6 (fun _ e => (mem_r (mem_r (mem_l (e)))))
     have j9 := j9.ma e8 hO g6 (fun _ e => (mem_r (mem_l (e))))
     have a0 := a0.ap e8 hO g6 (mem_r (mem_r (mem_r (mem_r (mem_l (List.mem_singleton.2 rfl))))))
     have a1 := a1.mt e8 hO g6
     have a2 := a2.mt e8 hO g6
     have a3 := a3.ap e8 hO g6 (mem_r (mem_r (mem_r (mem_l (List.mem_singleton.2 rfl)))))
     have hC := hC.st e8 hO g6
     have hO := hO.eat e8 J7 (os_nodup o0) o0.fpl
     obtain ⟨v9, Q9, w1, J8, J9, R0, R1⟩ := os_idx Sl144 Sz147 j9 (idx_hole e3)
     refine x_p 17 (.pointer (some ⟨v9, 0 + Int.toNat s270 * 1, none⟩)) rfl (by kernel_rfl)  (fun _ => J9 _ _ _ _ _ _ _ _ _ rfl rfl) (fun h => nomatch h) ?_
     refine x_one (i := 18) (by kernel_rfl) ?_
     have hO := hO.fr1
     obtain ⟨K0, K1, K2, g7, K3, l3⟩ := os_store (P := Try.prog) (y := some y343) (c' := [(.slice v6 v7 v8)]) w1 j9 J8 (fun g hg => hO.inM g (os_block j9 g (by simpa using hg))) (show (RT.hole (RT.os 130 (RT.mo Value.bool))).rel _ _ _ (some _) _ from os_unval o0) (os_nodup o0) (fun g hg hq => hO.apart g hq (mem_l hg)) (fun _ h => .inl h)
     have i7 : ∀ q ∈ [v9], q ∈ J2 := fun q hq => os_block j9 q (by rw [w1]; exact hq)
     have l3 := os_fill l3
     refine xk_skip (w' := K0) (b := true) rfl (ys_store rfl rfl (K2 _ _ rfl Sz147)) rfl (fun h => nomatch h) ?_
     have hO := hO.fr1
     have hO := hO.fr1
     have h0 := h0.mt g7 hO i7
     have a6 := a6.ma g7 hO i7 (fun _ e => (mem_r (mem_l (e))))
     have a0 := a0.ap g7 hO i7 (mem_r (mem_r (mem_r (mem_l (List.mem_singleton.2 rfl)))))
     have a1 := a1.mt g7 hO i7
     have a2 := a2.mt g7 hO i7
     have a3 := a3.ap g7 hO i7 (mem_r (mem_r (mem_l (List.mem_singleton.2 rfl))))
     have hC := hC.st g7 hO i7
     have hO := hO.eat g7 (fun q hq => (K3 q hq).elim .inl (fun h => .inr (.inl h))) (os_nodup l3) l3.fpl
     refine x_end (by kernel_rfl) ?_
     clear hS
     refine c_region ?_
     refine pl_val (.int .i64 (w64 ((c1 : Int) + 1))) (y_add rfl rfl) ?_
     refine pl_val (.int .i64 (w64 ((c1 : Int) + 1))) (y_move rfl) ?_
     refine c_nil ?_
     cases hs
     have hO := hO.fr2
     have hO := hO.drop
     have hO := hO.fr1
     have hO := hO.fr1
     have hO := hO.fr2
     exact ⟨_, rfl, drop_cons_next hd, _, d4, K1, fr_ovl 74 ⟨rfl, rfl, rfl, congrArg (Value.int .i64) (w64_succ hlt (Int.natCast_nonneg _) (rs_max h0)), trivial⟩, hC, hO, h0, a6, l3, a0⟩
    ·skip
     obtain ⟨o1, o2, K4, w2, c7, w3⟩ := new_block v2 [(.map (some l2))] 130
     refine xk_val (w' := o1) (b := false) (.slice (some ⟨o2, 0, none⟩) 1 1) rfl  (y_bslice rfl (by rw [K4, w2]; kernel_rfl)) rfl (fun _ => hS.ext c7) ?_
     have h0 := h0.ext c7
     have a6 := a6.ext c7
     have a4 := a4.ext c7
     have a0 := a0.cn c7
     have a1 := a1.ext c7
     have a2 := a2.ext c7
     have a3 := a3.cn c7
     have d5 := d5.ext c7
     have hrow334 := hrow334.cn c7
     have i6 := i6.ext c7
     have hC := hC.ext c7
     have hO := hO.new1 c7 w2 w3.lt
     have hO := hO.perm (R := (o2 :: ((g5) ++ ([]))) ++ (d4 ++ (([b9]) ++ (([a5]) ++ (c2 ++ ([])))))) (by simp)
     have K5 := hO.nd
     have o3 := os_of_box (r := (RT.mo Value.bool)) (M := M) (css := [[(.map (some l2))]]) (fps := [(g5 : List Nat)]) (xs := ([r337] : List (List (ByteArray × Bool)))) w3 ⟨(mo_unval i6), trivial⟩ (Nat.le_of_ble_eq_true rfl) K5
     have o3 : (RT.os 130 (RT.mo Value.bool)).val M o1 (.slice (some ⟨o2, 0, none⟩) 1 1) [r337] (o2 :: ((g5) ++ ([]))) := o3
     have hS := hS.ext c7
     refine x_two (i := 3) (j := 16) (by kernel_rfl) ?_ ?_
     ·skip
      refine xk_val (b := false) (.slice a7 a9 a8) rfl  (y_load rfl ((box_load Ag144 Sz144 a0 [(.int .i64 net.2.1), (.slice b0 b2 b1)] [(.slice a7 a9 a8)] [] rfl rfl (fun _ => rfl)) _ (Chg.refl _ _))) rfl (fun _ => hS) ?_
      refine x_one (i := 16) (by kernel_rfl) ?_
      have hO := hO.fr4
      obtain ⟨K6, K7, K8, R2, K9, k0⟩ := oh_take (c := [(.slice e4 e5 e6)]) n5 (os_hole a4) (idx_map_some e3) hrow334 rfl
      have hO := hO.split K9
      have w4 : (RT.os 130 (RT.mo Value.bool)).val M o1 (.slice e4 e5 e6) x332 K6 := ⟨[_], rfl, K8⟩
      obtain ⟨y343, i4, hs⟩ := bind_some hs
      have hO := hO.fr2
      have hO := hO.fr1
      obtain ⟨w5, w6, w7, L0, R3, L1, e9, L2, o4⟩ := app_os Rw147 i4 w4 o3 hO.inM (fun g hg hq => hO.apart g hq (mem_l hg))
      have g8 := os_block w4
      refine xk_val (w' := L0) (b := true) (.slice w5 w6 w7) rfl  (y_append rfl rfl (L1 _)) rfl (fun h => nomatch h) ?_
      have hO := hO.fr1
      have hO := hO.fr1
      have h0 := h0.mt e9 hO g8
      have a6 := a6.ma e9 hO g8 (fun _ e => (mem_r (mem_r (mem_l (e)))))
      have k0 := k0.ma e9 hO g8 (fun _ e => (mem_r (mem_l (e))))
      have a0 := a0.ap e9 hO g8 (mem_r (mem_r (mem_r (mem_r (mem_l (List.mem_singleton.2 rfl))))))
      have a1 := a1.mt e9 hO g8
      have a2 := a2.mt e9 hO g8
      have a3 := a3.ap e9 hO g8 (mem_r (mem_r (mem_r (mem_l (List.mem_singleton.2 rfl)))))
      have hC := hC.st e9 hO g8
      have hO := hO.eat e9 L2 (os_nodup o4) o4.fpl
      obtain ⟨w8, R4, w9, L3, L4, R5, R6⟩ := os_idx Sl144 Sz147 k0 (idx_hole e3)
      refine x_p 17 (.pointer (some ⟨w8, 0 + Int.toNat s270 * 1, none⟩)) rfl (by kernel_rfl)  (fun _ => L4 _ _ _ _ _ _ _ _ _ rfl rfl) (fun h => nomatch h) ?_
      refine x_one (i := 18) (by kernel_rfl) ?_
      have hO := hO.fr1
      obtain ⟨L5, L6, L7, g9, L8, l4⟩ := os_store (P := Try.prog) (y := some y343) (c' := [(.slice w5 w6 w7)]) w9 k0 L3 (fun g hg => hO.inM g (os_block k0 g (by simpa using hg))) (show (RT.hole (RT.os 130 (RT.mo Value.bool))).rel _ _ _ (some _) _ from os_unval o4) (os_nodup o4) (fun g hg hq => hO.apart g hq (mem_l hg)) (fun _ h => .inl h)
      have i9 : ∀ q ∈ [w8], q ∈ K7 := fun q hq => os_block k0 q (by rw [w9]; exact hq)
      have l4 := os_fill l4
      refine xk_skip (w' := L5) (b := true) rfl (ys_store rfl rfl (L7 _ _ rfl Sz147)) rfl (fun h => nomatch h) ?_
      have hO := hO.fr1
      have hO := hO.fr1
      have h0 := h0.mt g9 hO i9
      have a6 := a6.ma g9 hO i9 (fun _ e => (mem_r (mem_l (e))))
      have a0 := a0.ap g9 hO i9 (mem_r (mem_r (mem_r (mem_l (List.mem_singleton.2 rfl)))))
      have a1 := a1.mt g9 hO i9
      have a2 := a2.mt g9 hO i9
      have a3 := a3.ap g9 hO i9 (mem_r (mem_r (mem_l (List.mem_singleton.2 rfl))))
      have hC := hC.st g9 hO i9
      have hO := hO.eat g9 (fun q hq => (L8 q hq).elim .inl (fun h => .inr (.inl h))) (os_nodup l4) l4.fpl
      refine x_end (by kernel_rfl) ?_
      clear hS
      refine c_region ?_
      refine pl_val (.int .i64 (w64 ((c1 : Int) + 1))) (y_add rfl rfl) ?_
      refine pl_val (.int .i64 (w64 ((c1 : Int) + 1))) (y_move rfl) ?_
      refine c_nil ?_
      cases hs
      have hO := hO.fr2
      have hO := hO.drop
      have hO := hO.fr1
      have hO := hO.fr1
      have hO := hO.fr2
      exact ⟨_, rfl, drop_cons_next hd, _, d4, L6, fr_ovl 74 ⟨rfl, rfl, rfl, congrArg (Value.int .i64) (w64_succ hlt (Int.natCast_nonneg _) (rs_max h0)), trivial⟩, hC, hO, h0, a6, l4, a0⟩
     ·skip
      have hO := hO.fr4
      obtain ⟨L9, M0, M1, R7, M2, k1⟩ := oh_take (c := [(.slice e4 e5 e6)]) n5 (os_hole a4) (idx_map_some e3) hrow334 rfl
      have hO := hO.split M2
      have x0 : (RT.os 130 (RT.mo Value.bool)).val M o1 (.slice e4 e5 e6) x332 L9 := ⟨[_], rfl, M1⟩
      obtain ⟨y343, i4, hs⟩ := bind_some hs
      have hO := hO.fr2
      have hO := hO.fr1
      obtain ⟨x1, x2, x3, M3, R8, M4, f0, M5, o5⟩ := app_os Rw147 i4 x0 o3 hO.inM (fun g hg hq => hO.apart g hq (mem_l hg))
      have h1 := os_block x0
      refine xk_val (w' := M3) (b := true) (.slice x1 x2 x3) rfl  (y_append rfl rfl (M4 _)) rfl (fun h => nomatch h) ?_
      have hO := hO.fr1
      have hO := hO.fr1
      have h0 := h0.mt f0 hO h1
      have a6 := a6.ma f0 hO h1 (fun _ e => (mem_r (mem_r (mem_l (e)))))
      have k1 := k1.ma f0 hO h1 (fun _ e => (mem_r (mem_l (e))))
      have a0 := a0.ap f0 hO h1 (mem_r (mem_r (mem_r (mem_r (mem_l (List.mem_singleton.2 rfl))))))
      have a1 := a1.mt f0 hO h1
      have a2 := a2.mt f0 hO h1
      have a3 := a3.ap f0 hO h1 (mem_r (mem_r (mem_r (mem_l (List.mem_singleton.2 rfl)))))
      have hC := hC.st f0 hO h1
      have hO := hO.eat f0 M5 (os_nodup o5) o5.fpl
      refine x_one (i := 3) (by kernel_rfl) ?_
      refine xk_val (b := true) (.slice a7 a9 a8) rfl  (y_load rfl ((box_load Ag144 Sz144 a0 [(.int .i64 net.2.1), (.slice b0 b2 b1)] [(.slice a7 a9 a8)] [] rfl rfl (fun _ => rfl)) _ (Chg.refl _ _))) rfl (fun h => nomatch h) ?_
      obtain ⟨x4, R9, x5, M6, M7, S0, S1⟩ := os_idx Sl144 Sz147 k1 (idx_hole e3)
      refine x_p 17 (.pointer (some ⟨x4, 0 + Int.toNat s270 * 1, none⟩)) rfl (by kernel_rfl)  (fun _ => M7 _ _ _ _ _ _ _ _ _ rfl rfl) (fun h => nomatch h) ?_
      refine x_one (i := 18) (by kernel_rfl) ?_
      have hO := hO.fr1
      obtain ⟨M8, M9, N0, h2, N1, l5⟩ := os_store (P := Try.prog) (y := some y343) (c' := [(.slice x1 x2 x3)]) x5 k1 M6 (fun g hg => hO.inM g (os_block k1 g (by simpa using hg))) (show (RT.hole (RT.os 130 (RT.mo Value.bool))).rel _ _ _ (some _) _ from os_unval o5) (os_nodup o5) (fun g hg hq => hO.apart g hq (mem_l hg)) (fun _ h => .inl h)
      have j0 : ∀ q ∈ [x4], q ∈ M0 := fun q hq => os_block k1 q (by rw [x5]; exact hq)
      have l5 := os_fill l5
      refine xk_skip (w' := M8) (b := true) rfl (ys_store rfl rfl (N0 _ _ rfl Sz147)) rfl (fun h => nomatch h) ?_
      have hO := hO.fr1
      have hO := hO.fr1
      have h0 := h0.mt h2 hO j0
      have a6 := a6.ma h2 hO j0 (fun _ e => (mem_r (mem_l (e))))
      have a0 := a0.ap h2 hO j0 (mem_r (mem_r (mem_r (mem_l (List.mem_singleton.2 rfl)))))
      have a1 := a1.mt h2 hO j0
      have a2 := a2.mt h2 hO j0
      have a3 := a3.ap h2 hO j0 (mem_r (mem_r (mem_l (List.mem_singleton.2 rfl))))
      have hC := hC.st h2 hO j0
      have hO := hO.eat h2 (fun q hq => (N1 q hq).elim .inl (fun h => .inr (.inl h))) (os_nodup l5) l5.fpl
      refine x_end (by kernel_rfl) ?_
      clear hS
      refine c_region ?_
      refine pl_val (.int .i64 (w64 ((c1 : Int) + 1))) (y_add rfl rfl) ?_
      refine pl_val (.int .i64 (w64 ((c1 : Int) + 1))) (y_move rfl) ?_
      refine c_nil ?_
      cases hs
      have hO := hO.fr2
      have hO := hO.drop
      have hO := hO.fr1
      have hO := hO.fr1
      have hO := hO.fr2
      exact ⟨_, rfl, drop_cons_next hd, _, d4, M9, fr_ovl 74 ⟨rfl, rfl, rfl, congrArg (Value.int .i64) (w64_succ hlt (Int.natCast_nonneg _) (rs_max h0)), trivial⟩, hC, hO, h0, a6, l5, a0⟩
 ·skip
  have hO := hO.fr2
  have hO := hO.fr2
  have hO := hO.fr2
  exact ⟨0, rfl, rfl, _, l6, l7, fr_ovl 74 ⟨rfl, rfl, rfl, rfl, trivial⟩, hC, hO, h0, z5, z6, a0⟩
 cases o257 with
 | nx _ => exact True.intro
 | rt r_ =>
  have hs := after_rt hs
  intro k5 q4 hK
  cases hs
  exact hK
 | br s253 =>
  have hs := after_br hs
  rintro k5 c0 ⟨σ, j3, j4, rfl, hC, hO, h0, N2, N3, a0⟩
  refine c_sr ?_
  refine pl_val (.pointer (some ⟨a5, 0, none⟩)) (y_move rfl) ?_
  refine pl_val (.pointer (some ⟨a5, 0, none⟩)) (y_assign rfl) ?_
  refine c_nil ?_
  refine wp_ret ?_
  have hO := hO.fr1
  have hO := hO.fr2
  have hO := hO.fr2
  have hO := hO.perm (R := (a5 :: (([] : List Nat) ++ (j3 ++ j4))) ++ ([])) (by simp)
  have N4 : (RT.po 146 (RT.pr (RT.int .i64) (RT.pr (RT.os 47 (RT.os 41 (RT.rs (RT.int .i64)))) (RT.os 147 (RT.os 130 (RT.mo Value.bool)))))).val M c0 (.pointer (some ⟨a5, 0, none⟩)) (net.2.1, s253.1, s253.2) (a5 :: (([] : List Nat) ++ (j3 ++ j4))) := po_shut a0 ⟨_, _, _, _, rfl, rfl, ⟨rfl, rfl⟩, ⟨_, _, _, _, rfl, rfl, (os_unval N2), (os_unval N3)⟩⟩ hO.nd
  cases hs
  exact ⟨_, (.pointer (some ⟨a5, 0, none⟩)), (a5 :: (([] : List Nat) ++ (j3 ++ j4))), fr_ovl 74 ⟨rfl, trivial⟩, hC, (op_some N4), hO.top⟩

def k_impl_clone (M : Nat → Prop) (w0 : World) (r : (List Int)) (a : Act) (w : World) : Prop :=
  ∃ (σ : Nat → Value) (ra0 : Option Addr) (rn0 rc0 : Nat) (rf0 : List Nat), a = fr 6 (ovl σ [(2, (.slice ra0 rn0 rc0))]) ∧ Chg [] w0 w ∧ (RT.os 3 (RT.int .i64)).val M w (.slice ra0 rn0 rc0) r rf0 ∧ Option.isNone ra0 = false ∧ Own (Nw w0 []) (fun _ => True) w (rf0 ++ ([]))
def s_impl_clone (list : List Int) : Option ((List Int)) :=
  (app ([]) list).bind fun y5 =>
  some y5
set_option maxHeartbeats 4000000 in
theorem c_impl_clone {M : Nat → Prop} {w : World} {pa0 : Option Addr} {pn0 pc0 : Nat} (list : List Int) (h0 : (RT.rs (RT.int .i64)).val M w (.slice pa0 pn0 pc0) list ([])) (hM : ∀ g, w.heap.size ≤ g → M g) {r : (List Int)} (hs : s_impl_clone list = some r) :
    Gives Try.prog 86 [(.slice pa0 pn0 pc0)] w (fun v w' => ∃ (ra0 : Option Addr) (rn0 rc0 : Nat) (rf0 : List Nat), v = (.slice ra0 rn0 rc0) ∧ Chg [] w w' ∧ (RT.os 3 (RT.int .i64)).val M w' (.slice ra0 rn0 rc0) r rf0 ∧ Option.isNone ra0 = false ∧ Own (Nw w []) (fun _ => True) w' (rf0 ++ ([]))) := by
 refine calls_fr Try.func86 rfl Try.ntmps86 (Nat.le_of_ble_eq_true rfl) ?_
 have hO := Own.start (N := Nw w []) hM Nw.fut
 have hC := Chg.refl [] w
 unfold s_impl_clone at hs
 refine wp_mono (Q := KPost (k_impl_clone M w r)) ?_ (fun e a b9 h => ?_)
 rotate_left
 ·cases e
  case ret =>
   obtain ⟨σ, ra0, rn0, rc0, rf0, rfl, hrest⟩ := h
   exact ret1x Try.results86 (res_tmp rfl) ⟨ra0, rn0, rc0, rf0, rfl, hrest⟩
  all_goals exact (h : False).elim
 refine c_sr ?_
 refine pl_val (.slice none 0 0) (y_assign rfl) ?_
 refine c_nil ?_
 refine c_sr ?_
 obtain ⟨a8, a1, b2, a9, a2, b0⟩ := new_block w [] 3
 refine pl_val (w' := a8) (.slice (some ⟨a1, 0, none⟩) 0 0) (y_bslice rfl (by rw [b2, a9]; kernel_rfl)) ?_
 have h0 := h0.ext a2
 have hC := hC.ext a2
 have hO := hO.new1 a2 a9 b0.lt
 have a0 := os_of_box (r := (RT.int .i64)) (M := M) (css := []) (fps := []) (xs := ([] : List Int)) b0 trivial (Nat.zero_le _) (List.nodup_cons.2 ⟨(fun h => nomatch h), List.nodup_nil⟩)
 have a0 : (RT.os 3 (RT.int .i64)).val M a8 (.slice (some ⟨a1, 0, none⟩) 0 0) [] [a1] := a0
 refine pl_val (.slice pa0 pn0 pc0) (y_move rfl) ?_
 obtain ⟨y5, b3, hs⟩ := bind_some hs
 obtain ⟨a3, a4, a5, b4, b5, b6, a6, b7, a7, b8⟩ := app_rs_nn Rw41 b3 a0 h0 hO.inM
 have b1 := os_block a0
 refine pl_val (w' := b4) (.slice a3 a4 a5) (y_append rfl rfl (b6 _)) ?_
 have h0 := h0.mt a6 hO b1
 have hC := hC.st a6 hO b1
 have hO := hO.grow a6 b7 (os_nodup a7) a7.fpl
 refine pl_val (.slice a3 a4 a5) (y_assign rfl) ?_
 refine c_nil ?_
 refine wp_ret ?_
 cases hs
 exact ⟨_, a3, a4, a5, b5, fr_ovl 6 ⟨rfl, trivial⟩, hC, a7, b8, hO.top⟩

def k_impl_compose (M : Nat → Prop) (w0 : World) (r : (List Int)) (a : Act) (w : World) : Prop :=
  ∃ (σ : Nat → Value) (ra0 : Option Addr) (rn0 rc0 : Nat) (rf0 : List Nat), a = fr 27 (ovl σ [(4, (.slice ra0 rn0 rc0))]) ∧ Chg [] w0 w ∧ (RT.os 3 (RT.int .i64)).val M w (.slice ra0 rn0 rc0) r rf0 ∧ Own (Nw w0 []) (fun _ => True) w (rf0 ++ ([]))
def s_impl_compose (f : List Int) (g : List Int) : Option ((List Int)) :=
  (mks (f.length : Int) (0 : Int)).bind fun y4 =>
  (forC (S := (List Int)) (R := (List Int)) (fun k23 s21 =>
  (idx f k23).bind fun x29 =>
  (idx g x29).bind fun x31 =>
  (idx s21 k23).bind fun x33 =>
  some (.nx (List.set s21 (Int.toNat k23) x31))) 0 (f.length : Int) y4).bind fun o25 => after o25 (fun r_ => some r_) (fun s21 =>
  some s21)
set_option maxHeartbeats 4000000 in
theorem c_impl_compose {M : Nat → Prop} {w : World} {pa0 : Option Addr} {pn0 pc0 : Nat} {pa1 : Option Addr} {pn1 pc1 : Nat} (f : List Int) (g : List Int) (h0 : (RT.rs (RT.int .i64)).val M w (.slice pa0 pn0 pc0) f ([])) (h1 : (RT.rs (RT.int .i64)).val M w (.slice pa1 pn1 pc1) g ([])) (hM : ∀ g, w.heap.size ≤ g → M g) {r : (List Int)} (hs : s_impl_compose f g = some r) :
    Gives Try.prog 81 [(.slice pa0 pn0 pc0), (.slice pa1 pn1 pc1)] w (fun v w' => ∃ (ra0 : Option Addr) (rn0 rc0 : Nat) (rf0 : List Nat), v = (.slice ra0 rn0 rc0) ∧ Chg [] w w' ∧ (RT.os 3 (RT.int .i64)).val M w' (.slice ra0 rn0 rc0) r rf0 ∧ Own (Nw w []) (fun _ => True) w' (rf0 ++ ([]))) := by
 refine calls_fr Try.func81 rfl Try.ntmps81 (Nat.le_of_ble_eq_true rfl) ?_
 have hO := Own.start (N := Nw w []) hM Nw.fut
 have hC := Chg.refl [] w
 unfold s_impl_compose at hs
 refine wp_mono (Q := KPost (k_impl_compose M w r)) ?_ (fun e a b4 h => ?_)
 rotate_left
 ·cases e
  case ret =>
   obtain ⟨σ, ra0, rn0, rc0, rf0, rfl, hrest⟩ := h
   exact ret1x Try.results81 (res_tmp rfl) ⟨ra0, rn0, rc0, rf0, rfl, hrest⟩
  all_goals exact (h : False).elim
 refine c_sr ?_
 refine pl_val (.slice none 0 0) (y_assign rfl) ?_
 refine c_nil ?_
 refine c_sr ?_
 refine pl_val (.slice pa0 pn0 pc0) (y_move rfl) ?_
 refine pl_val (.int .i64 (f.length : Int)) (y_len' Sl41 (rs_len h0) rfl) ?_
 obtain ⟨y4, b5, hs⟩ := bind_some hs
 obtain ⟨a1, a2, a3, b6, b7, b8, a6, b9, a9⟩ := mk_os (M := M) (w := w) (r := (RT.int .i64)) Rw41 b5 (fun _ _ => ⟨rfl, rfl⟩)
 refine pl_val (w' := b6) (.slice a1 a2 a3) (y_make rfl rfl b8) ?_
 have h0 := h0.ext a6
 have h1 := h1.ext a6
 have hC := hC.ext a6
 have hO := hO.new a6 b9 (os_nodup a9) a9.fpl
 refine pl_val (.slice a1 a2 a3) (y_assign rfl) ?_
 refine c_nil ?_
 refine c_seq ?_
 refine c_sr ?_
 refine pl_val (.slice pa0 pn0 pc0) (y_move rfl) ?_
 refine pl_val (.int .i64 (f.length : Int)) (y_len' Sl41 (rs_len h0) rfl) ?_
 refine pl_val (.int .i64 0) (y_move rfl) ?_
 refine c_nil ?_
 obtain ⟨o25, c0, hs⟩ := bind_some hs
 refine wp_block ?_
 refine wp_forC (id := 0) (f.length : Int) (I := fun k23 s21 a a0 => ∃ (σ : Nat → Value) (a4 : List Nat), a = fr 27 (ovl σ [(1, (.slice pa1 pn1 pc1)), (5, (.slice a1 a2 a3)), (11, (.slice pa0 pn0 pc0)), (12, (.int .i64 (f.length : Int))), (13, (.int .i64 k23))]) ∧ Chg [] w a0 ∧ Own (Nw w []) M a0 (a4 ++ []) ∧ (RT.rs (RT.int .i64)).val M a0 (.slice pa0 pn0 pc0) f ([]) ∧ (RT.rs (RT.int .i64)).val M a0 (.slice pa1 pn1 pc1) g ([]) ∧ (RT.os 3 (RT.int .i64)).val M a0 (.slice a1 a2 a3) s21 a4) (J := fun s21 a a0 => ∃ (σ : Nat → Value) (a7 : List Nat), a = fr 27 (ovl σ [(5, (.slice a1 a2 a3))]) ∧ Chg [] w a0 ∧ Own (Nw w []) M a0 (a7 ++ []) ∧ (RT.rs (RT.int .i64)).val M a0 (.slice pa0 pn0 pc0) f ([]) ∧ (RT.rs (RT.int .i64)).val M a0 (.slice pa1 pn1 pc1) g ([]) ∧ (RT.os 3 (RT.int .i64)).val M a0 (.slice a1 a2 a3) s21 a7) (K := (k_impl_compose M w)) ?_ ?_ 0 y4 o25 _ _ ?_ c0 ?_
 ·rintro k23 s21 a a0 ⟨σ, a4, rfl, hC, hO, h0, h1, a5⟩ hlt
  refine c_sr ?_
  refine pl_val (.bool (decide (k23 < (f.length : Int)))) (y_lss rfl rfl) ?_
  refine c_nil ?_
  refine c_seq ?_
  refine c_condF (congrArg Value.bool (decide_eq_false hlt)) ?_
  refine wp_exit ?_
  exact ⟨rfl, _, a4, fr_ovl 27 ⟨rfl, trivial⟩, hC, hO, h0, h1, a5⟩
 ·rintro k23 s21 o25 a a0 ⟨σ, a4, rfl, hC, hO, h0, h1, a5⟩ hlt hw hs
  refine c_sr ?_
  refine pl_val (.bool (decide (k23 < (f.length : Int)))) (y_lss rfl rfl) ?_
  refine c_nil ?_
  refine c_seq ?_
  refine c_condT (congrArg Value.bool (decide_eq_true hlt)) ?_
  refine wp_skip ?_
  refine c_seq ?_
  refine wp_block ?_
  refine c_sr ?_
  refine pl_val (.int .i64 k23) (y_move rfl) ?_
  obtain ⟨x29, c1, hs⟩ := bind_some hs
  obtain ⟨c2, c3, c4, c5⟩ := rs_idx Sl41 Sz3 h0 c1
  refine pl_val (.pointer (some ⟨c2, c3, none⟩)) (c4 _ _ _ _ _ _ _ _ _ rfl rfl) ?_
  refine pl_val (.int .i64 x29) (y_load rfl ((at_load_int Ag3 Sz3 c5) _ (Chg.refl _ _))) ?_
  refine pl_val (.int .i64 k23) (y_assign rfl) ?_
  refine pl_val (.int .i64 x29) (y_assign rfl) ?_
  refine c_nil ?_
  refine c_region ?_
  refine pl_val (.slice a1 a2 a3) (y_move rfl) ?_
  refine pl_val (.int .i64 k23) (y_move rfl) ?_
  refine pl_val (.slice pa1 pn1 pc1) (y_move rfl) ?_
  refine pl_val (.int .i64 x29) (y_move rfl) ?_
  obtain ⟨x31, c6, hs⟩ := bind_some hs
  obtain ⟨c7, c8, c9, d0⟩ := rs_idx Sl41 Sz3 h1 c6
  refine pl_val (.pointer (some ⟨c7, c8, none⟩)) (c9 _ _ _ _ _ _ _ _ _ rfl rfl) ?_
  refine pl_val (.int .i64 x31) (y_load rfl ((at_load_int Ag3 Sz3 d0) _ (Chg.refl _ _))) ?_
  obtain ⟨x33, d1, hs⟩ := bind_some hs
  obtain ⟨b2, e0, b3, d2, d3, e1, e2⟩ := os_idx Sl41 Sz3 a5 d1
  refine pl_val (.pointer (some ⟨b2, 0 + Int.toNat k23 * 1, none⟩)) (d3 _ _ _ _ _ _ _ _ _ rfl rfl) ?_
  obtain ⟨d4, d5, d6, a8, d7, b0⟩ := os_store (P := Try.prog) (c' := [(.int .i64 x31)]) b3 a5 d2 (fun g hg => hO.inM g (os_block a5 g (by simpa using hg))) ⟨rfl, rfl⟩ List.nodup_nil (fun _ h => nomatch h) (fun _ h => .inl h)
  have b1 : ∀ q ∈ [b2], q ∈ a4 := fun q hq => os_block a5 q (by rw [b3]; exact hq)
  refine pl_skip (w' := d4) (ys_store rfl rfl (d6 _ _ rfl Sz3)) ?_
  have h0 := h0.mt a8 hO b1
  have h1 := h1.mt a8 hO b1
  have hC := hC.st a8 hO b1
  have hO := hO.grow a8 (fun q hq => .inl ((d7 q hq).resolve_right (fun h => nomatch h))) (os_nodup b0) b0.fpl
  refine c_nil ?_
  refine c_region ?_
  refine pl_val (.int .i64 (w64 (k23 + 1))) (y_add rfl rfl) ?_
  refine pl_val (.int .i64 (w64 (k23 + 1))) (y_move rfl) ?_
  refine c_nil ?_
  cases hs
  exact ⟨_, d5, fr_ovl 27 ⟨rfl, rfl, rfl, rfl, congrArg (Value.int .i64) hw, trivial⟩, hC, hO, h0, h1, b0⟩
 ·skip
  exact ⟨_, b7, fr_ovl 27 ⟨rfl, rfl, rfl, rfl, rfl, trivial⟩, hC, hO, h0, h1, a9⟩
 cases o25 with
 | nx _ => exact True.intro
 | rt r_ =>
  have hs := after_rt hs
  intro d8 b4 hK
  cases hs
  exact hK
 | br s21 =>
  have hs := after_br hs
  rintro d8 a0 ⟨σ, a7, rfl, hC, hO, h0, h1, d9⟩
  refine c_sr ?_
  refine pl_val (.slice a1 a2 a3) (y_move rfl) ?_
  refine pl_val (.slice a1 a2 a3) (y_assign rfl) ?_
  refine c_nil ?_
  refine wp_ret ?_
  cases hs
  exact ⟨_, a1, a2, a3, a7, fr_ovl 27 ⟨rfl, trivial⟩, hC, d9, hO.top⟩

theorem Bd104 : Bodied Try.prog 104 := bodied Try.func104 (by kernel_rfl) rfl

theorem Sz119 : SzT Try.prog 119 1 := ⟨_, rfl, rfl⟩

theorem Ag119 : AggT Try.prog 119 false := fun _ => by kernel_rfl

theorem Ag81 : AggT Try.prog 81 false := fun _ => by kernel_rfl

theorem Sz81 : SzT Try.prog 81 1 := ⟨_, rfl, rfl⟩

theorem Bd86 : Bodied Try.prog 86 := bodied Try.func86 (by kernel_rfl) rfl

def k_impl_firstSolution_1__g (M : Nat → Prop) (w0 : World) (vg0 : Nat) (pa0 : Option Addr) (pn0 pc0 : Nat) (va0x0 : Option Addr) (vn0x0 vc0x0 : Nat) (vf0x0 : List Nat) (values : List Int) (b0 : (Option (List Int))) (r : Bool × (Option (List Int))) (a : Act) (w : World) : Prop :=
  ∃ (σ : Nat → Value) (oa0x0 : Option Addr) (on0x0 : Nat) (oc0x0 : Nat) (of0x0 : List Nat), a = fr 6 (ovl σ [(3, (.bool r.1))]) ∧ Chg ([vg0] ++ (vf0x0 ++ ([]))) w0 w ∧ BoxV w vg0 41 [(.slice oa0x0 on0x0 oc0x0)] ∧ (RT.nz 3 (RT.int .i64)).val M w (.slice oa0x0 on0x0 oc0x0) r.2 of0x0 ∧ Own (Nw w0 ([vg0] ++ (vf0x0 ++ ([])))) (fun _ => True) w ([vg0] ++ (of0x0 ++ ([])))
def s_impl_firstSolution_1__g (values : List Int) (b0 : (Option (List Int))) : Option (Bool × (Option (List Int))) :=
  (s_impl_clone values).bind fun r5 =>
  some (false, some r5)
set_option maxHeartbeats 4000000 in
theorem c_impl_firstSolution_1__g {M : Nat → Prop} {w : World} {vg0 : Nat} {pa0 : Option Addr} {pn0 pc0 : Nat} {va0x0 : Option Addr} {vn0x0 vc0x0 : Nat} {vf0x0 : List Nat} (values : List Int) (b0 : (Option (List Int))) (h0 : (RT.rs (RT.int .i64)).val M w (.slice pa0 pn0 pc0) values ([])) (hb0 : BoxV w vg0 41 [(.slice va0x0 vn0x0 vc0x0)]) (hl0x0 : (RT.nz 3 (RT.int .i64)).val M w (.slice va0x0 vn0x0 vc0x0) b0 vf0x0) (hI : Own (Nw w ([vg0] ++ (vf0x0 ++ ([])))) M w ([vg0] ++ (vf0x0 ++ ([])))) (hM : ∀ g, w.heap.size ≤ g → M g) {r : Bool × (Option (List Int))} (hs : s_impl_firstSolution_1__g values b0 = some r) :
    Gives Try.prog 120 [(.slice pa0 pn0 pc0), (.pointer (some ⟨vg0, 0, none⟩))] w (fun v w' => ∃ (oa0x0 : Option Addr) (on0x0 : Nat) (oc0x0 : Nat) (of0x0 : List Nat), v = (.bool r.1) ∧ Chg ([vg0] ++ (vf0x0 ++ ([]))) w w' ∧ BoxV w' vg0 41 [(.slice oa0x0 on0x0 oc0x0)] ∧ (RT.nz 3 (RT.int .i64)).val M w' (.slice oa0x0 on0x0 oc0x0) r.2 of0x0 ∧ Own (Nw w ([vg0] ++ (vf0x0 ++ ([])))) (fun _ => True) w' ([vg0] ++ (of0x0 ++ ([])))) := by
 refine calls_fr Try.func120 rfl Try.ntmps120 (Nat.le_of_ble_eq_true rfl) ?_
 have hO := hI
 have hC := Chg.refl ([vg0] ++ (vf0x0 ++ ([]))) w
 unfold s_impl_firstSolution_1__g at hs
 refine wp_mono (Q := KPost (k_impl_firstSolution_1__g M w vg0 pa0 pn0 pc0 va0x0 vn0x0 vc0x0 vf0x0 values b0 r)) ?_ (fun e a b4 h => ?_)
 rotate_left
 ·cases e
  case ret =>
   obtain ⟨σ, oa0x0, on0x0, oc0x0, of0x0, rfl, hrest⟩ := h
   exact ret1x Try.results120 (res_tmp rfl) ⟨oa0x0, on0x0, oc0x0, of0x0, rfl, hrest⟩
  all_goals exact (h : False).elim
 refine c_sr ?_
 refine pl_val (.bool false) (y_assign rfl) ?_
 refine c_nil ?_
 refine c_sr ?_
 refine pl_val (.slice pa0 pn0 pc0) (y_move rfl) ?_
 obtain ⟨r5, a9, hs⟩ := bind_some hs
 refine pl_call Bd86 rfl (c_impl_clone (M := M) values h0 hO.fut a9) ?_
 rintro _ b5 ⟨a3, a4, a5, a7, rfl, a0, a1, b1, b2⟩
 have h0 := h0.ext a0
 have hl0x0 := hl0x0.ext a0
 have hb0 := hb0.cn a0
 have hC := hC.ext a0
 have hO := Own.join0 hO a0 b2
 have hO := hO.perm (R := a7 ++ (([vg0]) ++ (vf0x0 ++ ([])))) (by simp)
 obtain ⟨a8, b3, a2, a6⟩ := box_store (P := Try.prog) hb0 [] [(.slice va0x0 vn0x0 vc0x0)] [] [(.slice a3 a4 a5)] rfl rfl (by intro u hu; simp only [List.mem_cons, List.not_mem_nil, or_false] at hu; rcases hu with rfl <;> rfl)
 refine pl_skip (w' := a8) (ys_store rfl rfl (b3 _ _ rfl Sz41)) ?_
 have hO := hO.fr1
 have h0 := h0.mt a2 hO same_
 have hl0x0 := hl0x0.ma a2 hO same_ (fun _ e => (mem_r (mem_l (e))))
 have a1 := a1.ma a2 hO same_ (fun _ e => (mem_l (e)))
 have hC := hC.st a2 hO same_
 have hO := hO.ext a2
 have a6 : BoxV a8 vg0 41 [(.slice a3 a4 a5)] := a6
 refine c_nil ?_
 refine c_sr ?_
 refine pl_val (.bool false) (y_assign rfl) ?_
 refine c_nil ?_
 refine wp_ret ?_
 have a1 := nz_of a1 b1
 cases hs
 have hO := hO.fr2
 have hO := hO.drop
 have hO := hO.fr1
 have hO := hO.fr1
 exact ⟨_, a3, a4, a5, a7, fr_ovl 6 ⟨rfl, trivial⟩, hC, a6, a1, hO.top⟩

theorem Bd120 : Bodied Try.prog 120 := bodied Try.func120 (by kernel_rfl) rfl

theorem Ag120 : AggT Try.prog 120 false := fun _ => by kernel_rfl

theorem Sz120 : SzT Try.prog 120 1 := ⟨_, rfl, rfl⟩

theorem Fa146x0 : ∀ (a : Addr) (w : World), (Instr.fieldAt 146 (.pointer (some a)) 0).run Try.prog w = .ok (.pointer (some (a.add 0))) w := fun _ _ => by kernel_rfl

theorem Sl147 : SlT Try.prog 147 130 := Try.underlying147

theorem Sz130 : SzT Try.prog 130 1 := ⟨_, rfl, rfl⟩

theorem Ag130 : AggT Try.prog 130 false := fun _ => by kernel_rfl

theorem Bd81 : Bodied Try.prog 81 := bodied Try.func81 (by kernel_rfl) rfl

theorem Zv4 : ∀ w, (zeroValue 4).run Try.prog w = .ok (Value.bool false) w := fun _ => by kernel_rfl

theorem Bd132 : Bodied Try.prog 132 := bodied Try.func132 (by kernel_rfl) rfl

def k_impl_netSearch__each_1__firstSolution_1 (M : Nat → Prop) (w0 : World) (vg0 : Nat) (vg1 : Nat) (vg2 : Nat) (vg3 : Nat) (vg4 : Nat) (vg5 : Nat) (vg6 : Nat) (va0x0 : Option Addr) (vn0x0 vc0x0 : Nat) (vf0x0 : List Nat) (va2x0 : Option Addr) (vn2x0 vc2x0 : Nat) (vf2x0 : List Nat) (va4x1 : Option Addr) (vn4x1 vc4x1 : Nat) (va4x2 : Option Addr) (vn4x2 vc4x2 : Nat) (va5x0 : Option Addr) (vn5x0 vc5x0 : Nat) (v_ : Int) (b0 : (List Int)) (b2 : (Option (List Int))) (b4 : Int × (List (List (List Int))) × (List (List (List (ByteArray × Bool))))) (b5 : (List Int)) (r : Bool × (List Int) × (Option (List Int))) (a : Act) (w : World) : Prop :=
  ∃ (σ : Nat → Value) (oa0x0 : Option Addr) (on0x0 : Nat) (oc0x0 : Nat) (of0x0 : List Nat) (oa2x0 : Option Addr) (on2x0 : Nat) (oc2x0 : Nat) (of2x0 : List Nat), a = fr 84 (ovl σ [(7, (.bool r.1))]) ∧ Chg ([vg0] ++ (vf0x0 ++ ([vg2] ++ (vf2x0 ++ ([]))))) w0 w ∧ BoxV w vg0 41 [(.slice oa0x0 on0x0 oc0x0)] ∧ (RT.os 3 (RT.int .i64)).val M w (.slice oa0x0 on0x0 oc0x0) r.2.1 of0x0 ∧ BoxV w vg2 41 [(.slice oa2x0 on2x0 oc2x0)] ∧ (RT.nz 3 (RT.int .i64)).val M w (.slice oa2x0 on2x0 oc2x0) r.2.2 of2x0 ∧ Own (Nw w0 ([vg0] ++ (vf0x0 ++ ([vg2] ++ (vf2x0 ++ ([])))))) (fun _ => True) w ([vg0] ++ (of0x0 ++ ([vg2] ++ (of2x0 ++ ([])))))
def s_impl_netSearch__each_1__firstSolution_1 : Nat → (Int) → ((List Int)) → ((Option (List Int))) → (Int × (List (List (List Int))) × (List (List (List (ByteArray × Bool))))) → ((List Int)) → Option (Bool × (List Int) × (Option (List Int)))
  | 0, _, _, _, _, _ => none
  | fu_ + 1, v_, b0, b2, b4, b5 =>
  (bif (v_ == (b0.length : Int)) then (s_impl_firstSolution_1__g b0 b2).bind fun r15 =>
  some (r15.1, b0, r15.2) else (forC (S := (List Int) × (Option (List Int))) (R := Bool × (List Int) × (Option (List Int))) (fun k155 s153 =>
  ((idx b5 v_).bind fun x170 =>
  (bif (decide (0 ≤ x170)) then (idx b5 v_).bind fun x173 =>
  some (x173 != k155) else some false)).bind fun s167 =>
  (bif s167 then some (.nx (s153.1, s153.2)) else (idx s153.1 v_).bind fun x176 =>
  (idx b4.2.1 v_).bind fun x179 =>
  (forC (S := Bool) (R := Bool × (List Int) × (Option (List Int))) (fun k204 s202 =>
  (idx x179 k204).bind fun x208 =>
  (bif s202 then (idx b4.2.2 v_).bind fun x214 =>
  (idx x214 k204).bind fun x218 =>
  (s_impl_compose x208 (List.set s153.1 (Int.toNat v_) k155)).bind fun r223 =>
  (s_impl_keyOf r223).bind fun r226 =>
  some (.nx ((mget x218 r226).getD false)) else some (.nx false))) 0 (x179.length : Int) true).bind fun o206 => after o206 (fun r_ => some (.rt r_)) (fun s202 =>
  (bif s202 then (s_impl_netSearch__each_1__firstSolution_1 fu_ (w64 (v_ + 1)) (List.set s153.1 (Int.toNat v_) k155) s153.2 (b4.1, b4.2.1, b4.2.2) b5).bind fun r229 =>
  (bif (!r229.1) then some (.rt (false, r229.2.1, r229.2.2)) else some (.nx (r229.2.1, r229.2.2))) else some (.nx (List.set s153.1 (Int.toNat v_) k155, s153.2)))))) 0 b4.1 (b0, b2)).bind fun o157 => after o157 (fun r_ => some r_) (fun s153 =>
  some (true, s153.1, s153.2)))
set_option maxHeartbeats 4000000 in
theorem c_impl_netSearch__each_1__firstSolution_1 : ∀ (fu_ : Nat) {M : Nat → Prop} {w : World} {vg0 : Nat} {vg1 : Nat} {vg2 : Nat} {vg3 : Nat} {vg4 : Nat} {vg5 : Nat} {vg6 : Nat} {va0x0 : Option Addr} {vn0x0 vc0x0 : Nat} {vf0x0 : List Nat} {va2x0 : Option Addr} {vn2x0 vc2x0 : Nat} {vf2x0 : List Nat} {va4x1 : Option Addr} {vn4x1 vc4x1 : Nat} {va4x2 : Option Addr} {vn4x2 vc4x2 : Nat} {va5x0 : Option Addr} {vn5x0 vc5x0 : Nat} (v_ : Int) (b0 : (List Int)) (b2 : (Option (List Int))) (b4 : Int × (List (List (List Int))) × (List (List (List (ByteArray × Bool))))) (b5 : (List Int)) (hb0 : BoxV w vg0 41 [(.slice va0x0 vn0x0 vc0x0)]) (hl0x0 : (RT.os 3 (RT.int .i64)).val M w (.slice va0x0 vn0x0 vc0x0) b0 vf0x0) (hb1 : RBox M w vg1 81 [(.func (.func 120) #[] #[(.pointer (some ⟨vg2, 0, none⟩))])]) (hb2 : BoxV w vg2 41 [(.slice va2x0 vn2x0 vc2x0)]) (hl2x0 : (RT.nz 3 (RT.int .i64)).val M w (.slice va2x0 vn2x0 vc2x0) b2 vf2x0) (hb3 : RBox M w vg3 120 [(.pointer (some ⟨vg4, 0, none⟩))]) (hb4 : RBox M w vg4 146 [(.int .i64 b4.1), (.slice va4x1 vn4x1 vc4x1), (.slice va4x2 vn4x2 vc4x2)]) (hl4x1 : (RT.rs (RT.rs (RT.rs (RT.int .i64)))).val M w (.slice va4x1 vn4x1 vc4x1) b4.2.1 ([])) (hl4x2 : (RT.rs (RT.rs (RT.mr Value.bool))).val M w (.slice va4x2 vn4x2 vc4x2) b4.2.2 ([])) (hb5 : RBox M w vg5 41 [(.slice va5x0 vn5x0 vc5x0)]) (hl5x0 : (RT.rs (RT.int .i64)).val M w (.slice va5x0 vn5x0 vc5x0) b5 ([])) (hb6 : RBox M w vg6 119 [(.func (.func 132) #[] #[(.pointer (some ⟨vg0, 0, none⟩)), (.pointer (some ⟨vg1, 0, none⟩)), (.pointer (some ⟨vg3, 0, none⟩)), (.pointer (some ⟨vg5, 0, none⟩)), (.pointer (some ⟨vg6, 0, none⟩))])]) (hI : Own (Nw w ([vg0] ++ (vf0x0 ++ ([vg2] ++ (vf2x0 ++ ([])))))) M w ([vg0] ++ (vf0x0 ++ ([vg2] ++ (vf2x0 ++ ([])))))) (hM : ∀ g, w.heap.size ≤ g → M g) {r : Bool × (List Int) × (Option (List Int))} (hs : s_impl_netSearch__each_1__firstSolution_1 fu_ v_ b0 b2 b4 b5 = some r), Gives Try.prog 132 [(.int .i64 v_), (.pointer (some ⟨vg0, 0, none⟩)), (.pointer (some ⟨vg1, 0, none⟩)), (.pointer (some ⟨vg3, 0, none⟩)), (.pointer (some ⟨vg5, 0, none⟩)), (.pointer (some ⟨vg6, 0, none⟩))] w (fun v w' => ∃ (oa0x0 : Option Addr) (on0x0 : Nat) (oc0x0 : Nat) (of0x0 : List Nat) (oa2x0 : Option Addr) (on2x0 : Nat) (oc2x0 : Nat) (of2x0 : List Nat), v = (.bool r.1) ∧ Chg ([vg0] ++ (vf0x0 ++ ([vg2] ++ (vf2x0 ++ ([]))))) w w' ∧ BoxV w' vg0 41 [(.slice oa0x0 on0x0 oc0x0)] ∧ (RT.os 3 (RT.int .i64)).val M w' (.slice oa0x0 on0x0 oc0x0) r.2.1 of0x0 ∧ BoxV w' vg2 41 [(.slice oa2x0 on2x0 oc2x0)] ∧ (RT.nz 3 (RT.int .i64)).val M w' (.slice oa2x0 on2x0 oc2x0) r.2.2 of2x0 ∧ Own (Nw w ([vg0] ++ (vf0x0 ++ ([vg2] ++ (vf2x0 ++ ([])))))) (fun _ => True) w' ([vg0] ++ (of0x0 ++ ([vg2] ++ (of2x0 ++ ([])))))) := by
 intro fu_
 induction fu_ with
 | zero => intro M w vg0 vg1 vg2 vg3 vg4 vg5 vg6 va0x0 vn0x0 vc0x0 vf0x0 va2x0 vn2x0 vc2x0 vf2x0 va4x1 vn4x1 vc4x1 va4x2 vn4x2 vc4x2 va5x0 vn5x0 vc5x0 v_ b0 b2 b4 b5 hb0 hl0x0 hb1 hb2 hl2x0 hb3 hb4 hl4x1 hl4x2 hb5 hl5x0 hb6 hI hM r hs; exact (nomatch hs)
 | succ fu_ c_ih =>
 intro M w vg0 vg1 vg2 vg3 vg4 vg5 vg6 va0x0 vn0x0 vc0x0 vf0x0 va2x0 vn2x0 vc2x0 vf2x0 va4x1 vn4x1 vc4x1 va4x2 vn4x2 vc4x2 va5x0 vn5x0 vc5x0 v_ b0 b2 b4 b5 hb0 hl0x0 hb1 hb2 hl2x0 hb3 hb4 hl4x1 hl4x2 hb5 hl5x0 hb6 hI hM r hs
 refine calls_fr Try.func132 rfl Try.ntmps132 (Nat.le_of_ble_eq_true rfl) ?_
 have hO := hI
 have hC := Chg.refl ([vg0] ++ (vf0x0 ++ ([vg2] ++ (vf2x0 ++ ([]))))) w
 rw [s_impl_netSearch__each_1__firstSolution_1] at hs
 refine wp_mono (Q := KPost (k_impl_netSearch__each_1__firstSolution_1 M w vg0 vg1 vg2 vg3 vg4 vg5 vg6 va0x0 vn0x0 vc0x0 vf0x0 va2x0 vn2x0 vc2x0 vf2x0 va4x1 vn4x1 vc4x1 va4x2 vn4x2 vc4x2 va5x0 vn5x0 vc5x0 v_ b0 b2 b4 b5 r)) ?_ (fun e a g6 h => ?_)
 rotate_left
 ·cases e
  case ret =>
   obtain ⟨σ, oa0x0, on0x0, oc0x0, of0x0, oa2x0, on2x0, oc2x0, of2x0, rfl, hrest⟩ := h
   exact ret1x Try.results132 (res_tmp rfl) ⟨oa0x0, on0x0, oc0x0, of0x0, oa2x0, on2x0, oc2x0, of2x0, rfl, hrest⟩
  all_goals exact (h : False).elim
 refine c_sr ?_
 refine pl_val (.bool false) (y_assign rfl) ?_
 refine c_nil ?_
 refine c_seq ?_
 refine c_sr ?_
 refine pl_val (.int .i64 v_) (y_move rfl) ?_
 refine pl_val (.slice va0x0 vn0x0 vc0x0) (y_load rfl ((box_load Ag41 Sz41 hb0 [] [(.slice va0x0 vn0x0 vc0x0)] [] rfl rfl (fun _ => rfl)) _ (Chg.refl _ _))) ?_
 refine pl_val (.int .i64 (b0.length : Int)) (y_len' Sl41 (os_len hl0x0) rfl) ?_
 refine pl_val (.bool (v_ == (b0.length : Int))) (y_eql rfl rfl) ?_
 refine c_nil ?_
 rcases bif_some hs with ⟨e8, hs⟩ | ⟨e8, hs⟩
 ·refine c_condT (congrArg Value.bool e8) ?_
  refine c_sr ?_
  refine pl_val (.func (.func 120) #[] #[(.pointer (some ⟨vg2, 0, none⟩))]) (y_load rfl ((box_load Ag81 Sz81 hb1.1 [] [(.func (.func 120) #[] #[(.pointer (some ⟨vg2, 0, none⟩))])] [] rfl rfl (fun _ => rfl)) _ (Chg.refl _ _))) ?_
  refine pl_val (.slice va0x0 vn0x0 vc0x0) (y_load rfl ((box_load Ag41 Sz41 hb0 [] [(.slice va0x0 vn0x0 vc0x0)] [] rfl rfl (fun _ => rfl)) _ (Chg.refl _ _))) ?_
  have hO := hO.fr1
  have hO := hO.fr3
  have hO := hO.fr3
  have e9 := hO
  have e9 := e9.fr2
  have g7 := Own.lend (F := (([vg2]) ++ (vf2x0 ++ ([])))) (R := ([vg0]) ++ ([])) (Own.perm (e9.less) (by simp))
  obtain ⟨r15, i0, hs⟩ := bind_some hs
  refine pl_callb rfl Bd120 rfl (c_impl_firstSolution_1__g (M := (Less M vf0x0)) b0 b2 (((Frz.os Frz.int)).val hl0x0 Less.sub Less.not) (show BoxV _ vg2 41 [(.slice va2x0 vn2x0 vc2x0)] from hb2) (hl2x0.sub Less.sub) g7 g7.fut i0) ?_
  rintro _ i1 ⟨g8, g9, h0, h1, rfl, c1, f0, f1, i2⟩
  have hO := hO.fr2
  have hO := hO.fr2
  have hO := hO.fr2
  have hO := hO.perm (R := (([vg2]) ++ (vf2x0 ++ ([]))) ++ (vf0x0 ++ (([vg0]) ++ ([])))) (by simp)
  have hl0x0 := hl0x0.ma c1 hO same_ (fun _ e => (mem_l (e)))
  have hb0 := hb0.ap c1 hO same_ (mem_r (mem_l (List.mem_singleton.2 rfl)))
  have hb1 := hb1.mut c1 (fun q hq => hO.inM q ((fun _ h => h) q hq))
  have hb3 := hb3.mut c1 (fun q hq => hO.inM q ((fun _ h => h) q hq))
  have hl4x1 := hl4x1.mt c1 hO same_
  have hl4x2 := hl4x2.mt c1 hO same_
  have hb4 := hb4.mut c1 (fun q hq => hO.inM q ((fun _ h => h) q hq))
  have hl5x0 := hl5x0.mt c1 hO same_
  have hb5 := hb5.mut c1 (fun q hq => hO.inM q ((fun _ h => h) q hq))
  have hb6 := hb6.mut c1 (fun q hq => hO.inM q ((fun _ h => h) q hq))
  have hC := hC.st c1 hO same_
  have hO := Own.join hO c1 i2
  have hO := hO.perm (R := [vg2] ++ (h1 ++ (vf0x0 ++ (([vg0]) ++ ([]))))) (by simp)
  have f1 := f1.free (M' := M) (Free.nz Free.int)
  have f0 : BoxV i1 vg2 41 [(.slice g8 g9 h0)] := f0
  refine pl_val (.bool r15.1) (y_assign rfl) ?_
  refine c_nil ?_
  refine wp_ret ?_
  cases hs
  have hO := hO.fr1
  have hO := hO.fr1
  have hO := hO.fr2
  have hO := hO.fr3
  exact ⟨_, va0x0, vn0x0, vc0x0, vf0x0, g8, g9, h0, h1, fr_ovl 84 ⟨rfl, trivial⟩, hC, hb0, hl0x0, f0, f1, hO.top⟩
 refine c_condF (congrArg Value.bool e8) ?_
 refine wp_skip ?_
 refine c_seq ?_
 refine c_sr ?_
 refine pl_val (.int .i64 0) (y_assign rfl) ?_
 refine c_nil ?_
 obtain ⟨o157, i3, hs⟩ := bind_some hs
 refine wp_block ?_
 refine wp_forC (id := 0) b4.1 (I := fun k155 s153 a a1 => ∃ (σ : Nat → Value) (a9 : Option Addr) (b1 : Nat) (b3 : Nat) (d0 : List Nat) (c2 : Option Addr) (c3 : Nat) (c4 : Nat) (b7 : List Nat), a = fr 84 (ovl σ [(0, (.int .i64 v_)), (1, (.pointer (some ⟨vg0, 0, none⟩))), (3, (.pointer (some ⟨vg3, 0, none⟩))), (4, (.pointer (some ⟨vg5, 0, none⟩))), (5, (.pointer (some ⟨vg6, 0, none⟩))), (8, (.int .i64 k155))]) ∧ Chg ([vg0] ++ (vf0x0 ++ ([vg2] ++ (vf2x0 ++ ([]))))) w a1 ∧ Own (Nw w ([vg0] ++ (vf0x0 ++ ([vg2] ++ (vf2x0 ++ ([])))))) M a1 (d0 ++ (b7 ++ (([vg0]) ++ (([vg2]) ++ [])))) ∧ BoxV a1 vg0 41 [(.slice a9 b1 b3)] ∧ RBox M a1 vg1 81 [(.func (.func 120) #[] #[(.pointer (some ⟨vg2, 0, none⟩))])] ∧ BoxV a1 vg2 41 [(.slice c2 c3 c4)] ∧ RBox M a1 vg3 120 [(.pointer (some ⟨vg4, 0, none⟩))] ∧ (RT.rs (RT.rs (RT.rs (RT.int .i64)))).val M a1 (.slice va4x1 vn4x1 vc4x1) b4.2.1 ([]) ∧ (RT.rs (RT.rs (RT.mr Value.bool))).val M a1 (.slice va4x2 vn4x2 vc4x2) b4.2.2 ([]) ∧ RBox M a1 vg4 146 [(.int .i64 b4.1), (.slice va4x1 vn4x1 vc4x1), (.slice va4x2 vn4x2 vc4x2)] ∧ (RT.rs (RT.int .i64)).val M a1 (.slice va5x0 vn5x0 vc5x0) b5 ([]) ∧ RBox M a1 vg5 41 [(.slice va5x0 vn5x0 vc5x0)] ∧ RBox M a1 vg6 119 [(.func (.func 132) #[] #[(.pointer (some ⟨vg0, 0, none⟩)), (.pointer (some ⟨vg1, 0, none⟩)), (.pointer (some ⟨vg3, 0, none⟩)), (.pointer (some ⟨vg5, 0, none⟩)), (.pointer (some ⟨vg6, 0, none⟩))])] ∧ (RT.os 3 (RT.int .i64)).val M a1 (.slice a9 b1 b3) s153.1 d0 ∧ (RT.nz 3 (RT.int .i64)).val M a1 (.slice c2 c3 c4) s153.2 b7) (J := fun s153 a a1 => ∃ (σ : Nat → Value) (d4 : Option Addr) (d5 : Nat) (d6 : Nat) (d7 : List Nat) (d8 : Option Addr) (d9 : Nat) (e0 : Nat) (e1 : List Nat), a = fr 84 (ovl σ []) ∧ Chg ([vg0] ++ (vf0x0 ++ ([vg2] ++ (vf2x0 ++ ([]))))) w a1 ∧ Own (Nw w ([vg0] ++ (vf0x0 ++ ([vg2] ++ (vf2x0 ++ ([])))))) M a1 (d7 ++ (e1 ++ (([vg0]) ++ (([vg2]) ++ [])))) ∧ BoxV a1 vg0 41 [(.slice d4 d5 d6)] ∧ RBox M a1 vg1 81 [(.func (.func 120) #[] #[(.pointer (some ⟨vg2, 0, none⟩))])] ∧ BoxV a1 vg2 41 [(.slice d8 d9 e0)] ∧ RBox M a1 vg3 120 [(.pointer (some ⟨vg4, 0, none⟩))] ∧ (RT.rs (RT.rs (RT.rs (RT.int .i64)))).val M a1 (.slice va4x1 vn4x1 vc4x1) b4.2.1 ([]) ∧ (RT.rs (RT.rs (RT.mr Value.bool))).val M a1 (.slice va4x2 vn4x2 vc4x2) b4.2.2 ([]) ∧ RBox M a1 vg4 146 [(.int .i64 b4.1), (.slice va4x1 vn4x1 vc4x1), (.slice va4x2 vn4x2 vc4x2)] ∧ (RT.rs (RT.int .i64)).val M a1 (.slice va5x0 vn5x0 vc5x0) b5 ([]) ∧ RBox M a1 vg5 41 [(.slice va5x0 vn5x0 vc5x0)] ∧ RBox M a1 vg6 119 [(.func (.func 132) #[] #[(.pointer (some ⟨vg0, 0, none⟩)), (.pointer (some ⟨vg1, 0, none⟩)), (.pointer (some ⟨vg3, 0, none⟩)), (.pointer (some ⟨vg5, 0, none⟩)), (.pointer (some ⟨vg6, 0, none⟩))])] ∧ (RT.os 3 (RT.int .i64)).val M a1 (.slice d4 d5 d6) s153.1 d7 ∧ (RT.nz 3 (RT.int .i64)).val M a1 (.slice d8 d9 e0) s153.2 e1) (K := (k_impl_netSearch__each_1__firstSolution_1 M w vg0 vg1 vg2 vg3 vg4 vg5 vg6 va0x0 vn0x0 vc0x0 vf0x0 va2x0 vn2x0 vc2x0 vf2x0 va4x1 vn4x1 vc4x1 va4x2 vn4x2 vc4x2 va5x0 vn5x0 vc5x0 v_ b0 b2 b4 b5)) ?_ ?_ 0 (b0, b2) o157 _ _ ?_ i3 ?_
 ·rintro k155 s153 a a1 ⟨σ, a9, b1, b3, d0, c2, c3, c4, b7, rfl, hC, hO, hb0, hb1, hb2, hb3, hl4x1, hl4x2, hb4, hl5x0, hb5, hb6, c7, a3⟩ hlt
  refine c_seq ?_
  refine c_sr ?_
  refine pl_val (.int .i64 k155) (y_move rfl) ?_
  refine pl_val (.pointer (some ⟨vg4, 0, none⟩)) (y_load rfl ((box_load Ag120 Sz120 hb3.1 [] [(.pointer (some ⟨vg4, 0, none⟩))] [] rfl rfl (fun _ => rfl)) _ (Chg.refl _ _))) ?_
  refine pl_val (.pointer (some ⟨vg4, 0, none⟩)) (y_nilc rfl) ?_
  refine pl_val (.pointer (some ⟨vg4, 0, none⟩)) (y_faddr rfl Fa146x0) ?_
  refine pl_val (.int .i64 b4.1) (y_load rfl ((box_load Ag3 Sz3 hb4.1 [] [(.int .i64 b4.1)] [(.slice va4x1 vn4x1 vc4x1), (.slice va4x2 vn4x2 vc4x2)] rfl rfl (fun _ => rfl)) _ (Chg.refl _ _))) ?_
  refine pl_val (.bool (decide (k155 < b4.1))) (y_lss rfl rfl) ?_
  refine c_nil ?_
  refine c_condF (congrArg Value.bool (decide_eq_false hlt)) ?_
  refine wp_exit ?_
  have hO := hO.fr3
  have hO := hO.fr3
  have hO := hO.fr3
  have hO := hO.fr3
  exact ⟨rfl, _, a9, b1, b3, d0, c2, c3, c4, b7, fr_ovl 84 trivial, hC, hO, hb0, hb1, hb2, hb3, hl4x1, hl4x2, hb4, hl5x0, hb5, hb6, c7, a3⟩
 ·rintro k155 s153 o157 a a1 ⟨σ, a9, b1, b3, d0, c2, c3, c4, b7, rfl, hC, hO, hb0, hb1, hb2, hb3, hl4x1, hl4x2, hb4, hl5x0, hb5, hb6, c7, a3⟩ hlt hw hs
  refine c_seq ?_
  refine c_sr ?_
  refine pl_val (.int .i64 k155) (y_move rfl) ?_
  refine pl_val (.pointer (some ⟨vg4, 0, none⟩)) (y_load rfl ((box_load Ag120 Sz120 hb3.1 [] [(.pointer (some ⟨vg4, 0, none⟩))] [] rfl rfl (fun _ => rfl)) _ (Chg.refl _ _))) ?_
  refine pl_val (.pointer (some ⟨vg4, 0, none⟩)) (y_nilc rfl) ?_
  refine pl_val (.pointer (some ⟨vg4, 0, none⟩)) (y_faddr rfl Fa146x0) ?_
  refine pl_val (.int .i64 b4.1) (y_load rfl ((box_load Ag3 Sz3 hb4.1 [] [(.int .i64 b4.1)] [(.slice va4x1 vn4x1 vc4x1), (.slice va4x2 vn4x2 vc4x2)] rfl rfl (fun _ => rfl)) _ (Chg.refl _ _))) ?_
  refine pl_val (.bool (decide (k155 < b4.1))) (y_lss rfl rfl) ?_
  refine c_nil ?_
  refine c_condT (congrArg Value.bool (decide_eq_true hlt)) ?_
  refine wp_skip ?_
  refine c_seq ?_
  refine wp_block ?_
  refine c_seq ?_
  refine c_seq ?_
  obtain ⟨s167, i4, hs⟩ := bind_some hs
  refine c_mid (I := fun a h2 => ∃ (σ : Nat → Value), a = fr 84 (ovl σ [(0, (.int .i64 v_)), (1, (.pointer (some ⟨vg0, 0, none⟩))), (3, (.pointer (some ⟨vg3, 0, none⟩))), (4, (.pointer (some ⟨vg5, 0, none⟩))), (5, (.pointer (some ⟨vg6, 0, none⟩))), (8, (.int .i64 k155)), (39, (.bool s167))]) ∧ Chg [] a1 h2) ?_ ?_
  ·replace hs := i4
   have hMid := Chg.refl [] a1
   refine c_region ?_
   refine pl_val (.slice va5x0 vn5x0 vc5x0) (y_load rfl ((box_load Ag41 Sz41 hb5.1 [] [(.slice va5x0 vn5x0 vc5x0)] [] rfl rfl (fun _ => rfl)) _ (Chg.refl _ _))) ?_
   refine pl_val (.int .i64 v_) (y_move rfl) ?_
   obtain ⟨x170, i5, hs⟩ := bind_some hs
   obtain ⟨i6, i7, i9, j0⟩ := rs_idx Sl41 Sz3 hl5x0 i5
   refine pl_val (.pointer (some ⟨i6, i7, none⟩)) (i9 _ _ _ _ _ _ _ _ _ rfl rfl) ?_
   refine pl_val (.int .i64 x170) (y_load rfl ((at_load_int Ag3 Sz3 j0) _ (Chg.refl _ _))) ?_
   refine pl_val (.bool (decide (0 ≤ x170))) (y_geq rfl rfl) ?_
   refine pl_val (.bool (decide (0 ≤ x170))) (y_move rfl) ?_
   rcases bif_some hs with ⟨b6, hs⟩ | ⟨b6, hs⟩
   ·skip
    refine pl_yes (.slice va5x0 vn5x0 vc5x0) (tg := 32) (by kernel_rfl) (congrArg Value.bool b6) (y_load rfl ((box_load Ag41 Sz41 hb5.1 [] [(.slice va5x0 vn5x0 vc5x0)] [] rfl rfl (fun _ => rfl)) _ (Chg.refl _ _))) ?_
    refine pl_yes (.int .i64 v_) (tg := 32) (by kernel_rfl) (congrArg Value.bool b6) (y_move rfl) ?_
    obtain ⟨x173, j1, hs⟩ := bind_some hs
    obtain ⟨j2, j3, j4, j5⟩ := rs_idx Sl41 Sz3 hl5x0 j1
    refine pl_yes (.pointer (some ⟨j2, j3, none⟩)) (tg := 32) (by kernel_rfl) (congrArg Value.bool b6) (j4 _ _ _ _ _ _ _ _ _ rfl rfl) ?_
    refine pl_yes (.int .i64 x173) (tg := 32) (by kernel_rfl) (congrArg Value.bool b6) (y_load rfl ((at_load_int Ag3 Sz3 j5) _ (Chg.refl _ _))) ?_
    refine pl_yes (.int .i64 k155) (tg := 32) (by kernel_rfl) (congrArg Value.bool b6) (y_move rfl) ?_
    refine pl_yes (.bool (x173 != k155)) (tg := 32) (by kernel_rfl) (congrArg Value.bool b6) (y_neq rfl rfl) ?_
    refine pl_val (.bool (x173 != k155)) (y_pick_t (congrArg Value.bool b6) rfl) ?_
    refine c_nil ?_
    cases hs
    exact ⟨_, fr_ovl 84 ⟨rfl, rfl, rfl, rfl, rfl, rfl, rfl, trivial⟩, hMid⟩
   refine pl_not (tg := 32) (by kernel_rfl) (congrArg Value.bool b6) ?_
   refine pl_not (tg := 32) (by kernel_rfl) (congrArg Value.bool b6) ?_
   refine pl_not (tg := 32) (by kernel_rfl) (congrArg Value.bool b6) ?_
   refine pl_not (tg := 32) (by kernel_rfl) (congrArg Value.bool b6) ?_
   refine pl_not (tg := 32) (by kernel_rfl) (congrArg Value.bool b6) ?_
   refine pl_not (tg := 32) (by kernel_rfl) (congrArg Value.bool b6) ?_
   refine pl_val (.bool false) (y_pick_f (congrArg Value.bool b6) rfl) ?_
   refine c_nil ?_
   cases hs
   exact ⟨_, fr_ovl 84 ⟨rfl, rfl, rfl, rfl, rfl, rfl, rfl, trivial⟩, hMid⟩
  rintro e2 h2 ⟨σ, rfl, b8⟩
  have hb0 := hb0.cn b8
  have hb1 := hb1.ext b8
  have hb2 := hb2.cn b8
  have hb3 := hb3.ext b8
  have hl4x1 := hl4x1.ext b8
  have hl4x2 := hl4x2.ext b8
  have hb4 := hb4.ext b8
  have hl5x0 := hl5x0.ext b8
  have hb5 := hb5.ext b8
  have hb6 := hb6.ext b8
  have c7 := c7.ext b8
  have a3 := a3.ext b8
  have hC := hC.ext b8
  have hO := hO.ext b8
  rcases bif_some hs with ⟨f2, hs⟩ | ⟨f2, hs⟩
  ·refine c_condT (congrArg Value.bool f2) ?_
   refine wp_exit ?_
   refine c_region ?_
   refine pl_val (.int .i64 k155) (y_move rfl) ?_
   refine pl_val (.int .i64 (w64 (k155 + 1))) (y_add rfl rfl) ?_
   refine pl_val (.int .i64 (w64 (k155 + 1))) (y_assign rfl) ?_
   refine c_nil ?_
   cases hs
   have hO := hO.fr3
   have hO := hO.fr3
   have hO := hO.fr3
   have hO := hO.fr3
   exact ⟨_, a9, b1, b3, d0, c2, c3, c4, b7, fr_ovl 84 ⟨rfl, rfl, rfl, rfl, rfl, congrArg (Value.int .i64) hw, trivial⟩, hC, hO, hb0, hb1, hb2, hb3, hl4x1, hl4x2, hb4, hl5x0, hb5, hb6, c7, a3⟩
  refine c_condF (congrArg Value.bool f2) ?_
  refine wp_skip ?_
  refine c_sr ?_
  refine pl_val (.slice a9 b1 b3) (y_load rfl ((box_load Ag41 Sz41 hb0 [] [(.slice a9 b1 b3)] [] rfl rfl (fun _ => rfl)) _ (Chg.refl _ _))) ?_
  refine pl_val (.int .i64 v_) (y_move rfl) ?_
  refine pl_val (.int .i64 k155) (y_move rfl) ?_
  obtain ⟨x176, j6, hs⟩ := bind_some hs
  obtain ⟨h3, o2, h4, j7, j8, o3, o4⟩ := os_idx Sl41 Sz3 c7 j6
  refine pl_val (.pointer (some ⟨h3, 0 + Int.toNat v_ * 1, none⟩)) (j8 _ _ _ _ _ _ _ _ _ rfl rfl) ?_
  obtain ⟨j9, c8, k0, b9, k1, a6⟩ := os_store (P := Try.prog) (c' := [(.int .i64 k155)]) h4 c7 j7 (fun g hg => hO.inM g (os_block c7 g (by simpa using hg))) ⟨rfl, rfl⟩ List.nodup_nil (fun _ h => nomatch h) (fun _ h => .inl h)
  have c5 : ∀ q ∈ [h3], q ∈ d0 := fun q hq => os_block c7 q (by rw [h4]; exact hq)
  refine pl_skip (w' := j9) (ys_store rfl rfl (k0 _ _ rfl Sz3)) ?_
  have hb0 := hb0.ap b9 hO c5 (mem_r (mem_l (List.mem_singleton.2 rfl)))
  have hb1 := hb1.mut b9 (fun q hq => hO.inM q (c5 q hq))
  have hb2 := hb2.ap b9 hO c5 (mem_r (mem_r (mem_l (List.mem_singleton.2 rfl))))
  have hb3 := hb3.mut b9 (fun q hq => hO.inM q (c5 q hq))
  have hl4x1 := hl4x1.mt b9 hO c5
  have hl4x2 := hl4x2.mt b9 hO c5
  have hb4 := hb4.mut b9 (fun q hq => hO.inM q (c5 q hq))
  have hl5x0 := hl5x0.mt b9 hO c5
  have hb5 := hb5.mut b9 (fun q hq => hO.inM q (c5 q hq))
  have hb6 := hb6.mut b9 (fun q hq => hO.inM q (c5 q hq))
  have a3 := a3.ma b9 hO c5 (fun _ e => (mem_l (e)))
  have hC := hC.st b9 hO c5
  have hO := hO.grow b9 (fun q hq => .inl ((k1 q hq).resolve_right (fun h => nomatch h))) (os_nodup a6) a6.fpl
  refine c_nil ?_
  refine c_sr ?_
  refine pl_val (.bool true) (y_assign rfl) ?_
  refine c_nil ?_
  refine c_seq ?_
  refine c_sr ?_
  refine pl_val (.pointer (some ⟨vg4, 0, none⟩)) (y_load rfl ((box_load Ag120 Sz120 hb3.1 [] [(.pointer (some ⟨vg4, 0, none⟩))] [] rfl rfl (fun _ => rfl)) _ (Chg.refl _ _))) ?_
  refine pl_val (.pointer (some ⟨vg4, 0, none⟩)) (y_nilc rfl) ?_
  refine pl_val (.pointer (some ⟨vg4, 1, none⟩)) (y_faddr rfl Fa146x1) ?_
  refine pl_val (.slice va4x1 vn4x1 vc4x1) (y_load rfl ((box_load Ag143 Sz143 hb4.1 [(.int .i64 b4.1)] [(.slice va4x1 vn4x1 vc4x1)] [(.slice va4x2 vn4x2 vc4x2)] rfl rfl (fun _ => rfl)) _ (Chg.refl _ _))) ?_
  refine pl_val (.int .i64 v_) (y_move rfl) ?_
  obtain ⟨x179, k2, hs⟩ := bind_some hs
  obtain ⟨k3, k4, k5, k6⟩ := rs_idx Sl143 Sz47 hl4x1 k2
  refine pl_val (.pointer (some ⟨k3, k4, none⟩)) (k5 _ _ _ _ _ _ _ _ _ rfl rfl) ?_
  obtain ⟨o5, k7, a7⟩ := at_load Ag47 Sz47 (fun _ => rfl) k6
  obtain ⟨e3, e4, e5, rfl⟩ := rs_sl a7
  refine pl_val (.slice e3 e4 e5) (y_load rfl (k7 _ (Chg.refl _ _))) ?_
  refine pl_val (.int .i64 (x179.length : Int)) (y_len' Sl47 (rs_len a7) rfl) ?_
  refine pl_val (.int .i64 0) (y_move rfl) ?_
  refine c_nil ?_
  obtain ⟨o206, k8, hs⟩ := bind_some hs
  refine wp_block ?_
  refine wp_forC (id := 2) (x179.length : Int) (I := fun k204 s202 a a0 => ∃ (σ : Nat → Value), a = fr 84 (ovl σ [(0, (.int .i64 v_)), (1, (.pointer (some ⟨vg0, 0, none⟩))), (3, (.pointer (some ⟨vg3, 0, none⟩))), (4, (.pointer (some ⟨vg5, 0, none⟩))), (5, (.pointer (some ⟨vg6, 0, none⟩))), (8, (.int .i64 k155)), (9, (.bool s202)), (50, (.slice e3 e4 e5)), (51, (.int .i64 (x179.length : Int))), (52, (.int .i64 k204))]) ∧ Chg ([vg0] ++ (vf0x0 ++ ([vg2] ++ (vf2x0 ++ ([]))))) w a0 ∧ Own (Nw w ([vg0] ++ (vf0x0 ++ ([vg2] ++ (vf2x0 ++ ([])))))) M a0 (c8 ++ (b7 ++ (([vg0]) ++ (([vg2]) ++ [])))) ∧ BoxV a0 vg0 41 [(.slice a9 b1 b3)] ∧ RBox M a0 vg1 81 [(.func (.func 120) #[] #[(.pointer (some ⟨vg2, 0, none⟩))])] ∧ BoxV a0 vg2 41 [(.slice c2 c3 c4)] ∧ RBox M a0 vg3 120 [(.pointer (some ⟨vg4, 0, none⟩))] ∧ (RT.rs (RT.rs (RT.rs (RT.int .i64)))).val M a0 (.slice va4x1 vn4x1 vc4x1) b4.2.1 ([]) ∧ (RT.rs (RT.rs (RT.mr Value.bool))).val M a0 (.slice va4x2 vn4x2 vc4x2) b4.2.2 ([]) ∧ RBox M a0 vg4 146 [(.int .i64 b4.1), (.slice va4x1 vn4x1 vc4x1), (.slice va4x2 vn4x2 vc4x2)] ∧ (RT.rs (RT.int .i64)).val M a0 (.slice va5x0 vn5x0 vc5x0) b5 ([]) ∧ RBox M a0 vg5 41 [(.slice va5x0 vn5x0 vc5x0)] ∧ RBox M a0 vg6 119 [(.func (.func 132) #[] #[(.pointer (some ⟨vg0, 0, none⟩)), (.pointer (some ⟨vg1, 0, none⟩)), (.pointer (some ⟨vg3, 0, none⟩)), (.pointer (some ⟨vg5, 0, none⟩)), (.pointer (some ⟨vg6, 0, none⟩))])] ∧ (RT.os 3 (RT.int .i64)).val M a0 (.slice a9 b1 b3) (List.set s153.1 (Int.toNat v_) k155) c8 ∧ (RT.nz 3 (RT.int .i64)).val M a0 (.slice c2 c3 c4) s153.2 b7 ∧ (RT.rs (RT.rs (RT.int .i64))).val M a0 (.slice e3 e4 e5) x179 ([])) (J := fun s202 a a0 => ∃ (σ : Nat → Value), a = fr 84 (ovl σ [(0, (.int .i64 v_)), (1, (.pointer (some ⟨vg0, 0, none⟩))), (3, (.pointer (some ⟨vg3, 0, none⟩))), (4, (.pointer (some ⟨vg5, 0, none⟩))), (5, (.pointer (some ⟨vg6, 0, none⟩))), (8, (.int .i64 k155)), (9, (.bool s202))]) ∧ Chg ([vg0] ++ (vf0x0 ++ ([vg2] ++ (vf2x0 ++ ([]))))) w a0 ∧ Own (Nw w ([vg0] ++ (vf0x0 ++ ([vg2] ++ (vf2x0 ++ ([])))))) M a0 (c8 ++ (b7 ++ (([vg0]) ++ (([vg2]) ++ [])))) ∧ BoxV a0 vg0 41 [(.slice a9 b1 b3)] ∧ RBox M a0 vg1 81 [(.func (.func 120) #[] #[(.pointer (some ⟨vg2, 0, none⟩))])] ∧ BoxV a0 vg2 41 [(.slice c2 c3 c4)] ∧ RBox M a0 vg3 120 [(.pointer (some ⟨vg4, 0, none⟩))] ∧ (RT.rs (RT.rs (RT.rs (RT.int .i64)))).val M a0 (.slice va4x1 vn4x1 vc4x1) b4.2.1 ([]) ∧ (RT.rs (RT.rs (RT.mr Value.bool))).val M a0 (.slice va4x2 vn4x2 vc4x2) b4.2.2 ([]) ∧ RBox M a0 vg4 146 [(.int .i64 b4.1), (.slice va4x1 vn4x1 vc4x1), (.slice va4x2 vn4x2 vc4x2)] ∧ (RT.rs (RT.int .i64)).val M a0 (.slice va5x0 vn5x0 vc5x0) b5 ([]) ∧ RBox M a0 vg5 41 [(.slice va5x0 vn5x0 vc5x0)] ∧ RBox M a0 vg6 119 [(.func (.func 132) #[] #[(.pointer (some ⟨vg0, 0, none⟩)), (.pointer (some ⟨vg1, 0, none⟩)), (.pointer (some ⟨vg3, 0, none⟩)), (.pointer (some ⟨vg5, 0, none⟩)), (.pointer (some ⟨vg6, 0, none⟩))])] ∧ (RT.os 3 (RT.int .i64)).val M a0 (.slice a9 b1 b3) (List.set s153.1 (Int.toNat v_) k155) c8 ∧ (RT.nz 3 (RT.int .i64)).val M a0 (.slice c2 c3 c4) s153.2 b7 ∧ (RT.rs (RT.rs (RT.int .i64))).val M a0 (.slice e3 e4 e5) x179 ([])) (K := (k_impl_netSearch__each_1__firstSolution_1 M w vg0 vg1 vg2 vg3 vg4 vg5 vg6 va0x0 vn0x0 vc0x0 vf0x0 va2x0 vn2x0 vc2x0 vf2x0 va4x1 vn4x1 vc4x1 va4x2 vn4x2 vc4x2 va5x0 vn5x0 vc5x0 v_ b0 b2 b4 b5)) ?_ ?_ 0 true o206 _ _ ?_ k8 ?_
  ·rintro k204 s202 a a0 ⟨σ, rfl, hC, hO, hb0, hb1, hb2, hb3, hl4x1, hl4x2, hb4, hl5x0, hb5, hb6, a6, a3, a7⟩ hlt
   refine c_sr ?_
   refine pl_val (.bool (decide (k204 < (x179.length : Int)))) (y_lss rfl rfl) ?_
   refine c_nil ?_
   refine c_seq ?_
   refine c_condF (congrArg Value.bool (decide_eq_false hlt)) ?_
   refine wp_exit ?_
   have hO := hO.fr3
   have hO := hO.fr3
   have hO := hO.fr3
   have hO := hO.fr3
   exact ⟨rfl, _, fr_ovl 84 ⟨rfl, rfl, rfl, rfl, rfl, rfl, rfl, trivial⟩, hC, hO, hb0, hb1, hb2, hb3, hl4x1, hl4x2, hb4, hl5x0, hb5, hb6, a6, a3, a7⟩
  ·rintro k204 s202 o206 a a0 ⟨σ, rfl, hC, hO, hb0, hb1, hb2, hb3, hl4x1, hl4x2, hb4, hl5x0, hb5, hb6, a6, a3, a7⟩ hlt hw hs
   refine c_sr ?_
   refine pl_val (.bool (decide (k204 < (x179.length : Int)))) (y_lss rfl rfl) ?_
   refine c_nil ?_
   refine c_seq ?_
   refine c_condT (congrArg Value.bool (decide_eq_true hlt)) ?_
   refine wp_skip ?_
   refine c_seq ?_
   refine wp_block ?_
   refine c_sr ?_
   refine pl_val (.int .i64 k204) (y_move rfl) ?_
   obtain ⟨x208, k9, hs⟩ := bind_some hs
   obtain ⟨l0, l1, l2, l3⟩ := rs_idx Sl47 Sz41 a7 k9
   refine pl_val (.pointer (some ⟨l0, l1, none⟩)) (l2 _ _ _ _ _ _ _ _ _ rfl rfl) ?_
   obtain ⟨o6, l4, c9⟩ := at_load Ag41 Sz41 (fun _ => rfl) l3
   obtain ⟨f3, f4, f5, rfl⟩ := rs_sl c9
   refine pl_val (.slice f3 f4 f5) (y_load rfl (l4 _ (Chg.refl _ _))) ?_
   refine pl_val (.int .i64 k204) (y_assign rfl) ?_
   refine pl_val (.slice f3 f4 f5) (y_assign rfl) ?_
   refine c_nil ?_
   refine x_start [] Mx rfl ?_
   have a8 := Chg.drew a0
   generalize World.drew a0 = l5 at a8 ⊢
   have hb0 := hb0.cn a8
   have hb1 := hb1.ext a8
   have hb2 := hb2.cn a8
   have hb3 := hb3.ext a8
   have hl4x1 := hl4x1.ext a8
   have hl4x2 := hl4x2.ext a8
   have hb4 := hb4.ext a8
   have hl5x0 := hl5x0.ext a8
   have hb5 := hb5.ext a8
   have hb6 := hb6.ext a8
   have a6 := a6.ext a8
   have a3 := a3.ext a8
   have a7 := a7.ext a8
   have c9 := c9.ext a8
   have hC := hC.ext a8
   have hO := hO.ext a8
   have hS := Chg.refl [] l5
   refine x_p 0 (.bool s202) rfl (by kernel_rfl)  (fun _ => y_move rfl) (fun _ => hS) ?_
   refine x_p 1 (.bool s202) rfl (by kernel_rfl)  (fun _ => y_move rfl) (fun _ => hS) ?_
   rcases bif_some hs with ⟨a2, hs⟩ | ⟨a2, hs⟩
   ·skip
    refine x_ly 2 (.pointer (some ⟨vg4, 0, none⟩)) rfl (by kernel_rfl) (tg := 58) (by kernel_rfl) (congrArg Value.bool a2) (fun w' hw' => y_load rfl ((box_load Ag120 Sz120 hb3.1 [] [(.pointer (some ⟨vg4, 0, none⟩))] [] rfl rfl (fun _ => rfl)) w' hw')) hS ?_
    refine x_py 3 (.pointer (some ⟨vg4, 0, none⟩)) rfl (by kernel_rfl) (tg := 58) (by kernel_rfl) (congrArg Value.bool a2) (fun _ => y_nilc rfl) (fun _ => hS) ?_
    refine x_py 4 (.pointer (some ⟨vg4, 2, none⟩)) rfl (by kernel_rfl) (tg := 58) (by kernel_rfl) (congrArg Value.bool a2) (fun _ => y_faddr rfl Fa146x2) (fun _ => hS) ?_
    refine x_ly 5 (.slice va4x2 vn4x2 vc4x2) rfl (by kernel_rfl) (tg := 58) (by kernel_rfl) (congrArg Value.bool a2) (fun w' hw' => y_load rfl ((box_load Ag144 Sz144 hb4.1 [(.int .i64 b4.1), (.slice va4x1 vn4x1 vc4x1)] [(.slice va4x2 vn4x2 vc4x2)] [] rfl rfl (fun _ => rfl)) w' hw')) hS ?_
    refine x_py 6 (.int .i64 v_) rfl (by kernel_rfl) (tg := 58) (by kernel_rfl) (congrArg Value.bool a2) (fun _ => y_move rfl) (fun _ => hS) ?_
    obtain ⟨x214, l6, hs⟩ := bind_some hs
    obtain ⟨l7, l8, l9, m0⟩ := rs_idx Sl144 Sz147 hl4x2 l6
    refine x_py 7 (.pointer (some ⟨l7, l8, none⟩)) rfl (by kernel_rfl) (tg := 58) (by kernel_rfl) (congrArg Value.bool a2) (fun _ => l9 _ _ _ _ _ _ _ _ _ rfl rfl) (fun _ => hS) ?_
    obtain ⟨o7, m1, d1⟩ := at_load Ag147 Sz147 (fun _ => rfl) m0
    obtain ⟨m2, m3, m4, rfl⟩ := rs_sl d1
    refine x_ly 8 (.slice m2 m3 m4) rfl (by kernel_rfl) (tg := 58) (by kernel_rfl) (congrArg Value.bool a2) (fun w' hw' => y_load rfl (m1 w' hw')) hS ?_
    refine x_py 9 (.int .i64 k204) rfl (by kernel_rfl) (tg := 58) (by kernel_rfl) (congrArg Value.bool a2) (fun _ => y_move rfl) (fun _ => hS) ?_
    obtain ⟨x218, m5, hs⟩ := bind_some hs
    obtain ⟨m6, m7, m8, m9⟩ := rs_idx Sl147 Sz130 d1 m5
    refine x_py 10 (.pointer (some ⟨m6, m7, none⟩)) rfl (by kernel_rfl) (tg := 58) (by kernel_rfl) (congrArg Value.bool a2) (fun _ => m8 _ _ _ _ _ _ _ _ _ rfl rfl) (fun _ => hS) ?_
    obtain ⟨o8, n0, d2⟩ := at_load Ag130 Sz130 (fun _ => rfl) m9
    obtain ⟨n1, rfl⟩ := mr_mp d2
    refine x_ly 11 (.map (some n1)) rfl (by kernel_rfl) (tg := 58) (by kernel_rfl) (congrArg Value.bool a2) (fun w' hw' => y_load rfl (n0 w' hw')) hS ?_
    refine x_py 12 (.slice f3 f4 f5) rfl (by kernel_rfl) (tg := 58) (by kernel_rfl) (congrArg Value.bool a2) (fun _ => y_move rfl) (fun _ => hS) ?_
    refine x_ly 13 (.slice a9 b1 b3) rfl (by kernel_rfl) (tg := 58) (by kernel_rfl) (congrArg Value.bool a2) (fun w' hw' => y_load rfl ((box_load Ag41 Sz41 hb0 [] [(.slice a9 b1 b3)] [] rfl rfl (fun _ => rfl)) w' hw')) hS ?_
    refine x_one (i := 14) (by kernel_rfl) ?_
    obtain ⟨r223, n2, hs⟩ := bind_some hs
    refine xk_cally (b := false) rfl (tg := 58) (by kernel_rfl) (congrArg Value.bool a2) Bd81 rfl (c_impl_compose (M := (Less M c8)) x208 (List.set s153.1 (Int.toNat v_) k155) (c9.sub Less.sub) (((Frz.os Frz.int)).val a6 Less.sub Less.not) hO.less.fut n2) rfl (by rintro _ _ _ ⟨n3, n4, n5, f6, rfl, a5, d3, h5⟩; exact hS.ext a5) ?_
    rintro _ o9 ⟨n3, n4, n5, f6, rfl, a5, d3, h5⟩
    have hb0 := hb0.cn a5
    have hb1 := hb1.ext a5
    have hb2 := hb2.cn a5
    have hb3 := hb3.ext a5
    have hl4x1 := hl4x1.ext a5
    have hl4x2 := hl4x2.ext a5
    have hb4 := hb4.ext a5
    have hl5x0 := hl5x0.ext a5
    have hb5 := hb5.ext a5
    have hb6 := hb6.ext a5
    have a6 := a6.ext a5
    have a3 := a3.ext a5
    have a7 := a7.ext a5
    have c9 := c9.ext a5
    have d1 := d1.ext a5
    have d2 := d2.ext a5
    have hC := hC.ext a5
    have hO := Own.join0 hO a5 h5
    have hO := hO.perm (R := f6 ++ (c8 ++ (b7 ++ (([vg0]) ++ (([vg2]) ++ ([])))))) (by simp)
    have d3 := d3.free (M' := M) (Free.os Free.int)
    have hS := hS.ext a5
    refine x_one (i := 15) (by kernel_rfl) ?_
    obtain ⟨r226, n6, hs⟩ := bind_some hs
    refine xk_cally (b := false) rfl (tg := 58) (by kernel_rfl) (congrArg Value.bool a2) Bd112 rfl (c_impl_keyOf (M := (Less M f6)) r223 (((Frz.os Frz.int)).val d3 Less.sub Less.not) hO.less.fut n6) rfl (by rintro _ _ _ ⟨rfl, a4⟩; exact hS.ext a4) ?_
    rintro _ p0 ⟨rfl, a4⟩
    have hb0 := hb0.cn a4
    have hb1 := hb1.ext a4
    have hb2 := hb2.cn a4
    have hb3 := hb3.ext a4
    have hl4x1 := hl4x1.ext a4
    have hl4x2 := hl4x2.ext a4
    have hb4 := hb4.ext a4
    have hl5x0 := hl5x0.ext a4
    have hb5 := hb5.ext a4
    have hb6 := hb6.ext a4
    have a6 := a6.ext a4
    have a3 := a3.ext a4
    have a7 := a7.ext a4
    have c9 := c9.ext a4
    have d1 := d1.ext a4
    have d2 := d2.ext a4
    have d3 := d3.ext a4
    have hC := hC.ext a4
    have hO := hO.ext a4
    have hS := hS.ext a4
    refine x_one (i := 16) (by kernel_rfl) ?_
    refine xk_valy (b := false) (.bool ((mget x218 r226).getD false)) rfl (tg := 58) (by kernel_rfl) (congrArg Value.bool a2) (y_look (enc := Value.bool) Try.underlying130 Try.underlying9 Zv4 (mr_at d2) rfl rfl) rfl (fun _ => hS) ?_
    refine x_p 17 (.bool ((mget x218 r226).getD false)) rfl (by kernel_rfl)  (fun _ => y_pick_t (congrArg Value.bool a2) rfl) (fun _ => hS) ?_
    refine x_p 18 (.bool ((mget x218 r226).getD false)) rfl (by kernel_rfl)  (fun _ => y_assign rfl) (fun _ => hS) ?_
    refine x_end (by kernel_rfl) ?_
    clear hS
    refine c_region ?_
    refine pl_val (.int .i64 (w64 (k204 + 1))) (y_add rfl rfl) ?_
    refine pl_val (.int .i64 (w64 (k204 + 1))) (y_move rfl) ?_
    refine c_nil ?_
    cases hs
    have hO := hO.drop
    have hO := hO.fr3
    have hO := hO.fr3
    have hO := hO.fr3
    have hO := hO.fr3
    exact ⟨_, fr_ovl 84 ⟨rfl, rfl, rfl, rfl, rfl, rfl, rfl, rfl, rfl, congrArg (Value.int .i64) hw, trivial⟩, hC, hO, hb0, hb1, hb2, hb3, hl4x1, hl4x2, hb4, hl5x0, hb5, hb6, a6, a3, a7⟩
   refine x_pn 2 rfl (by kernel_rfl) (tg := 58) (by kernel_rfl) (congrArg Value.bool a2) (fun _ => hS) ?_
   refine x_pn 3 rfl (by kernel_rfl) (tg := 58) (by kernel_rfl) (congrArg Value.bool a2) (fun _ => hS) ?_
   refine x_pn 4 rfl (by kernel_rfl) (tg := 58) (by kernel_rfl) (congrArg Value.bool a2) (fun _ => hS) ?_
   refine x_pn 5 rfl (by kernel_rfl) (tg := 58) (by kernel_rfl) (congrArg Value.bool a2) (fun _ => hS) ?_
   refine x_pn 6 rfl (by kernel_rfl) (tg := 58) (by kernel_rfl) (congrArg Value.bool a2) (fun _ => hS) ?_
   refine x_pn 7 rfl (by kernel_rfl) (tg := 58) (by kernel_rfl) (congrArg Value.bool a2) (fun _ => hS) ?_
   refine x_pn 8 rfl (by kernel_rfl) (tg := 58) (by kernel_rfl) (congrArg Value.bool a2) (fun _ => hS) ?_
   refine x_pn 9 rfl (by kernel_rfl) (tg := 58) (by kernel_rfl) (congrArg Value.bool a2) (fun _ => hS) ?_
   refine x_pn 10 rfl (by kernel_rfl) (tg := 58) (by kernel_rfl) (congrArg Value.bool a2) (fun _ => hS) ?_
   refine x_pn 11 rfl (by kernel_rfl) (tg := 58) (by kernel_rfl) (congrArg Value.bool a2) (fun _ => hS) ?_
   refine x_pn 12 rfl (by kernel_rfl) (tg := 58) (by kernel_rfl) (congrArg Value.bool a2) (fun _ => hS) ?_
   refine x_pn 13 rfl (by kernel_rfl) (tg := 58) (by kernel_rfl) (congrArg Value.bool a2) (fun _ => hS) ?_
   refine x_pn 14 rfl (by kernel_rfl) (tg := 58) (by kernel_rfl) (congrArg Value.bool a2) (fun _ => hS) ?_
   refine x_pn 15 rfl (by kernel_rfl) (tg := 58) (by kernel_rfl) (congrArg Value.bool a2) (fun _ => hS) ?_
   refine x_pn 16 rfl (by kernel_rfl) (tg := 58) (by kernel_rfl) (congrArg Value.bool a2) (fun _ => hS) ?_
   refine x_p 17 (.bool false) rfl (by kernel_rfl)  (fun _ => y_pick_f (congrArg Value.bool a2) rfl) (fun _ => hS) ?_
   refine x_p 18 (.bool false) rfl (by kernel_rfl)  (fun _ => y_assign rfl) (fun _ => hS) ?_
   refine x_end (by kernel_rfl) ?_
   clear hS
   refine c_region ?_
   refine pl_val (.int .i64 (w64 (k204 + 1))) (y_add rfl rfl) ?_
   refine pl_val (.int .i64 (w64 (k204 + 1))) (y_move rfl) ?_
   refine c_nil ?_
   cases hs
   have hO := hO.fr3
   have hO := hO.fr3
   have hO := hO.fr3
   have hO := hO.fr3
   exact ⟨_, fr_ovl 84 ⟨rfl, rfl, rfl, rfl, rfl, rfl, rfl, rfl, rfl, congrArg (Value.int .i64) hw, trivial⟩, hC, hO, hb0, hb1, hb2, hb3, hl4x1, hl4x2, hb4, hl5x0, hb5, hb6, a6, a3, a7⟩
  ·skip
   have hO := hO.fr3
   have hO := hO.fr3
   have hO := hO.fr3
   have hO := hO.fr3
   exact ⟨_, fr_ovl 84 ⟨rfl, rfl, rfl, rfl, rfl, rfl, rfl, rfl, rfl, rfl, trivial⟩, hC, hO, hb0, hb1, hb2, hb3, hl4x1, hl4x2, hb4, hl5x0, hb5, hb6, a6, a3, a7⟩
  cases o206 with
  | nx _ => exact True.intro
  | rt r_ =>
   have hs := after_rt hs
   intro e2 g6 hK
   cases hs
   exact hK
  | br s202 =>
   have hs := after_br hs
   rintro e2 a0 ⟨σ, rfl, hC, hO, hb0, hb1, hb2, hb3, hl4x1, hl4x2, hb4, hl5x0, hb5, hb6, a6, a3, a7⟩
   refine c_sr ?_
   refine pl_val (.bool s202) (y_move rfl) ?_
   refine pl_val (.bool s202) (y_move rfl) ?_
   rcases bif_some hs with ⟨c0, hs⟩ | ⟨c0, hs⟩
   ·skip
    refine pl_yes (.func (.func 132) #[] #[(.pointer (some ⟨vg0, 0, none⟩)), (.pointer (some ⟨vg1, 0, none⟩)), (.pointer (some ⟨vg3, 0, none⟩)), (.pointer (some ⟨vg5, 0, none⟩)), (.pointer (some ⟨vg6, 0, none⟩))]) (tg := 77) (by kernel_rfl) (congrArg Value.bool c0) (y_load rfl ((box_load Ag119 Sz119 hb6.1 [] [(.func (.func 132) #[] #[(.pointer (some ⟨vg0, 0, none⟩)), (.pointer (some ⟨vg1, 0, none⟩)), (.pointer (some ⟨vg3, 0, none⟩)), (.pointer (some ⟨vg5, 0, none⟩)), (.pointer (some ⟨vg6, 0, none⟩))])] [] rfl rfl (fun _ => rfl)) _ (Chg.refl _ _))) ?_
    refine pl_yes (.int .i64 v_) (tg := 77) (by kernel_rfl) (congrArg Value.bool c0) (y_move rfl) ?_
    refine pl_yes (.int .i64 (w64 (v_ + 1))) (tg := 77) (by kernel_rfl) (congrArg Value.bool c0) (y_add rfl rfl) ?_
    have hO := hO.fr1
    have hO := hO.fr3
    have hO := hO.fr2
    have hO := hO.fr3
    have n7 := hO
    have h6 := Own.lend (F := (([vg0]) ++ (c8 ++ (([vg2]) ++ (b7 ++ ([])))))) (R := []) (Own.perm (n7) (by simp))
    obtain ⟨r229, n8, hs⟩ := bind_some hs
    refine pl_callby (tg := 77) (by kernel_rfl) (congrArg Value.bool c0) rfl Bd132 rfl (c_ih (M := M) (w64 (v_ + 1)) (List.set s153.1 (Int.toNat v_) k155) s153.2 (b4.1, b4.2.1, b4.2.2) b5 (show BoxV _ vg0 41 [(.slice a9 b1 b3)] from hb0) a6 (show RBox M _ vg1 81 [(.func (.func 120) #[] #[(.pointer (some ⟨vg2, 0, none⟩))])] from hb1) (show BoxV _ vg2 41 [(.slice c2 c3 c4)] from hb2) a3 (show RBox M _ vg3 120 [(.pointer (some ⟨vg4, 0, none⟩))] from hb3) (show RBox M _ vg4 146 [(.int .i64 b4.1), (.slice va4x1 vn4x1 vc4x1), (.slice va4x2 vn4x2 vc4x2)] from hb4) hl4x1 hl4x2 (show RBox M _ vg5 41 [(.slice va5x0 vn5x0 vc5x0)] from hb5) hl5x0 (show RBox M _ vg6 119 [(.func (.func 132) #[] #[(.pointer (some ⟨vg0, 0, none⟩)), (.pointer (some ⟨vg1, 0, none⟩)), (.pointer (some ⟨vg3, 0, none⟩)), (.pointer (some ⟨vg5, 0, none⟩)), (.pointer (some ⟨vg6, 0, none⟩))])] from hb6) h6 h6.fut n8) ?_
    rintro _ h7 ⟨f7, f8, f9, g0, g1, g2, g3, g4, rfl, c6, e6, h8, e7, h9, n9⟩
    have hO := hO.fr3
    have hO := hO.fr3
    have hO := hO.fr3
    have hO := hO.fr3
    have hO := hO.perm (R := (([vg0]) ++ (c8 ++ (([vg2]) ++ (b7 ++ ([]))))) ++ ([])) (by simp)
    have hb1 := hb1.mut c6 (fun q hq => hO.inM q ((fun _ h => h) q hq))
    have hb3 := hb3.mut c6 (fun q hq => hO.inM q ((fun _ h => h) q hq))
    have hl4x1 := hl4x1.mt c6 hO same_
    have hl4x2 := hl4x2.mt c6 hO same_
    have hb4 := hb4.mut c6 (fun q hq => hO.inM q ((fun _ h => h) q hq))
    have hl5x0 := hl5x0.mt c6 hO same_
    have hb5 := hb5.mut c6 (fun q hq => hO.inM q ((fun _ h => h) q hq))
    have hb6 := hb6.mut c6 (fun q hq => hO.inM q ((fun _ h => h) q hq))
    have a7 := a7.mt c6 hO same_
    have hC := hC.st c6 hO same_
    have hO := Own.join hO c6 n9
    have hO := hO.perm (R := [vg0] ++ (g0 ++ ([vg2] ++ (g4 ++ ([]))))) (by simp)
    have e6 : BoxV h7 vg0 41 [(.slice f7 f8 f9)] := e6
    have e7 : BoxV h7 vg2 41 [(.slice g1 g2 g3)] := e7
    refine pl_yes (.bool (!r229.1)) (tg := 77) (by kernel_rfl) (congrArg Value.bool c0) (y_not rfl) ?_
    refine pl_val (.bool (!r229.1)) (y_pick_t (congrArg Value.bool c0) rfl) ?_
    refine c_nil ?_
    rcases bif_some hs with ⟨g5, hs⟩ | ⟨g5, hs⟩
    ·refine c_condT (congrArg Value.bool g5) ?_
     refine c_sr ?_
     refine pl_val (.bool false) (y_assign rfl) ?_
     refine c_nil ?_
     refine wp_ret ?_
     cases hs
     have hO := hO.fr3
     have hO := hO.fr3
     have hO := hO.fr3
     have hO := hO.fr3
     exact ⟨_, f7, f8, f9, g0, g1, g2, g3, g4, fr_ovl 84 ⟨rfl, trivial⟩, hC, e6, h8, e7, h9, hO.top⟩
    refine c_condF (congrArg Value.bool g5) ?_
    refine wp_skip ?_
    refine c_region ?_
    refine pl_val (.int .i64 k155) (y_move rfl) ?_
    refine pl_val (.int .i64 (w64 (k155 + 1))) (y_add rfl rfl) ?_
    refine pl_val (.int .i64 (w64 (k155 + 1))) (y_assign rfl) ?_
    refine c_nil ?_
    cases hs
    have hO := hO.fr2
    have hO := hO.fr1
    have hO := hO.fr3
    have hO := hO.fr3
    exact ⟨_, f7, f8, f9, g0, g1, g2, g3, g4, fr_ovl 84 ⟨rfl, rfl, rfl, rfl, rfl, congrArg (Value.int .i64) hw, trivial⟩, hC, hO, e6, hb1, e7, hb3, hl4x1, hl4x2, hb4, hl5x0, hb5, hb6, h8, h9⟩
   refine pl_not (tg := 77) (by kernel_rfl) (congrArg Value.bool c0) ?_
   refine pl_not (tg := 77) (by kernel_rfl) (congrArg Value.bool c0) ?_
   refine pl_not (tg := 77) (by kernel_rfl) (congrArg Value.bool c0) ?_
   refine pl_not (tg := 77) (by kernel_rfl) (congrArg Value.bool c0) ?_
   refine pl_not (tg := 77) (by kernel_rfl) (congrArg Value.bool c0) ?_
   refine pl_val (.bool false) (y_pick_f (congrArg Value.bool c0) rfl) ?_
   refine c_nil ?_
   refine c_condF (by rfl) ?_
   refine wp_skip ?_
   refine c_region ?_
   refine pl_val (.int .i64 k155) (y_move rfl) ?_
   refine pl_val (.int .i64 (w64 (k155 + 1))) (y_add rfl rfl) ?_
   refine pl_val (.int .i64 (w64 (k155 + 1))) (y_assign rfl) ?_
   refine c_nil ?_
   cases hs
   have hO := hO.fr3
   have hO := hO.fr3
   have hO := hO.fr3
   have hO := hO.fr3
   exact ⟨_, a9, b1, b3, c8, c2, c3, c4, b7, fr_ovl 84 ⟨rfl, rfl, rfl, rfl, rfl, congrArg (Value.int .i64) hw, trivial⟩, hC, hO, hb0, hb1, hb2, hb3, hl4x1, hl4x2, hb4, hl5x0, hb5, hb6, a6, a3⟩
 ·skip
  have hO := hO.fr2
  have hO := hO.fr1
  have hO := hO.fr3
  have hO := hO.fr3
  exact ⟨_, va0x0, vn0x0, vc0x0, vf0x0, va2x0, vn2x0, vc2x0, vf2x0, fr_ovl 84 ⟨rfl, rfl, rfl, rfl, rfl, rfl, trivial⟩, hC, hO, hb0, hb1, hb2, hb3, hl4x1, hl4x2, hb4, hl5x0, hb5, hb6, hl0x0, hl2x0⟩
 cases o157 with
 | nx _ => exact True.intro
 | rt r_ =>
  have hs := after_rt hs
  intro e2 g6 hK
  cases hs
  exact hK
 | br s153 =>
  have hs := after_br hs
  rintro e2 a1 ⟨σ, d4, d5, d6, d7, d8, d9, e0, e1, rfl, hC, hO, hb0, hb1, hb2, hb3, hl4x1, hl4x2, hb4, hl5x0, hb5, hb6, o0, o1⟩
  refine c_sr ?_
  refine pl_val (.bool true) (y_assign rfl) ?_
  refine c_nil ?_
  refine wp_ret ?_
  cases hs
  have hO := hO.fr1
  have hO := hO.fr3
  have hO := hO.fr2
  have hO := hO.fr3
  exact ⟨_, d4, d5, d6, d7, d8, d9, e0, e1, fr_ovl 84 ⟨rfl, trivial⟩, hC, hb0, o0, hb2, o1, hO.top⟩

def k_impl_netSearch__each__firstSolution_1 (M : Nat → Prop) (w0 : World) (vg0 : Nat) (vg1 : Nat) (pa0 : Option Addr) (pn0 pc0 : Nat) (va0x1 : Option Addr) (vn0x1 vc0x1 : Nat) (va0x2 : Option Addr) (vn0x2 vc0x2 : Nat) (va1x0 : Option Addr) (vn1x0 vc1x0 : Nat) (vf1x0 : List Nat) (partial_ : List Int) (b0 : Int × (List (List (List Int))) × (List (List (List (ByteArray × Bool))))) (b1 : (Option (List Int))) (r : (Option (List Int))) (a : Act) (w : World) : Prop :=
  ∃ (σ : Nat → Value) (oa1x0 : Option Addr) (on1x0 : Nat) (oc1x0 : Nat) (of1x0 : List Nat), a = fr 14 (ovl σ []) ∧ Chg ([vg1] ++ (vf1x0 ++ ([]))) w0 w ∧ BoxV w vg1 41 [(.slice oa1x0 on1x0 oc1x0)] ∧ (RT.nz 3 (RT.int .i64)).val M w (.slice oa1x0 on1x0 oc1x0) r of1x0 ∧ Own (Nw w0 ([vg1] ++ (vf1x0 ++ ([])))) (fun _ => True) w ([vg1] ++ (of1x0 ++ ([])))
def s_impl_netSearch__each__firstSolution_1 (partial_ : List Int) (b0 : Int × (List (List (List Int))) × (List (List (List (ByteArray × Bool))))) (b1 : (Option (List Int))) : Option ((Option (List Int))) :=
  (mks (partial_.length : Int) (0 : Int)).bind fun y11 =>
  (s_impl_netSearch__each_1__firstSolution_1 FU 0 y11 b1 (b0.1, b0.2.1, b0.2.2) partial_).bind fun r18 =>
  some r18.2.2
set_option maxHeartbeats 4000000 in
theorem c_impl_netSearch__each__firstSolution_1 {M : Nat → Prop} {w : World} {vg0 : Nat} {vg1 : Nat} {pa0 : Option Addr} {pn0 pc0 : Nat} {va0x1 : Option Addr} {vn0x1 vc0x1 : Nat} {va0x2 : Option Addr} {vn0x2 vc0x2 : Nat} {va1x0 : Option Addr} {vn1x0 vc1x0 : Nat} {vf1x0 : List Nat} (partial_ : List Int) (b0 : Int × (List (List (List Int))) × (List (List (List (ByteArray × Bool))))) (b1 : (Option (List Int))) (h0 : (RT.rs (RT.int .i64)).val M w (.slice pa0 pn0 pc0) partial_ ([])) (hb0 : RBox M w vg0 146 [(.int .i64 b0.1), (.slice va0x1 vn0x1 vc0x1), (.slice va0x2 vn0x2 vc0x2)]) (hl0x1 : (RT.rs (RT.rs (RT.rs (RT.int .i64)))).val M w (.slice va0x1 vn0x1 vc0x1) b0.2.1 ([])) (hl0x2 : (RT.rs (RT.rs (RT.mr Value.bool))).val M w (.slice va0x2 vn0x2 vc0x2) b0.2.2 ([])) (hb1 : BoxV w vg1 41 [(.slice va1x0 vn1x0 vc1x0)]) (hl1x0 : (RT.nz 3 (RT.int .i64)).val M w (.slice va1x0 vn1x0 vc1x0) b1 vf1x0) (hI : Own (Nw w ([vg1] ++ (vf1x0 ++ ([])))) M w ([vg1] ++ (vf1x0 ++ ([])))) (hM : ∀ g, w.heap.size ≤ g → M g) {r : (Option (List Int))} (hs : s_impl_netSearch__each__firstSolution_1 partial_ b0 b1 = some r) :
    Gives Try.prog 105 [(.pointer (some ⟨vg0, 0, none⟩)), (.slice pa0 pn0 pc0), (.func (.func 120) #[] #[(.pointer (some ⟨vg1, 0, none⟩))])] w (fun v w' => ∃ (oa1x0 : Option Addr) (on1x0 : Nat) (oc1x0 : Nat) (of1x0 : List Nat), v = (.tuple #[]) ∧ Chg ([vg1] ++ (vf1x0 ++ ([]))) w w' ∧ BoxV w' vg1 41 [(.slice oa1x0 on1x0 oc1x0)] ∧ (RT.nz 3 (RT.int .i64)).val M w' (.slice oa1x0 on1x0 oc1x0) r of1x0 ∧ Own (Nw w ([vg1] ++ (vf1x0 ++ ([])))) (fun _ => True) w' ([vg1] ++ (of1x0 ++ ([])))) := by
 refine calls_fr Try.func105 rfl Try.ntmps105 (Nat.le_of_ble_eq_true rfl) ?_
 have hO := hI
 have hC := Chg.refl ([vg1] ++ (vf1x0 ++ ([]))) w
 unfold s_impl_netSearch__each__firstSolution_1 at hs
 refine wp_mono (Q := KPostN (k_impl_netSearch__each__firstSolution_1 M w vg0 vg1 pa0 pn0 pc0 va0x1 vn0x1 vc0x1 va0x2 vn0x2 vc0x2 va1x0 vn1x0 vc1x0 vf1x0 partial_ b0 b1 r)) ?_ (fun e a g8 h => ?_)
 rotate_left
 ·cases e
  case ret =>
   obtain ⟨σ, oa1x0, on1x0, oc1x0, of1x0, rfl, hrest⟩ := h
   exact ret0x Try.results105  ⟨oa1x0, on1x0, oc1x0, of1x0, rfl, hrest⟩
  case normal =>
   obtain ⟨σ, oa1x0, on1x0, oc1x0, of1x0, rfl, hrest⟩ := h
   exact ret0n Try.results105  ⟨oa1x0, on1x0, oc1x0, of1x0, rfl, hrest⟩
  all_goals exact (h : False).elim
 refine c_sr ?_
 obtain ⟨c9, a3, f0, d0, c0, a0⟩ := new_block w [(.pointer (some ⟨vg0, 0, none⟩))] 120
 refine pl_val (w' := c9) (.pointer (some ⟨a3, 0, none⟩)) (y_box rfl (by rw [f0, d0]; kernel_rfl)) ?_
 have h0 := h0.ext c0
 have hl0x1 := hl0x1.ext c0
 have hl0x2 := hl0x2.ext c0
 have hb0 := hb0.ext c0
 have hl1x0 := hl1x0.ext c0
 have hb1 := hb1.cn c0
 have hC := hC.ext c0
 have hO := hO.new1 c0 d0 a0.lt
 obtain ⟨d1, a4, f1, d2, b8, a1⟩ := new_block c9 [(.slice pa0 pn0 pc0)] 41
 refine pl_val (w' := d1) (.pointer (some ⟨a4, 0, none⟩)) (y_box rfl (by rw [f1, d2]; kernel_rfl)) ?_
 have h0 := h0.ext b8
 have hl0x1 := hl0x1.ext b8
 have hl0x2 := hl0x2.ext b8
 have hb0 := hb0.ext b8
 have hl1x0 := hl1x0.ext b8
 have hb1 := hb1.cn b8
 have a0 := a0.cn b8
 have hC := hC.ext b8
 have hO := hO.new1 b8 d2 a1.lt
 obtain ⟨d3, a5, f2, d4, b6, a6⟩ := new_block d1 [(.func (.func 120) #[] #[(.pointer (some ⟨vg1, 0, none⟩))])] 81
 refine pl_val (w' := d3) (.pointer (some ⟨a5, 0, none⟩)) (y_box rfl (by rw [f2, d4]; kernel_rfl)) ?_
 have h0 := h0.ext b6
 have hl0x1 := hl0x1.ext b6
 have hl0x2 := hl0x2.ext b6
 have hb0 := hb0.ext b6
 have hl1x0 := hl1x0.ext b6
 have hb1 := hb1.cn b6
 have a0 := a0.cn b6
 have a1 := a1.cn b6
 have hC := hC.ext b6
 have hO := hO.new1 b6 d4 a6.lt
 refine c_nil ?_
 refine c_sr ?_
 refine pl_val (.slice pa0 pn0 pc0) (y_load rfl ((box_load Ag41 Sz41 a1 [] [(.slice pa0 pn0 pc0)] [] rfl rfl (fun _ => rfl)) _ (Chg.refl _ _))) ?_
 refine pl_val (.int .i64 (partial_.length : Int)) (y_len' Sl41 (rs_len h0) rfl) ?_
 obtain ⟨y11, f3, hs⟩ := bind_some hs
 obtain ⟨c3, c4, c5, d5, d6, f4, b4, f5, b5⟩ := mk_os (M := M) (w := d3) (r := (RT.int .i64)) Rw41 f3 (fun _ _ => ⟨rfl, rfl⟩)
 refine pl_val (w' := d5) (.slice c3 c4 c5) (y_make rfl rfl f4) ?_
 have h0 := h0.ext b4
 have hl0x1 := hl0x1.ext b4
 have hl0x2 := hl0x2.ext b4
 have hb0 := hb0.ext b4
 have hl1x0 := hl1x0.ext b4
 have hb1 := hb1.cn b4
 have a0 := a0.cn b4
 have a1 := a1.cn b4
 have a6 := a6.cn b4
 have hC := hC.ext b4
 have hO := hO.new b4 f5 (os_nodup b5) b5.fpl
 obtain ⟨f6, a7, f7, d7, b2, d8⟩ := new_block d5 [(.slice none 0 0)] 41
 refine pl_val (w' := f6) (.pointer (some ⟨a7, 0, none⟩)) (y_alloc (by rw [f7, d7]; kernel_rfl)) ?_
 have h0 := h0.ext b2
 have hl0x1 := hl0x1.ext b2
 have hl0x2 := hl0x2.ext b2
 have hb0 := hb0.ext b2
 have hl1x0 := hl1x0.ext b2
 have hb1 := hb1.cn b2
 have a0 := a0.cn b2
 have a1 := a1.cn b2
 have a6 := a6.cn b2
 have b5 := b5.ext b2
 have hC := hC.ext b2
 have hO := hO.new1 b2 d7 d8.lt
 obtain ⟨c6, f8, b3, c1⟩ := box_store (P := Try.prog) d8 [] [(.slice none 0 0)] [] [(.slice c3 c4 c5)] rfl rfl (by intro u hu; simp only [List.mem_cons, List.not_mem_nil, or_false] at hu; rcases hu with rfl <;> rfl)
 refine pl_skip (w' := c6) (ys_store rfl rfl (f8 _ _ rfl Sz41)) ?_
 have h0 := h0.mt b3 hO same_
 have hl0x1 := hl0x1.mt b3 hO same_
 have hl0x2 := hl0x2.mt b3 hO same_
 have hb0 := hb0.mut b3 (fun q hq => hO.inM q ((fun _ h => h) q hq))
 have hl1x0 := hl1x0.ma b3 hO same_ (fun _ e => (mem_r (mem_r (mem_r (mem_r (mem_r (mem_l (e))))))))
 have hb1 := hb1.ap b3 hO same_ (mem_r (mem_r (mem_r (mem_r (mem_l (List.mem_singleton.2 rfl))))))
 have a0 := a0.ap b3 hO same_ (mem_r (mem_r (mem_r (mem_l (List.mem_singleton.2 rfl)))))
 have a1 := a1.ap b3 hO same_ (mem_r (mem_r (mem_l (List.mem_singleton.2 rfl))))
 have a6 := a6.ap b3 hO same_ (mem_r (mem_l (List.mem_singleton.2 rfl)))
 have b5 := b5.ma b3 hO same_ (fun _ e => (mem_l (e)))
 have hC := hC.st b3 hO same_
 have hO := hO.ext b3
 have c1 : BoxV c6 a7 41 [(.slice c3 c4 c5)] := c1
 refine c_nil ?_
 refine c_sr ?_
 obtain ⟨f9, a2, g0, d9, a8, e0⟩ := new_block c6 [.nilFunc] 119
 refine pl_val (w' := f9) (.pointer (some ⟨a2, 0, none⟩)) (y_alloc (by rw [g0, d9]; kernel_rfl)) ?_
 have h0 := h0.ext a8
 have hl0x1 := hl0x1.ext a8
 have hl0x2 := hl0x2.ext a8
 have hb0 := hb0.ext a8
 have hl1x0 := hl1x0.ext a8
 have hb1 := hb1.cn a8
 have a0 := a0.cn a8
 have a1 := a1.cn a8
 have a6 := a6.cn a8
 have b5 := b5.ext a8
 have c1 := c1.cn a8
 have hC := hC.ext a8
 have hO := hO.new1 a8 d9 e0.lt
 refine c_nil ?_
 refine c_sr ?_
 refine pl_val (.func (.func 132) #[] #[(.pointer (some ⟨a7, 0, none⟩)), (.pointer (some ⟨a5, 0, none⟩)), (.pointer (some ⟨a3, 0, none⟩)), (.pointer (some ⟨a4, 0, none⟩)), (.pointer (some ⟨a2, 0, none⟩))]) (y_func rfl rfl) ?_
 obtain ⟨e1, g1, a9, c2⟩ := box_store (P := Try.prog) e0 [] [.nilFunc] [] [(.func (.func 132) #[] #[(.pointer (some ⟨a7, 0, none⟩)), (.pointer (some ⟨a5, 0, none⟩)), (.pointer (some ⟨a3, 0, none⟩)), (.pointer (some ⟨a4, 0, none⟩)), (.pointer (some ⟨a2, 0, none⟩))])] rfl rfl (by intro u hu; simp only [List.mem_cons, List.not_mem_nil, or_false] at hu; rcases hu with rfl <;> rfl)
 refine pl_skip (w' := e1) (ys_store rfl rfl (g1 _ _ rfl Sz119)) ?_
 have h0 := h0.mt a9 hO same_
 have hl0x1 := hl0x1.mt a9 hO same_
 have hl0x2 := hl0x2.mt a9 hO same_
 have hb0 := hb0.mut a9 (fun q hq => hO.inM q ((fun _ h => h) q hq))
 have hl1x0 := hl1x0.ma a9 hO same_ (fun _ e => (mem_r (mem_r (mem_r (mem_r (mem_r (mem_r (mem_l (e)))))))))
 have hb1 := hb1.ap a9 hO same_ (mem_r (mem_r (mem_r (mem_r (mem_r (mem_l (List.mem_singleton.2 rfl)))))))
 have a0 := a0.ap a9 hO same_ (mem_r (mem_r (mem_r (mem_r (mem_l (List.mem_singleton.2 rfl))))))
 have a1 := a1.ap a9 hO same_ (mem_r (mem_r (mem_r (mem_l (List.mem_singleton.2 rfl)))))
 have a6 := a6.ap a9 hO same_ (mem_r (mem_r (mem_l (List.mem_singleton.2 rfl))))
 have b5 := b5.ma a9 hO same_ (fun _ e => (mem_r (mem_l (e))))
 have c1 := c1.ap a9 hO same_ (mem_l (List.mem_singleton.2 rfl))
 have hC := hC.st a9 hO same_
 have hO := hO.ext a9
 have c2 : BoxV e1 a2 119 [(.func (.func 132) #[] #[(.pointer (some ⟨a7, 0, none⟩)), (.pointer (some ⟨a5, 0, none⟩)), (.pointer (some ⟨a3, 0, none⟩)), (.pointer (some ⟨a4, 0, none⟩)), (.pointer (some ⟨a2, 0, none⟩))])] := c2
 refine c_nil ?_
 refine c_region ?_
 refine pl_val (.func (.func 132) #[] #[(.pointer (some ⟨a7, 0, none⟩)), (.pointer (some ⟨a5, 0, none⟩)), (.pointer (some ⟨a3, 0, none⟩)), (.pointer (some ⟨a4, 0, none⟩)), (.pointer (some ⟨a2, 0, none⟩))]) (y_load rfl ((box_load Ag119 Sz119 c2 [] [(.func (.func 132) #[] #[(.pointer (some ⟨a7, 0, none⟩)), (.pointer (some ⟨a5, 0, none⟩)), (.pointer (some ⟨a3, 0, none⟩)), (.pointer (some ⟨a4, 0, none⟩)), (.pointer (some ⟨a2, 0, none⟩))])] [] rfl rfl (fun _ => rfl)) _ (Chg.refl _ _))) ?_
 have hO := hO.fr4
 have hO := hO.fr5
 have hO := hO.fr5
 have hO := hO.fr7
 have hO := hO.fr7
 have hO := hO.fr7
 have hO := hO.fr7
 have b9 := hO
 have b9 := b9.fr7
 have b9 := b9.fr7
 have b9 := b9.fr7
 have b9 := b9.fr7
 have e2 := Own.lend (F := (([a7]) ++ (d6 ++ (([vg1]) ++ (vf1x0 ++ ([])))))) (R := []) (Own.perm (b9.less.less.less.less) (by simp))
 obtain ⟨r18, g2, hs⟩ := bind_some hs
 refine pl_callb rfl Bd132 rfl (c_impl_netSearch__each_1__firstSolution_1 FU (M := (Less (Less (Less (Less M ([a5])) ([a3])) ([a4])) ([a2]))) 0 y11 b1 (b0.1, b0.2.1, b0.2.2) partial_ (show BoxV _ a7 41 [(.slice c3 c4 c5)] from c1) ((((b5.sub Less.sub).sub Less.sub).sub Less.sub).sub Less.sub) (show RBox (Less (Less (Less (Less M ([a5])) ([a3])) ([a4])) ([a2])) _ a5 81 [(.func (.func 120) #[] #[(.pointer (some ⟨vg1, 0, none⟩))])] from ⟨a6, fun h => by simp [Less] at h⟩) (show BoxV _ vg1 41 [(.slice va1x0 vn1x0 vc1x0)] from hb1) ((((hl1x0.sub Less.sub).sub Less.sub).sub Less.sub).sub Less.sub) (show RBox (Less (Less (Less (Less M ([a5])) ([a3])) ([a4])) ([a2])) _ a3 120 [(.pointer (some ⟨vg0, 0, none⟩))] from ⟨a0, fun h => by simp [Less] at h⟩) (show RBox (Less (Less (Less (Less M ([a5])) ([a3])) ([a4])) ([a2])) _ vg0 146 [(.int .i64 b0.1), (.slice va0x1 vn0x1 vc0x1), (.slice va0x2 vn0x2 vc0x2)] from ((((hb0.sub Less.sub).sub Less.sub).sub Less.sub).sub Less.sub)) ((((hl0x1.sub Less.sub).sub Less.sub).sub Less.sub).sub Less.sub) ((((hl0x2.sub Less.sub).sub Less.sub).sub Less.sub).sub Less.sub) (show RBox (Less (Less (Less (Less M ([a5])) ([a3])) ([a4])) ([a2])) _ a4 41 [(.slice pa0 pn0 pc0)] from ⟨a1, fun h => by simp [Less] at h⟩) ((((h0.sub Less.sub).sub Less.sub).sub Less.sub).sub Less.sub) (show RBox (Less (Less (Less (Less M ([a5])) ([a3])) ([a4])) ([a2])) _ a2 119 [(.func (.func 132) #[] #[(.pointer (some ⟨a7, 0, none⟩)), (.pointer (some ⟨a5, 0, none⟩)), (.pointer (some ⟨a3, 0, none⟩)), (.pointer (some ⟨a4, 0, none⟩)), (.pointer (some ⟨a2, 0, none⟩))])] from ⟨c2, fun h => by simp [Less] at h⟩) e2 e2.fut g2) ?_
 rintro _ e3 ⟨g3, g4, g5, g6, e4, e5, e6, e7, rfl, b7, e8, e9, c7, c8, g7⟩
 have hO := hO.fr7
 have hO := hO.fr7
 have hO := hO.fr7
 have hO := hO.fr7
 have hO := hO.fr7
 have hO := hO.fr7
 have hO := hO.fr7
 have hO := hO.fr7
 have hO := hO.perm (R := (([a7]) ++ (d6 ++ (([vg1]) ++ (vf1x0 ++ ([]))))) ++ (([a5]) ++ (([a3]) ++ (([a4]) ++ (([a2]) ++ ([])))))) (by simp)
 have h0 := h0.mt b7 hO same_
 have hl0x1 := hl0x1.mt b7 hO same_
 have hl0x2 := hl0x2.mt b7 hO same_
 have hb0 := hb0.mut b7 (fun q hq => hO.inM q ((fun _ h => h) q hq))
 have a0 := a0.ap b7 hO same_ (mem_r (mem_l (List.mem_singleton.2 rfl)))
 have a1 := a1.ap b7 hO same_ (mem_r (mem_r (mem_l (List.mem_singleton.2 rfl))))
 have a6 := a6.ap b7 hO same_ (mem_l (List.mem_singleton.2 rfl))
 have c2 := c2.ap b7 hO same_ (mem_r (mem_r (mem_r (mem_l (List.mem_singleton.2 rfl)))))
 have hC := hC.st b7 hO same_
 have hO := Own.join hO b7 g7
 have hO := hO.perm (R := [a7] ++ (g6 ++ ([vg1] ++ (e7 ++ (([a5]) ++ (([a3]) ++ (([a4]) ++ (([a2]) ++ ([]))))))))) (by simp)
 have e9 := e9.free (M' := M) (Free.os Free.int)
 have e8 : BoxV e3 a7 41 [(.slice g3 g4 g5)] := e8
 have c8 := c8.free (M' := M) (Free.nz Free.int)
 have c7 : BoxV e3 vg1 41 [(.slice e4 e5 e6)] := c7
 refine c_nil ?_
 cases hs
 have hO := hO.drop
 have hO := hO.drop
 have hO := hO.fr2
 have hO := hO.drop
 have hO := hO.fr2
 have hO := hO.drop
 have hO := hO.fr2
 have hO := hO.drop
 have hO := hO.fr2
 have hO := hO.drop
 have hO := hO.fr1
 have hO := hO.fr1
 exact ⟨_, e4, e5, e6, e7, fr_ovl 14 trivial, hC, c7, c8, hO.top⟩

theorem Bd105 : Bodied Try.prog 105 := bodied Try.func105 (by kernel_rfl) rfl

def k_impl_firstSolution (M : Nat → Prop) (w0 : World) (r : (Option (List Int))) (a : Act) (w : World) : Prop :=
  ∃ (σ : Nat → Value) (ra0 : Option Addr) (rn0 rc0 : Nat) (rf0 : List Nat), a = fr 12 (ovl σ [(4, (.slice ra0 rn0 rc0))]) ∧ Chg [] w0 w ∧ (RT.nz 3 (RT.int .i64)).val M w (.slice ra0 rn0 rc0) r rf0 ∧ Own (Nw w0 []) (fun _ => True) w (rf0 ++ ([]))
def s_impl_firstSolution (net : Int × Int × (List ((List Int) × (Int × (List (List Int)))))) (partial_ : List Int) : Option ((Option (List Int))) :=
  (s_impl_newNetSearch (net.1, net.2.1, net.2.2)).bind fun r6 =>
  (r6).bind fun p9 =>
  (s_impl_netSearch__each__firstSolution_1 partial_ (p9.1, p9.2.1, p9.2.2) none).bind fun r16 =>
  some r16
set_option maxHeartbeats 4000000 in
theorem c_impl_firstSolution {M : Nat → Prop} {w : World} {pa0 : Option Addr} {pn0 pc0 : Nat} {pa1 : Option Addr} {pn1 pc1 : Nat} (net : Int × Int × (List ((List Int) × (Int × (List (List Int)))))) (partial_ : List Int) (h0 : (RT.rs (RT.pr (RT.rs (RT.int .i64)) (RT.pr (RT.int .i64) (RT.rs (RT.rs (RT.int .i64)))))).val M w (.slice pa0 pn0 pc0) net.2.2 ([])) (h1 : (RT.rs (RT.int .i64)).val M w (.slice pa1 pn1 pc1) partial_ ([])) (hM : ∀ g, w.heap.size ≤ g → M g) {r : (Option (List Int))} (hs : s_impl_firstSolution net partial_ = some r) :
    Gives Try.prog 83 [(.agg #[(.int .i64 net.1), (.int .i64 net.2.1), (.slice pa0 pn0 pc0)]), (.slice pa1 pn1 pc1)] w (fun v w' => ∃ (ra0 : Option Addr) (rn0 rc0 : Nat) (rf0 : List Nat), v = (.slice ra0 rn0 rc0) ∧ Chg [] w w' ∧ (RT.nz 3 (RT.int .i64)).val M w' (.slice ra0 rn0 rc0) r rf0 ∧ Own (Nw w []) (fun _ => True) w' (rf0 ++ ([]))) := by
 refine calls_fr Try.func83 rfl Try.ntmps83 (Nat.le_of_ble_eq_true rfl) ?_
 have hO := Own.start (N := Nw w []) hM Nw.fut
 have hC := Chg.refl [] w
 unfold s_impl_firstSolution at hs
 refine wp_mono (Q := KPost (k_impl_firstSolution M w r)) ?_ (fun e a f1 h => ?_)
 rotate_left
 ·cases e
  case ret =>
   obtain ⟨σ, ra0, rn0, rc0, rf0, rfl, hrest⟩ := h
   exact ret1x Try.results83 (res_tmp rfl) ⟨ra0, rn0, rc0, rf0, rfl, hrest⟩
  all_goals exact (h : False).elim
 refine c_sr ?_
 obtain ⟨c1, a3, d2, c2, b5, a1⟩ := new_block w [(.int .i64 net.1), (.int .i64 net.2.1), (.slice pa0 pn0 pc0)] 30
 refine pl_val (w' := c1) (.pointer (some ⟨a3, 0, none⟩)) (y_box rfl (by rw [d2, c2]; kernel_rfl)) ?_
 have h0 := h0.ext b5
 have h1 := h1.ext b5
 have hC := hC.ext b5
 have hO := hO.new1 b5 c2 a1.lt
 refine pl_val (.slice none 0 0) (y_assign rfl) ?_
 refine c_nil ?_
 refine c_sr ?_
 obtain ⟨d3, a0, d4, c3, a8, a6⟩ := new_block c1 [(.slice none 0 0)] 41
 refine pl_val (w' := d3) (.pointer (some ⟨a0, 0, none⟩)) (y_alloc (by rw [d4, c3]; kernel_rfl)) ?_
 have h0 := h0.ext a8
 have h1 := h1.ext a8
 have a1 := a1.cn a8
 have hC := hC.ext a8
 have hO := hO.new1 a8 c3 a6.lt
 refine c_nil ?_
 refine c_sr ?_
 refine pl_val (.agg #[(.int .i64 net.1), (.int .i64 net.2.1), (.slice pa0 pn0 pc0)]) (y_load rfl ((box_load Ag30 Sz30 a1 [] [(.int .i64 net.1), (.int .i64 net.2.1), (.slice pa0 pn0 pc0)] [] rfl rfl (fun h => nomatch h)) _ (Chg.refl _ _))) ?_
 obtain ⟨r6, d5, hs⟩ := bind_some hs
 refine pl_call Bd104 rfl (c_impl_newNetSearch (M := M) (net.1, net.2.1, net.2.2) h0 hO.fut d5) ?_
 rintro _ b6 ⟨f2, d6, rfl, a7, d7, d8⟩
 have hO := hO.perm (R := [] ++ (([a0]) ++ (([a3]) ++ ([])))) (by simp)
 have h0 := h0.ext a7
 have h1 := h1.ext a7
 have a1 := a1.cn a7
 have a6 := a6.cn a7
 have hC := hC.ext a7
 have hO := Own.join hO a7 d8
 have hO := hO.perm (R := d6 ++ (([a0]) ++ (([a3]) ++ ([])))) (by simp)
 refine pl_val (.slice pa1 pn1 pc1) (y_move rfl) ?_
 refine pl_val (.func (.func 120) #[] #[(.pointer (some ⟨a0, 0, none⟩))]) (y_func rfl rfl) ?_
 obtain ⟨p9, d9, hs⟩ := bind_some hs
 obtain ⟨a4, rfl, e0⟩ := op_get d7 d9
 obtain ⟨f3, f4, e1, a9, e2⟩ := po_open e0
 obtain ⟨f5, f6, f7, f8, rfl, rfl, e3, e4⟩ := e2
 obtain ⟨rfl, rfl⟩ := e3
 obtain ⟨f9, g0, b0, b1, rfl, rfl, e5, e6⟩ := e4
 obtain ⟨c4, c5, c6, rfl, b7⟩ := os_rel' e5
 obtain ⟨c7, c8, c9, rfl, b8⟩ := os_rel' e6
 have a9 : BoxV b6 a4 146 [(.int .i64 p9.1), (.slice c4 c5 c6), (.slice c7 c8 c9)] := a9
 have hO := hO.perm (R := ([a4]) ++ (b0 ++ (b1 ++ (([a0]) ++ (([a3]) ++ ([])))))) (by rw [e1]; simp)
 have e7 : (RT.nz 3 (RT.int .i64)).val M b6 (.slice none 0 0) none [] := nz_none
 have hO := hO.nil
 have a6 : BoxV b6 a0 41 [(.slice none 0 0)] := a6
 have hO := hO.fr3
 have hO := hO.fr3
 have hO := hO.fr3
 have hO := hO.fr3
 have hO := hO.fr4
 have a5 := hO
 have a5 := a5.fr4
 have a5 := a5.fr4
 have a5 := a5.fr4
 have d0 := Own.lend (F := (([a0]) ++ (([]) ++ ([])))) (R := ([a3]) ++ ([])) (Own.perm (a5.less.less.less) (by simp))
 obtain ⟨r16, e8, hs⟩ := bind_some hs
 refine pl_call Bd105 rfl (c_impl_netSearch__each__firstSolution_1 (M := (Less (Less (Less M ([a4])) b0) b1)) partial_ (p9.1, p9.2.1, p9.2.2) none (((h1.sub Less.sub).sub Less.sub).sub Less.sub) (show RBox (Less (Less (Less M ([a4])) b0) b1) _ a4 146 [(.int .i64 p9.1), (.slice c4 c5 c6), (.slice c7 c8 c9)] from ⟨a9, fun h => by simp [Less] at h⟩) ((((Frz.os (Frz.os (Frz.rs Frz.int)))).val (b7.sub Less.sub) Less.sub Less.not).sub Less.sub) (((Frz.os (Frz.os Frz.mo))).val ((b8.sub Less.sub).sub Less.sub) Less.sub Less.not) (show BoxV _ a0 41 [(.slice none 0 0)] from a6) (((e7.sub Less.sub).sub Less.sub).sub Less.sub) d0 d0.fut e8) ?_
 rintro _ e9 ⟨b2, b3, b4, d1, rfl, a2, b9, c0, f0⟩
 have hO := hO.fr4
 have hO := hO.fr4
 have hO := hO.fr4
 have hO := hO.fr4
 have hO := hO.fr4
 have hO := hO.perm (R := (([a0]) ++ (([]) ++ ([]))) ++ (([a4]) ++ (b0 ++ (b1 ++ (([a3]) ++ ([])))))) (by simp)
 have h0 := h0.mt a2 hO same_
 have h1 := h1.mt a2 hO same_
 have a1 := a1.ap a2 hO same_ (mem_r (mem_r (mem_r (mem_l (List.mem_singleton.2 rfl)))))
 have b7 := b7.ma a2 hO same_ (fun _ e => (mem_r (mem_l (e))))
 have b8 := b8.ma a2 hO same_ (fun _ e => (mem_r (mem_r (mem_l (e)))))
 have a9 := a9.ap a2 hO same_ (mem_l (List.mem_singleton.2 rfl))
 have hC := hC.st a2 hO same_
 have hO := Own.join hO a2 f0
 have hO := hO.perm (R := [a0] ++ (d1 ++ (([a4]) ++ (b0 ++ (b1 ++ (([a3]) ++ ([]))))))) (by simp)
 have c0 := c0.free (M' := M) (Free.nz Free.int)
 have b9 : BoxV e9 a0 41 [(.slice b2 b3 b4)] := b9
 refine c_nil ?_
 refine c_sr ?_
 refine pl_val (.slice b2 b3 b4) (y_load rfl ((box_load Ag41 Sz41 b9 [] [(.slice b2 b3 b4)] [] rfl rfl (fun _ => rfl)) _ (Chg.refl _ _))) ?_
 refine pl_val (.slice b2 b3 b4) (y_assign rfl) ?_
 refine c_nil ?_
 refine wp_ret ?_
 cases hs
 have hO := hO.drop
 have hO := hO.fr1
 have hO := hO.drop
 have hO := hO.fr1
 have hO := hO.drop
 have hO := hO.fr1
 have hO := hO.drop
 have hO := hO.fr1
 have hO := hO.drop
 exact ⟨_, b2, b3, b4, d1, fr_ovl 12 ⟨rfl, trivial⟩, hC, c0, hO.top⟩

theorem Bd64 : Bodied Try.prog 64 := bodied Try.func64 (by kernel_rfl) rfl

theorem Bd83 : Bodied Try.prog 83 := bodied Try.func83 (by kernel_rfl) rfl

def k_impl_solvable (M : Nat → Prop) (w0 : World) (r : Bool) (a : Act) (w : World) : Prop :=
  ∃ (σ : Nat → Value) , a = fr 9 (ovl σ [(2, (.bool r))]) ∧ Chg [] w0 w
def s_impl_solvable (net : Int × Int × (List ((List Int) × (Int × (List (List Int)))))) : Option (Bool) :=
  (s_impl_freeTable net.1).bind fun r5 =>
  (s_impl_firstSolution (net.1, net.2.1, net.2.2) r5).bind fun r8 =>
  some (!(Option.isNone r8))
set_option maxHeartbeats 4000000 in
theorem c_impl_solvable {M : Nat → Prop} {w : World} {pa0 : Option Addr} {pn0 pc0 : Nat} (net : Int × Int × (List ((List Int) × (Int × (List (List Int)))))) (h0 : (RT.rs (RT.pr (RT.rs (RT.int .i64)) (RT.pr (RT.int .i64) (RT.rs (RT.rs (RT.int .i64)))))).val M w (.slice pa0 pn0 pc0) net.2.2 ([])) (hM : ∀ g, w.heap.size ≤ g → M g) {r : Bool} (hs : s_impl_solvable net = some r) :
    Gives Try.prog 72 [(.agg #[(.int .i64 net.1), (.int .i64 net.2.1), (.slice pa0 pn0 pc0)])] w (fun v w' => v = (.bool r) ∧ Chg [] w w') := by
 refine calls_fr Try.func72 rfl Try.ntmps72 (Nat.le_of_ble_eq_true rfl) ?_
 have hO := Own.start (N := Nw w []) hM Nw.fut
 have hC := Chg.refl [] w
 unfold s_impl_solvable at hs
 refine wp_mono (Q := KPost (k_impl_solvable M w r)) ?_ (fun e a c4 h => ?_)
 rotate_left
 ·cases e
  case ret =>
   obtain ⟨σ, rfl, hrest⟩ := h
   exact ret1x Try.results72 (res_tmp rfl) ⟨rfl, hrest⟩
  all_goals exact (h : False).elim
 refine c_sr ?_
 obtain ⟨a8, a3, b4, b0, a9, a0⟩ := new_block w [(.int .i64 net.1), (.int .i64 net.2.1), (.slice pa0 pn0 pc0)] 30
 refine pl_val (w' := a8) (.pointer (some ⟨a3, 0, none⟩)) (y_box rfl (by rw [b4, b0]; kernel_rfl)) ?_
 have h0 := h0.ext a9
 have hC := hC.ext a9
 have hO := hO.new1 a9 b0 a0.lt
 refine pl_val (.bool false) (y_assign rfl) ?_
 refine c_nil ?_
 refine c_seq ?_
 refine x_start [] Mx rfl ?_
 have a4 := Chg.drew a8
 generalize World.drew a8 = b5 at a4 ⊢
 have h0 := h0.ext a4
 have a0 := a0.cn a4
 have hC := hC.ext a4
 have hO := hO.ext a4
 have hS := Chg.refl [] b5
 refine x_l 0 (.agg #[(.int .i64 net.1), (.int .i64 net.2.1), (.slice pa0 pn0 pc0)]) rfl (by kernel_rfl)  (fun w' hw' => y_load rfl ((box_load Ag30 Sz30 a0 [] [(.int .i64 net.1), (.int .i64 net.2.1), (.slice pa0 pn0 pc0)] [] rfl rfl (fun h => nomatch h)) w' hw')) hS ?_
 refine x_p 1 (.pointer (some ⟨a3, 0, none⟩)) rfl (by kernel_rfl)  (fun _ => y_faddr rfl Fa30x0) (fun _ => hS) ?_
 refine x_l 2 (.int .i64 net.1) rfl (by kernel_rfl)  (fun w' hw' => y_load rfl ((box_load Ag3 Sz3 a0 [] [(.int .i64 net.1)] [(.int .i64 net.2.1), (.slice pa0 pn0 pc0)] rfl rfl (fun _ => rfl)) w' hw')) hS ?_
 refine x_one (i := 3) (by kernel_rfl) ?_
 obtain ⟨r5, b6, hs⟩ := bind_some hs
 refine xk_call (b := false) rfl  Bd64 rfl (c_impl_freeTable (M := M) net.1  hO.fut b6) rfl (by rintro _ _ _ ⟨b7, b8, b9, a5, rfl, a2, a6, b1⟩; exact hS.ext a2) ?_
 rintro _ c5 ⟨b7, b8, b9, a5, rfl, a2, a6, b1⟩
 have h0 := h0.ext a2
 have a0 := a0.cn a2
 have hC := hC.ext a2
 have hO := Own.join0 hO a2 b1
 have hO := hO.perm (R := a5 ++ (([a3]) ++ ([]))) (by simp)
 have hS := hS.ext a2
 refine x_one (i := 4) (by kernel_rfl) ?_
 obtain ⟨r8, c0, hs⟩ := bind_some hs
 refine xk_call (b := false) rfl  Bd83 rfl (c_impl_firstSolution (M := (Less M a5)) (net.1, net.2.1, net.2.2) r5 (h0.sub Less.sub) (((Frz.os Frz.int)).val a6 Less.sub Less.not) hO.less.fut c0) rfl (by rintro _ _ _ ⟨c1, c2, c3, b2, rfl, a1, a7, b3⟩; exact hS.ext a1) ?_
 rintro _ c6 ⟨c1, c2, c3, b2, rfl, a1, a7, b3⟩
 have hO := hO.perm (R := [] ++ (a5 ++ (([a3]) ++ ([])))) (by simp)
 have h0 := h0.ext a1
 have a0 := a0.cn a1
 have a6 := a6.ext a1
 have hC := hC.ext a1
 have hO := Own.join hO a1 b3
 have hO := hO.perm (R := b2 ++ (a5 ++ (([a3]) ++ ([])))) (by simp)
 have a7 := a7.free (M' := M) (Free.nz Free.int)
 have hS := hS.ext a1
 refine x_p 5 (.bool (!(Option.isNone r8))) rfl (by kernel_rfl)  (fun _ => y_nnil Try.underlying41 rfl rfl (nz_nil a7)) (fun _ => hS) ?_
 refine x_p 6 (.bool (!(Option.isNone r8))) rfl (by kernel_rfl)  (fun _ => y_assign rfl) (fun _ => hS) ?_
 refine x_end (by kernel_rfl) ?_
 clear hS
 refine wp_ret ?_
 cases hs
 exact ⟨_, fr_ovl 9 ⟨rfl, trivial⟩, hC⟩

theorem Bd51 : Bodied Try.prog 51 := bodied Try.func51 (by kernel_rfl) rfl

theorem Bd70 : Bodied Try.prog 70 := bodied Try.func70 (by kernel_rfl) rfl

theorem Bd73 : Bodied Try.prog 73 := bodied Try.func73 (by kernel_rfl) rfl

theorem Bd72 : Bodied Try.prog 72 := bodied Try.func72 (by kernel_rfl) rfl

def k_impl_IsConflict (M : Nat → Prop) (w0 : World) (r : Bool × Bool) (a : Act) (w : World) : Prop :=
  ∃ (σ : Nat → Value) , a = fr 27 (ovl σ [(4, (.bool r.1)), (5, (.bool r.2))]) ∧ Chg [] w0 w
def s_impl_IsConflict (net : Int × Int × (List ((List Int) × (Int × (List (List Int)))))) (indices : List Int) : Option (Bool × Bool) :=
  ((s_impl_IsNetwork (net.1, net.2.1, net.2.2)).bind fun r8 =>
  (bif (!r8) then some true else (s_impl_rises indices).bind fun r11 =>
  (bif (!r11) then some true else (s_impl_inSize indices (net.2.2.length : Int)).bind fun r14 =>
  some (!r14)))).bind fun s4 =>
  (bif s4 then some (false, false) else (s_impl_partOf (net.1, net.2.1, net.2.2) indices).bind fun r17 =>
  (s_impl_solvable (r17.1, r17.2.1, r17.2.2)).bind fun r20 =>
  some ((!r20), true))
set_option maxHeartbeats 4000000 in
theorem c_impl_IsConflict {M : Nat → Prop} {w : World} {pa0 : Option Addr} {pn0 pc0 : Nat} {pa1 : Option Addr} {pn1 pc1 : Nat} (net : Int × Int × (List ((List Int) × (Int × (List (List Int)))))) (indices : List Int) (h0 : (RT.rs (RT.pr (RT.rs (RT.int .i64)) (RT.pr (RT.int .i64) (RT.rs (RT.rs (RT.int .i64)))))).val M w (.slice pa0 pn0 pc0) net.2.2 ([])) (h1 : (RT.rs (RT.int .i64)).val M w (.slice pa1 pn1 pc1) indices ([])) (hM : ∀ g, w.heap.size ≤ g → M g) {r : Bool × Bool} (hs : s_impl_IsConflict net indices = some r) :
    Gives Try.prog 23 [(.agg #[(.int .i64 net.1), (.int .i64 net.2.1), (.slice pa0 pn0 pc0)]), (.slice pa1 pn1 pc1)] w (fun v w' => v = (.tuple #[(.bool r.1), (.bool r.2)]) ∧ Chg [] w w') := by
 refine calls_fr Try.func23 rfl Try.ntmps23 (Nat.le_of_ble_eq_true rfl) ?_
 have hO := Own.start (N := Nw w []) hM Nw.fut
 have hC := Chg.refl [] w
 unfold s_impl_IsConflict at hs
 refine wp_mono (Q := KPost (k_impl_IsConflict M w r)) ?_ (fun e a c4 h => ?_)
 rotate_left
 ·cases e
  case ret =>
   obtain ⟨σ, rfl, hrest⟩ := h
   exact ret2x Try.results23 (res_tmp rfl) (res_tmp rfl) ⟨rfl, hrest⟩
  all_goals exact (h : False).elim
 refine c_sr ?_
 obtain ⟨b2, b3, b7, b6, b0, a0⟩ := new_block w [(.int .i64 net.1), (.int .i64 net.2.1), (.slice pa0 pn0 pc0)] 30
 refine pl_val (w' := b2) (.pointer (some ⟨b3, 0, none⟩)) (y_box rfl (by rw [b7, b6]; kernel_rfl)) ?_
 have h0 := h0.ext b0
 have h1 := h1.ext b0
 have hC := hC.ext b0
 have hO := hO.new1 b0 b6 a0.lt
 refine pl_val (.bool false) (y_assign rfl) ?_
 refine pl_val (.bool false) (y_assign rfl) ?_
 refine c_nil ?_
 refine c_seq ?_
 refine c_seq ?_
 obtain ⟨s4, b8, hs⟩ := bind_some hs
 refine c_mid (I := fun a a3 => ∃ (σ : Nat → Value), a = fr 27 (ovl σ [(1, (.slice pa1 pn1 pc1)), (2, (.pointer (some ⟨b3, 0, none⟩))), (4, (.bool false)), (5, (.bool false)), (21, (.bool s4))]) ∧ Chg [] b2 a3) ?_ ?_
 ·replace hs := b8
  have hMid := Chg.refl [] b2
  refine c_region ?_
  refine pl_val (.agg #[(.int .i64 net.1), (.int .i64 net.2.1), (.slice pa0 pn0 pc0)]) (y_load rfl ((box_load Ag30 Sz30 a0 [] [(.int .i64 net.1), (.int .i64 net.2.1), (.slice pa0 pn0 pc0)] [] rfl rfl (fun h => nomatch h)) _ (Chg.refl _ _))) ?_
  obtain ⟨r8, b9, hs⟩ := bind_some hs
  refine pl_call Bd51 rfl (c_impl_IsNetwork (M := M) (net.1, net.2.1, net.2.2) h0 hO.fut b9) ?_
  rintro _ c5 ⟨rfl, a4⟩
  have h0 := h0.ext a4
  have h1 := h1.ext a4
  have a0 := a0.cn a4
  have hMid := hMid.ext a4
  have hC := hC.ext a4
  have hO := hO.ext a4
  refine pl_val (.bool (!r8)) (y_not rfl) ?_
  refine pl_val (.bool (!r8)) (y_move rfl) ?_
  rcases bif_some hs with ⟨a2, hs⟩ | ⟨a2, hs⟩
  ·skip
   refine pl_not (tg := 9) (by kernel_rfl) (congrArg Value.bool a2) ?_
   refine pl_not (tg := 9) (by kernel_rfl) (congrArg Value.bool a2) ?_
   refine pl_not (tg := 9) (by kernel_rfl) (congrArg Value.bool a2) ?_
   refine pl_val (.bool true) (y_pick_t (congrArg Value.bool a2) rfl) ?_
   refine pl_val (.bool true) (y_move rfl) ?_
   refine pl_not (tg := 14) (by kernel_rfl) (by rfl) ?_
   refine pl_not (tg := 14) (by kernel_rfl) (by rfl) ?_
   refine pl_not (tg := 14) (by kernel_rfl) (by rfl) ?_
   refine pl_not (tg := 14) (by kernel_rfl) (by rfl) ?_
   refine pl_not (tg := 14) (by kernel_rfl) (by rfl) ?_
   refine pl_not (tg := 14) (by kernel_rfl) (by rfl) ?_
   refine pl_val (.bool true) (y_pick_t (by rfl) rfl) ?_
   refine c_nil ?_
   cases hs
   exact ⟨_, fr_ovl 27 ⟨rfl, rfl, rfl, rfl, rfl, trivial⟩, hMid⟩
  refine pl_yes (.slice pa1 pn1 pc1) (tg := 9) (by kernel_rfl) (congrArg Value.bool a2) (y_move rfl) ?_
  obtain ⟨r11, c0, hs⟩ := bind_some hs
  refine pl_cally (tg := 9) (by kernel_rfl) (congrArg Value.bool a2) Bd70 rfl (c_impl_rises (M := M) indices h1 hO.fut c0) ?_
  rintro _ c6 ⟨rfl, a5⟩
  have h0 := h0.ext a5
  have h1 := h1.ext a5
  have a0 := a0.cn a5
  have hMid := hMid.ext a5
  have hC := hC.ext a5
  have hO := hO.ext a5
  refine pl_yes (.bool (!r11)) (tg := 9) (by kernel_rfl) (congrArg Value.bool a2) (y_not rfl) ?_
  refine pl_val (.bool (!r11)) (y_pick_f (congrArg Value.bool a2) rfl) ?_
  refine pl_val (.bool (!r11)) (y_move rfl) ?_
  rcases bif_some hs with ⟨a1, hs⟩ | ⟨a1, hs⟩
  ·skip
   refine pl_not (tg := 14) (by kernel_rfl) (congrArg Value.bool a1) ?_
   refine pl_not (tg := 14) (by kernel_rfl) (congrArg Value.bool a1) ?_
   refine pl_not (tg := 14) (by kernel_rfl) (congrArg Value.bool a1) ?_
   refine pl_not (tg := 14) (by kernel_rfl) (congrArg Value.bool a1) ?_
   refine pl_not (tg := 14) (by kernel_rfl) (congrArg Value.bool a1) ?_
   refine pl_not (tg := 14) (by kernel_rfl) (congrArg Value.bool a1) ?_
   refine pl_val (.bool true) (y_pick_t (congrArg Value.bool a1) rfl) ?_
   refine c_nil ?_
   cases hs
   exact ⟨_, fr_ovl 27 ⟨rfl, rfl, rfl, rfl, rfl, trivial⟩, hMid⟩
  refine pl_yes (.slice pa1 pn1 pc1) (tg := 14) (by kernel_rfl) (congrArg Value.bool a1) (y_move rfl) ?_
  refine pl_yes (.pointer (some ⟨b3, 2, none⟩)) (tg := 14) (by kernel_rfl) (congrArg Value.bool a1) (y_faddr rfl Fa30x2) ?_
  refine pl_yes (.slice pa0 pn0 pc0) (tg := 14) (by kernel_rfl) (congrArg Value.bool a1) (y_load rfl ((box_load Ag28 Sz28 a0 [(.int .i64 net.1), (.int .i64 net.2.1)] [(.slice pa0 pn0 pc0)] [] rfl rfl (fun _ => rfl)) _ (Chg.refl _ _))) ?_
  refine pl_yes (.int .i64 (net.2.2.length : Int)) (tg := 14) (by kernel_rfl) (congrArg Value.bool a1) (y_len' Sl28 (rs_len h0) rfl) ?_
  obtain ⟨r14, c1, hs⟩ := bind_some hs
  refine pl_cally (tg := 14) (by kernel_rfl) (congrArg Value.bool a1) Bd71 rfl (c_impl_inSize (M := M) indices (net.2.2.length : Int) h1 hO.fut c1) ?_
  rintro _ c7 ⟨rfl, a6⟩
  have h0 := h0.ext a6
  have h1 := h1.ext a6
  have a0 := a0.cn a6
  have hMid := hMid.ext a6
  have hC := hC.ext a6
  have hO := hO.ext a6
  refine pl_yes (.bool (!r14)) (tg := 14) (by kernel_rfl) (congrArg Value.bool a1) (y_not rfl) ?_
  refine pl_val (.bool (!r14)) (y_pick_f (congrArg Value.bool a1) rfl) ?_
  refine c_nil ?_
  cases hs
  exact ⟨_, fr_ovl 27 ⟨rfl, rfl, rfl, rfl, rfl, trivial⟩, hMid⟩
 rintro c8 a3 ⟨σ, rfl, a8⟩
 have h0 := h0.ext a8
 have h1 := h1.ext a8
 have a0 := a0.cn a8
 have hC := hC.ext a8
 have hO := hO.ext a8
 rcases bif_some hs with ⟨b4, hs⟩ | ⟨b4, hs⟩
 ·refine c_condT (congrArg Value.bool b4) ?_
  refine c_sr ?_
  refine pl_val (.bool false) (y_assign rfl) ?_
  refine pl_val (.bool false) (y_assign rfl) ?_
  refine c_nil ?_
  refine wp_ret ?_
  cases hs
  exact ⟨_, fr_ovl 27 ⟨rfl, rfl, trivial⟩, hC⟩
 refine c_condF (congrArg Value.bool b4) ?_
 refine wp_skip ?_
 refine c_sr ?_
 refine pl_val (.agg #[(.int .i64 net.1), (.int .i64 net.2.1), (.slice pa0 pn0 pc0)]) (y_load rfl ((box_load Ag30 Sz30 a0 [] [(.int .i64 net.1), (.int .i64 net.2.1), (.slice pa0 pn0 pc0)] [] rfl rfl (fun h => nomatch h)) _ (Chg.refl _ _))) ?_
 refine pl_val (.slice pa1 pn1 pc1) (y_move rfl) ?_
 obtain ⟨r17, c2, hs⟩ := bind_some hs
 refine pl_call Bd73 rfl (c_impl_partOf (M := M) (net.1, net.2.1, net.2.2) indices h0 h1 hO.fut c2) ?_
 rintro _ b1 ⟨c9, d0, d1, rfl, a9, b5⟩
 have hK := (show Keeps w M (Past M a3 b1) from Keeps.past hC.size)
 have h0 := h0.ext a9
 have h1 := h1.ext a9
 have a0 := a0.cn a9
 have hC := hC.ext a9
 have hO := hO.past a9
 have h0 := h0.sub (M' := (Past M a3 b1)) (fun g hg => .inl hg.1)
 have h1 := h1.sub (M' := (Past M a3 b1)) (fun g hg => .inl hg.1)
 obtain ⟨r20, c3, hs⟩ := bind_some hs
 refine pl_call Bd72 rfl (c_impl_solvable (M := (Past M a3 b1)) (r17.1, r17.2.1, r17.2.2) b5 hO.fut c3) ?_
 rintro _ d2 ⟨rfl, a7⟩
 have h0 := h0.ext a7
 have h1 := h1.ext a7
 have a0 := a0.cn a7
 have b5 := b5.ext a7
 have hC := hC.ext a7
 have hO := hO.ext a7
 refine pl_val (.bool (!r20)) (y_not rfl) ?_
 refine pl_val (.bool (!r20)) (y_assign rfl) ?_
 refine pl_val (.bool true) (y_assign rfl) ?_
 refine c_nil ?_
 refine wp_ret ?_
 cases hs
 exact ⟨_, fr_ovl 27 ⟨rfl, rfl, trivial⟩, hC⟩

def k_laws_eqIntS (M : Nat → Prop) (w0 : World) (r : Bool) (a : Act) (w : World) : Prop :=
  ∃ (σ : Nat → Value) , a = fr 26 (ovl σ [(4, (.bool r))]) ∧ Chg [] w0 w
def s_laws_eqIntS (a_ : List Int) (b : List Int) : Option (Bool) :=
  (bif ((a_.length : Int) != (b.length : Int)) then some false else (forC (S := Unit) (R := Bool) (fun k12 s10 =>
  (idx a_ k12).bind fun x17 =>
  (idx b k12).bind fun x19 =>
  (bif (x17 != x19) then some (.rt false) else some (.nx ()))) 0 (a_.length : Int) ()).bind fun o14 => after o14 (fun r_ => some r_) (fun s10 =>
  some true))
set_option maxHeartbeats 4000000 in
theorem c_laws_eqIntS {M : Nat → Prop} {w : World} {pa0 : Option Addr} {pn0 pc0 : Nat} {pa1 : Option Addr} {pn1 pc1 : Nat} (a_ : List Int) (b : List Int) (h0 : (RT.rs (RT.int .i64)).val M w (.slice pa0 pn0 pc0) a_ ([])) (h1 : (RT.rs (RT.int .i64)).val M w (.slice pa1 pn1 pc1) b ([])) (hM : ∀ g, w.heap.size ≤ g → M g) {r : Bool} (hs : s_laws_eqIntS a_ b = some r) :
    Gives Try.prog 24 [(.slice pa0 pn0 pc0), (.slice pa1 pn1 pc1)] w (fun v w' => v = (.bool r) ∧ Chg [] w w') := by
 refine calls_fr Try.func24 rfl Try.ntmps24 (Nat.le_of_ble_eq_true rfl) ?_
 have hO := Own.start (N := Nw w []) hM Nw.fut
 have hC := Chg.refl [] w
 unfold s_laws_eqIntS at hs
 refine wp_mono (Q := KPost (k_laws_eqIntS M w r)) ?_ (fun e a a4 h => ?_)
 rotate_left
 ·cases e
  case ret =>
   obtain ⟨σ, rfl, hrest⟩ := h
   exact ret1x Try.results24 (res_tmp rfl) ⟨rfl, hrest⟩
  all_goals exact (h : False).elim
 refine c_sr ?_
 refine pl_val (.bool false) (y_assign rfl) ?_
 refine c_nil ?_
 refine c_seq ?_
 refine c_sr ?_
 refine pl_val (.slice pa0 pn0 pc0) (y_move rfl) ?_
 refine pl_val (.int .i64 (a_.length : Int)) (y_len' Sl41 (rs_len h0) rfl) ?_
 refine pl_val (.slice pa1 pn1 pc1) (y_move rfl) ?_
 refine pl_val (.int .i64 (b.length : Int)) (y_len' Sl41 (rs_len h1) rfl) ?_
 refine pl_val (.bool ((a_.length : Int) != (b.length : Int))) (y_neq rfl rfl) ?_
 refine c_nil ?_
 rcases bif_some hs with ⟨a2, hs⟩ | ⟨a2, hs⟩
 ·refine c_condT (congrArg Value.bool a2) ?_
  refine c_sr ?_
  refine pl_val (.bool false) (y_assign rfl) ?_
  refine c_nil ?_
  refine wp_ret ?_
  cases hs
  exact ⟨_, fr_ovl 26 ⟨rfl, trivial⟩, hC⟩
 refine c_condF (congrArg Value.bool a2) ?_
 refine wp_skip ?_
 refine c_seq ?_
 refine c_sr ?_
 refine pl_val (.int .i64 0) (y_assign rfl) ?_
 refine c_nil ?_
 obtain ⟨o14, a5, hs⟩ := bind_some hs
 refine wp_block ?_
 refine wp_forC (id := 0) (a_.length : Int) (I := fun k12 s10 a a0 => ∃ (σ : Nat → Value), a = fr 26 (ovl σ [(0, (.slice pa0 pn0 pc0)), (1, (.slice pa1 pn1 pc1)), (5, (.int .i64 k12))]) ∧ Chg [] w a0 ∧ Own (Nw w []) M a0 ([]) ∧ (RT.rs (RT.int .i64)).val M a0 (.slice pa0 pn0 pc0) a_ ([]) ∧ (RT.rs (RT.int .i64)).val M a0 (.slice pa1 pn1 pc1) b ([])) (J := fun s10 a a0 => ∃ (σ : Nat → Value), a = fr 26 (ovl σ []) ∧ Chg [] w a0 ∧ Own (Nw w []) M a0 ([]) ∧ (RT.rs (RT.int .i64)).val M a0 (.slice pa0 pn0 pc0) a_ ([]) ∧ (RT.rs (RT.int .i64)).val M a0 (.slice pa1 pn1 pc1) b ([])) (K := (k_laws_eqIntS M w)) ?_ ?_ 0 () o14 _ _ ?_ a5 ?_
 ·rintro k12 s10 a a0 ⟨σ, rfl, hC, hO, h0, h1⟩ hlt
  refine c_seq ?_
  refine c_sr ?_
  refine pl_val (.int .i64 k12) (y_move rfl) ?_
  refine pl_val (.slice pa0 pn0 pc0) (y_move rfl) ?_
  refine pl_val (.int .i64 (a_.length : Int)) (y_len' Sl41 (rs_len h0) rfl) ?_
  refine pl_val (.bool (decide (k12 < (a_.length : Int)))) (y_lss rfl rfl) ?_
  refine c_nil ?_
  refine c_condF (congrArg Value.bool (decide_eq_false hlt)) ?_
  refine wp_exit ?_
  exact ⟨rfl, _, fr_ovl 26 trivial, hC, hO, h0, h1⟩
 ·rintro k12 s10 o14 a a0 ⟨σ, rfl, hC, hO, h0, h1⟩ hlt hw hs
  refine c_seq ?_
  refine c_sr ?_
  refine pl_val (.int .i64 k12) (y_move rfl) ?_
  refine pl_val (.slice pa0 pn0 pc0) (y_move rfl) ?_
  refine pl_val (.int .i64 (a_.length : Int)) (y_len' Sl41 (rs_len h0) rfl) ?_
  refine pl_val (.bool (decide (k12 < (a_.length : Int)))) (y_lss rfl rfl) ?_
  refine c_nil ?_
  refine c_condT (congrArg Value.bool (decide_eq_true hlt)) ?_
  refine wp_skip ?_
  refine c_seq ?_
  refine wp_block ?_
  refine c_seq ?_
  refine x_start [] Mx rfl ?_
  have a1 := Chg.drew a0
  generalize World.drew a0 = a6 at a1 ⊢
  have h0 := h0.ext a1
  have h1 := h1.ext a1
  have hC := hC.ext a1
  have hO := hO.ext a1
  have hS := Chg.refl [] a6
  refine x_p 0 (.slice pa0 pn0 pc0) rfl (by kernel_rfl)  (fun _ => y_move rfl) (fun _ => hS) ?_
  refine x_p 1 (.int .i64 k12) rfl (by kernel_rfl)  (fun _ => y_move rfl) (fun _ => hS) ?_
  obtain ⟨x17, a7, hs⟩ := bind_some hs
  obtain ⟨a8, a9, b0, b1⟩ := rs_idx Sl41 Sz3 h0 a7
  refine x_p 2 (.pointer (some ⟨a8, a9, none⟩)) rfl (by kernel_rfl)  (fun _ => b0 _ _ _ _ _ _ _ _ _ rfl rfl) (fun _ => hS) ?_
  refine x_l 3 (.int .i64 x17) rfl (by kernel_rfl)  (fun w' hw' => y_load rfl ((at_load_int Ag3 Sz3 b1) w' hw')) hS ?_
  refine x_p 4 (.slice pa1 pn1 pc1) rfl (by kernel_rfl)  (fun _ => y_move rfl) (fun _ => hS) ?_
  refine x_p 5 (.int .i64 k12) rfl (by kernel_rfl)  (fun _ => y_move rfl) (fun _ => hS) ?_
  obtain ⟨x19, b2, hs⟩ := bind_some hs
  obtain ⟨b3, b4, b5, b6⟩ := rs_idx Sl41 Sz3 h1 b2
  refine x_p 6 (.pointer (some ⟨b3, b4, none⟩)) rfl (by kernel_rfl)  (fun _ => b5 _ _ _ _ _ _ _ _ _ rfl rfl) (fun _ => hS) ?_
  refine x_l 7 (.int .i64 x19) rfl (by kernel_rfl)  (fun w' hw' => y_load rfl ((at_load_int Ag3 Sz3 b6) w' hw')) hS ?_
  refine x_p 8 (.bool (x17 != x19)) rfl (by kernel_rfl)  (fun _ => y_neq rfl rfl) (fun _ => hS) ?_
  refine x_end (by kernel_rfl) ?_
  clear hS
  rcases bif_some hs with ⟨a3, hs⟩ | ⟨a3, hs⟩
  ·refine c_condT (congrArg Value.bool a3) ?_
   refine c_sr ?_
   refine pl_val (.bool false) (y_assign rfl) ?_
   refine c_nil ?_
   refine wp_ret ?_
   cases hs
   exact ⟨_, fr_ovl 26 ⟨rfl, trivial⟩, hC⟩
  refine c_condF (congrArg Value.bool a3) ?_
  refine wp_skip ?_
  refine c_region ?_
  refine pl_val (.int .i64 k12) (y_move rfl) ?_
  refine pl_val (.int .i64 (w64 (k12 + 1))) (y_add rfl rfl) ?_
  refine pl_val (.int .i64 (w64 (k12 + 1))) (y_assign rfl) ?_
  refine c_nil ?_
  cases hs
  exact ⟨_, fr_ovl 26 ⟨rfl, rfl, congrArg (Value.int .i64) hw, trivial⟩, hC, hO, h0, h1⟩
 ·skip
  exact ⟨_, fr_ovl 26 ⟨rfl, rfl, rfl, trivial⟩, hC, hO, h0, h1⟩
 cases o14 with
 | nx _ => exact True.intro
 | rt r_ =>
  have hs := after_rt hs
  intro b7 a4 hK
  cases hs
  exact hK
 | br s10 =>
  have hs := after_br hs
  rintro b7 a0 ⟨σ, rfl, hC, hO, h0, h1⟩
  refine c_sr ?_
  refine pl_val (.bool true) (y_assign rfl) ?_
  refine c_nil ?_
  refine wp_ret ?_
  cases hs
  exact ⟨_, fr_ovl 26 ⟨rfl, trivial⟩, hC⟩

theorem Bd24 : Bodied Try.prog 24 := bodied Try.func24 (by kernel_rfl) rfl

def k_laws_eqIntSS (M : Nat → Prop) (w0 : World) (r : Bool) (a : Act) (w : World) : Prop :=
  ∃ (σ : Nat → Value) , a = fr 27 (ovl σ [(4, (.bool r))]) ∧ Chg [] w0 w
def s_laws_eqIntSS (a_ : List (List Int)) (b : List (List Int)) : Option (Bool) :=
  (bif ((a_.length : Int) != (b.length : Int)) then some false else (forC (S := Unit) (R := Bool) (fun k18 s16 =>
  (idx a_ k18).bind fun x23 =>
  (idx b k18).bind fun x27 =>
  (s_laws_eqIntS x23 x27).bind fun r32 =>
  (bif (!r32) then some (.rt false) else some (.nx ()))) 0 (a_.length : Int) ()).bind fun o20 => after o20 (fun r_ => some r_) (fun s16 =>
  some true))
set_option maxHeartbeats 4000000 in
theorem c_laws_eqIntSS {M : Nat → Prop} {w : World} {pa0 : Option Addr} {pn0 pc0 : Nat} {pa1 : Option Addr} {pn1 pc1 : Nat} (a_ : List (List Int)) (b : List (List Int)) (h0 : (RT.rs (RT.rs (RT.int .i64))).val M w (.slice pa0 pn0 pc0) a_ ([])) (h1 : (RT.rs (RT.rs (RT.int .i64))).val M w (.slice pa1 pn1 pc1) b ([])) (hM : ∀ g, w.heap.size ≤ g → M g) {r : Bool} (hs : s_laws_eqIntSS a_ b = some r) :
    Gives Try.prog 37 [(.slice pa0 pn0 pc0), (.slice pa1 pn1 pc1)] w (fun v w' => v = (.bool r) ∧ Chg [] w w') := by
 refine calls_fr Try.func37 rfl Try.ntmps37 (Nat.le_of_ble_eq_true rfl) ?_
 have hO := Own.start (N := Nw w []) hM Nw.fut
 have hC := Chg.refl [] w
 unfold s_laws_eqIntSS at hs
 refine wp_mono (Q := KPost (k_laws_eqIntSS M w r)) ?_ (fun e a a7 h => ?_)
 rotate_left
 ·cases e
  case ret =>
   obtain ⟨σ, rfl, hrest⟩ := h
   exact ret1x Try.results37 (res_tmp rfl) ⟨rfl, hrest⟩
  all_goals exact (h : False).elim
 refine c_sr ?_
 refine pl_val (.bool false) (y_assign rfl) ?_
 refine c_nil ?_
 refine c_seq ?_
 refine c_sr ?_
 refine pl_val (.slice pa0 pn0 pc0) (y_move rfl) ?_
 refine pl_val (.int .i64 (a_.length : Int)) (y_len' Sl47 (rs_len h0) rfl) ?_
 refine pl_val (.slice pa1 pn1 pc1) (y_move rfl) ?_
 refine pl_val (.int .i64 (b.length : Int)) (y_len' Sl47 (rs_len h1) rfl) ?_
 refine pl_val (.bool ((a_.length : Int) != (b.length : Int))) (y_neq rfl rfl) ?_
 refine c_nil ?_
 rcases bif_some hs with ⟨a5, hs⟩ | ⟨a5, hs⟩
 ·refine c_condT (congrArg Value.bool a5) ?_
  refine c_sr ?_
  refine pl_val (.bool false) (y_assign rfl) ?_
  refine c_nil ?_
  refine wp_ret ?_
  cases hs
  exact ⟨_, fr_ovl 27 ⟨rfl, trivial⟩, hC⟩
 refine c_condF (congrArg Value.bool a5) ?_
 refine wp_skip ?_
 refine c_seq ?_
 refine c_sr ?_
 refine pl_val (.int .i64 0) (y_assign rfl) ?_
 refine c_nil ?_
 obtain ⟨o20, a8, hs⟩ := bind_some hs
 refine wp_block ?_
 refine wp_forC (id := 0) (a_.length : Int) (I := fun k18 s16 a a0 => ∃ (σ : Nat → Value), a = fr 27 (ovl σ [(0, (.slice pa0 pn0 pc0)), (1, (.slice pa1 pn1 pc1)), (5, (.int .i64 k18))]) ∧ Chg [] w a0 ∧ Own (Nw w []) M a0 ([]) ∧ (RT.rs (RT.rs (RT.int .i64))).val M a0 (.slice pa0 pn0 pc0) a_ ([]) ∧ (RT.rs (RT.rs (RT.int .i64))).val M a0 (.slice pa1 pn1 pc1) b ([])) (J := fun s16 a a0 => ∃ (σ : Nat → Value), a = fr 27 (ovl σ []) ∧ Chg [] w a0 ∧ Own (Nw w []) M a0 ([]) ∧ (RT.rs (RT.rs (RT.int .i64))).val M a0 (.slice pa0 pn0 pc0) a_ ([]) ∧ (RT.rs (RT.rs (RT.int .i64))).val M a0 (.slice pa1 pn1 pc1) b ([])) (K := (k_laws_eqIntSS M w)) ?_ ?_ 0 () o20 _ _ ?_ a8 ?_
 ·rintro k18 s16 a a0 ⟨σ, rfl, hC, hO, h0, h1⟩ hlt
  refine c_seq ?_
  refine c_sr ?_
  refine pl_val (.int .i64 k18) (y_move rfl) ?_
  refine pl_val (.slice pa0 pn0 pc0) (y_move rfl) ?_
  refine pl_val (.int .i64 (a_.length : Int)) (y_len' Sl47 (rs_len h0) rfl) ?_
  refine pl_val (.bool (decide (k18 < (a_.length : Int)))) (y_lss rfl rfl) ?_
  refine c_nil ?_
  refine c_condF (congrArg Value.bool (decide_eq_false hlt)) ?_
  refine wp_exit ?_
  exact ⟨rfl, _, fr_ovl 27 trivial, hC, hO, h0, h1⟩
 ·rintro k18 s16 o20 a a0 ⟨σ, rfl, hC, hO, h0, h1⟩ hlt hw hs
  refine c_seq ?_
  refine c_sr ?_
  refine pl_val (.int .i64 k18) (y_move rfl) ?_
  refine pl_val (.slice pa0 pn0 pc0) (y_move rfl) ?_
  refine pl_val (.int .i64 (a_.length : Int)) (y_len' Sl47 (rs_len h0) rfl) ?_
  refine pl_val (.bool (decide (k18 < (a_.length : Int)))) (y_lss rfl rfl) ?_
  refine c_nil ?_
  refine c_condT (congrArg Value.bool (decide_eq_true hlt)) ?_
  refine wp_skip ?_
  refine c_seq ?_
  refine wp_block ?_
  refine c_seq ?_
  refine x_start [] Mx rfl ?_
  have a2 := Chg.drew a0
  generalize World.drew a0 = a9 at a2 ⊢
  have h0 := h0.ext a2
  have h1 := h1.ext a2
  have hC := hC.ext a2
  have hO := hO.ext a2
  have hS := Chg.refl [] a9
  refine x_p 0 (.slice pa0 pn0 pc0) rfl (by kernel_rfl)  (fun _ => y_move rfl) (fun _ => hS) ?_
  refine x_p 1 (.int .i64 k18) rfl (by kernel_rfl)  (fun _ => y_move rfl) (fun _ => hS) ?_
  obtain ⟨x23, b0, hs⟩ := bind_some hs
  obtain ⟨b1, b2, b3, b4⟩ := rs_idx Sl47 Sz41 h0 b0
  refine x_p 2 (.pointer (some ⟨b1, b2, none⟩)) rfl (by kernel_rfl)  (fun _ => b3 _ _ _ _ _ _ _ _ _ rfl rfl) (fun _ => hS) ?_
  obtain ⟨d0, b5, a3⟩ := at_load Ag41 Sz41 (fun _ => rfl) b4
  obtain ⟨b6, b7, b8, rfl⟩ := rs_sl a3
  refine x_l 3 (.slice b6 b7 b8) rfl (by kernel_rfl)  (fun w' hw' => y_load rfl (b5 w' hw')) hS ?_
  refine x_p 4 (.slice pa1 pn1 pc1) rfl (by kernel_rfl)  (fun _ => y_move rfl) (fun _ => hS) ?_
  refine x_p 5 (.int .i64 k18) rfl (by kernel_rfl)  (fun _ => y_move rfl) (fun _ => hS) ?_
  obtain ⟨x27, b9, hs⟩ := bind_some hs
  obtain ⟨c0, c1, c2, c3⟩ := rs_idx Sl47 Sz41 h1 b9
  refine x_p 6 (.pointer (some ⟨c0, c1, none⟩)) rfl (by kernel_rfl)  (fun _ => c2 _ _ _ _ _ _ _ _ _ rfl rfl) (fun _ => hS) ?_
  obtain ⟨d1, c4, a4⟩ := at_load Ag41 Sz41 (fun _ => rfl) c3
  obtain ⟨c5, c6, c7, rfl⟩ := rs_sl a4
  refine x_l 7 (.slice c5 c6 c7) rfl (by kernel_rfl)  (fun w' hw' => y_load rfl (c4 w' hw')) hS ?_
  refine x_one (i := 8) (by kernel_rfl) ?_
  obtain ⟨r32, c8, hs⟩ := bind_some hs
  refine xk_call (b := false) rfl  Bd24 rfl (c_laws_eqIntS (M := M) x23 x27 a3 a4 hO.fut c8) rfl (by rintro _ _ _ ⟨rfl, a1⟩; exact hS.ext a1) ?_
  rintro _ d2 ⟨rfl, a1⟩
  have h0 := h0.ext a1
  have h1 := h1.ext a1
  have a3 := a3.ext a1
  have a4 := a4.ext a1
  have hC := hC.ext a1
  have hO := hO.ext a1
  have hS := hS.ext a1
  refine x_p 9 (.bool (!r32)) rfl (by kernel_rfl)  (fun _ => y_not rfl) (fun _ => hS) ?_
  refine x_end (by kernel_rfl) ?_
  clear hS
  rcases bif_some hs with ⟨a6, hs⟩ | ⟨a6, hs⟩
  ·refine c_condT (congrArg Value.bool a6) ?_
   refine c_sr ?_
   refine pl_val (.bool false) (y_assign rfl) ?_
   refine c_nil ?_
   refine wp_ret ?_
   cases hs
   exact ⟨_, fr_ovl 27 ⟨rfl, trivial⟩, hC⟩
  refine c_condF (congrArg Value.bool a6) ?_
  refine wp_skip ?_
  refine c_region ?_
  refine pl_val (.int .i64 k18) (y_move rfl) ?_
  refine pl_val (.int .i64 (w64 (k18 + 1))) (y_add rfl rfl) ?_
  refine pl_val (.int .i64 (w64 (k18 + 1))) (y_assign rfl) ?_
  refine c_nil ?_
  cases hs
  exact ⟨_, fr_ovl 27 ⟨rfl, rfl, congrArg (Value.int .i64) hw, trivial⟩, hC, hO, h0, h1⟩
 ·skip
  exact ⟨_, fr_ovl 27 ⟨rfl, rfl, rfl, trivial⟩, hC, hO, h0, h1⟩
 cases o20 with
 | nx _ => exact True.intro
 | rt r_ =>
  have hs := after_rt hs
  intro c9 a7 hK
  cases hs
  exact hK
 | br s16 =>
  have hs := after_br hs
  rintro c9 a0 ⟨σ, rfl, hC, hO, h0, h1⟩
  refine c_sr ?_
  refine pl_val (.bool true) (y_assign rfl) ?_
  refine c_nil ?_
  refine wp_ret ?_
  cases hs
  exact ⟨_, fr_ovl 27 ⟨rfl, trivial⟩, hC⟩

theorem Bd37 : Bodied Try.prog 37 := bodied Try.func37 (by kernel_rfl) rfl

def k_laws_eqRelation (M : Nat → Prop) (w0 : World) (r : Bool) (a : Act) (w : World) : Prop :=
  ∃ (σ : Nat → Value) , a = fr 16 (ovl σ [(4, (.bool r))]) ∧ Chg [] w0 w
def s_laws_eqRelation (a_ : Int × (List (List Int))) (b : Int × (List (List Int))) : Option (Bool) :=
  (bif (a_.1 != b.1) then some false else (s_laws_eqIntSS a_.2 b.2).bind fun r7 =>
  (bif (!r7) then some false else some true))
set_option maxHeartbeats 4000000 in
theorem c_laws_eqRelation {M : Nat → Prop} {w : World} {pa0 : Option Addr} {pn0 pc0 : Nat} {pa1 : Option Addr} {pn1 pc1 : Nat} (a_ : Int × (List (List Int))) (b : Int × (List (List Int))) (h0 : (RT.rs (RT.rs (RT.int .i64))).val M w (.slice pa0 pn0 pc0) a_.2 ([])) (h1 : (RT.rs (RT.rs (RT.int .i64))).val M w (.slice pa1 pn1 pc1) b.2 ([])) (hM : ∀ g, w.heap.size ≤ g → M g) {r : Bool} (hs : s_laws_eqRelation a_ b = some r) :
    Gives Try.prog 67 [(.agg #[(.int .i64 a_.1), (.slice pa0 pn0 pc0)]), (.agg #[(.int .i64 b.1), (.slice pa1 pn1 pc1)])] w (fun v w' => v = (.bool r) ∧ Chg [] w w') := by
 refine calls_fr Try.func67 rfl Try.ntmps67 (Nat.le_of_ble_eq_true rfl) ?_
 have hO := Own.start (N := Nw w []) hM Nw.fut
 have hC := Chg.refl [] w
 unfold s_laws_eqRelation at hs
 refine wp_mono (Q := KPost (k_laws_eqRelation M w r)) ?_ (fun e a b6 h => ?_)
 rotate_left
 ·cases e
  case ret =>
   obtain ⟨σ, rfl, hrest⟩ := h
   exact ret1x Try.results67 (res_tmp rfl) ⟨rfl, hrest⟩
  all_goals exact (h : False).elim
 refine c_sr ?_
 obtain ⟨a9, a5, b2, b0, a4, a0⟩ := new_block w [(.int .i64 a_.1), (.slice pa0 pn0 pc0)] 54
 refine pl_val (w' := a9) (.pointer (some ⟨a5, 0, none⟩)) (y_box rfl (by rw [b2, b0]; kernel_rfl)) ?_
 have h0 := h0.ext a4
 have h1 := h1.ext a4
 have hC := hC.ext a4
 have hO := hO.new1 a4 b0 a0.lt
 obtain ⟨b3, a6, b4, b1, a2, a3⟩ := new_block a9 [(.int .i64 b.1), (.slice pa1 pn1 pc1)] 54
 refine pl_val (w' := b3) (.pointer (some ⟨a6, 0, none⟩)) (y_box rfl (by rw [b4, b1]; kernel_rfl)) ?_
 have h0 := h0.ext a2
 have h1 := h1.ext a2
 have a0 := a0.cn a2
 have hC := hC.ext a2
 have hO := hO.new1 a2 b1 a3.lt
 refine pl_val (.bool false) (y_assign rfl) ?_
 refine c_nil ?_
 refine c_seq ?_
 refine c_sr ?_
 refine pl_val (.pointer (some ⟨a5, 0, none⟩)) (y_faddr rfl Fa54x0) ?_
 refine pl_val (.int .i64 a_.1) (y_load rfl ((box_load Ag3 Sz3 a0 [] [(.int .i64 a_.1)] [(.slice pa0 pn0 pc0)] rfl rfl (fun _ => rfl)) _ (Chg.refl _ _))) ?_
 refine pl_val (.pointer (some ⟨a6, 0, none⟩)) (y_faddr rfl Fa54x0) ?_
 refine pl_val (.int .i64 b.1) (y_load rfl ((box_load Ag3 Sz3 a3 [] [(.int .i64 b.1)] [(.slice pa1 pn1 pc1)] rfl rfl (fun _ => rfl)) _ (Chg.refl _ _))) ?_
 refine pl_val (.bool (a_.1 != b.1)) (y_neq rfl rfl) ?_
 refine c_nil ?_
 rcases bif_some hs with ⟨a7, hs⟩ | ⟨a7, hs⟩
 ·refine c_condT (congrArg Value.bool a7) ?_
  refine c_sr ?_
  refine pl_val (.bool false) (y_assign rfl) ?_
  refine c_nil ?_
  refine wp_ret ?_
  cases hs
  exact ⟨_, fr_ovl 16 ⟨rfl, trivial⟩, hC⟩
 refine c_condF (congrArg Value.bool a7) ?_
 refine wp_skip ?_
 refine c_seq ?_
 refine c_sr ?_
 refine pl_val (.pointer (some ⟨a5, 1, none⟩)) (y_faddr rfl Fa54x1) ?_
 refine pl_val (.slice pa0 pn0 pc0) (y_load rfl ((box_load Ag47 Sz47 a0 [(.int .i64 a_.1)] [(.slice pa0 pn0 pc0)] [] rfl rfl (fun _ => rfl)) _ (Chg.refl _ _))) ?_
 refine pl_val (.pointer (some ⟨a6, 1, none⟩)) (y_faddr rfl Fa54x1) ?_
 refine pl_val (.slice pa1 pn1 pc1) (y_load rfl ((box_load Ag47 Sz47 a3 [(.int .i64 b.1)] [(.slice pa1 pn1 pc1)] [] rfl rfl (fun _ => rfl)) _ (Chg.refl _ _))) ?_
 obtain ⟨r7, b5, hs⟩ := bind_some hs
 refine pl_call Bd37 rfl (c_laws_eqIntSS (M := M) a_.2 b.2 h0 h1 hO.fut b5) ?_
 rintro _ b7 ⟨rfl, a1⟩
 have h0 := h0.ext a1
 have h1 := h1.ext a1
 have a0 := a0.cn a1
 have a3 := a3.cn a1
 have hC := hC.ext a1
 have hO := hO.ext a1
 refine pl_val (.bool (!r7)) (y_not rfl) ?_
 refine c_nil ?_
 have hO := hO.drop
 have hO := hO.drop
 rcases bif_some hs with ⟨a8, hs⟩ | ⟨a8, hs⟩
 ·refine c_condT (congrArg Value.bool a8) ?_
  refine c_sr ?_
  refine pl_val (.bool false) (y_assign rfl) ?_
  refine c_nil ?_
  refine wp_ret ?_
  cases hs
  exact ⟨_, fr_ovl 16 ⟨rfl, trivial⟩, hC⟩
 refine c_condF (congrArg Value.bool a8) ?_
 refine wp_skip ?_
 refine c_sr ?_
 refine pl_val (.bool true) (y_assign rfl) ?_
 refine c_nil ?_
 refine wp_ret ?_
 cases hs
 exact ⟨_, fr_ovl 16 ⟨rfl, trivial⟩, hC⟩

theorem Bd67 : Bodied Try.prog 67 := bodied Try.func67 (by kernel_rfl) rfl

def k_laws_eqConstraint (M : Nat → Prop) (w0 : World) (r : Bool) (a : Act) (w : World) : Prop :=
  ∃ (σ : Nat → Value) , a = fr 17 (ovl σ [(4, (.bool r))]) ∧ Chg [] w0 w
def s_laws_eqConstraint (a_ : (List Int) × (Int × (List (List Int)))) (b : (List Int) × (Int × (List (List Int)))) : Option (Bool) :=
  (s_laws_eqIntS a_.1 b.1).bind fun r8 =>
  (bif (!r8) then some false else (s_laws_eqRelation (a_.2.1, a_.2.2) (b.2.1, b.2.2)).bind fun r11 =>
  (bif (!r11) then some false else some true))
set_option maxHeartbeats 4000000 in
theorem c_laws_eqConstraint {M : Nat → Prop} {w : World} {pa0 : Option Addr} {pn0 pc0 : Nat} {pa1 : Option Addr} {pn1 pc1 : Nat} {pa2 : Option Addr} {pn2 pc2 : Nat} {pa3 : Option Addr} {pn3 pc3 : Nat} (a_ : (List Int) × (Int × (List (List Int)))) (b : (List Int) × (Int × (List (List Int)))) (h0 : (RT.rs (RT.int .i64)).val M w (.slice pa0 pn0 pc0) a_.1 ([])) (h1 : (RT.rs (RT.rs (RT.int .i64))).val M w (.slice pa1 pn1 pc1) a_.2.2 ([])) (h2 : (RT.rs (RT.int .i64)).val M w (.slice pa2 pn2 pc2) b.1 ([])) (h3 : (RT.rs (RT.rs (RT.int .i64))).val M w (.slice pa3 pn3 pc3) b.2.2 ([])) (hM : ∀ g, w.heap.size ≤ g → M g) {r : Bool} (hs : s_laws_eqConstraint a_ b = some r) :
    Gives Try.prog 29 [(.agg #[(.slice pa0 pn0 pc0), (.int .i64 a_.2.1), (.slice pa1 pn1 pc1)]), (.agg #[(.slice pa2 pn2 pc2), (.int .i64 b.2.1), (.slice pa3 pn3 pc3)])] w (fun v w' => v = (.bool r) ∧ Chg [] w w') := by
 refine calls_fr Try.func29 rfl Try.ntmps29 (Nat.le_of_ble_eq_true rfl) ?_
 have hO := Own.start (N := Nw w []) hM Nw.fut
 have hC := Chg.refl [] w
 unfold s_laws_eqConstraint at hs
 refine wp_mono (Q := KPost (k_laws_eqConstraint M w r)) ?_ (fun e a b8 h => ?_)
 rotate_left
 ·cases e
  case ret =>
   obtain ⟨σ, rfl, hrest⟩ := h
   exact ret1x Try.results29 (res_tmp rfl) ⟨rfl, hrest⟩
  all_goals exact (h : False).elim
 refine c_sr ?_
 obtain ⟨b0, a6, b3, b1, a5, a0⟩ := new_block w [(.slice pa0 pn0 pc0), (.int .i64 a_.2.1), (.slice pa1 pn1 pc1)] 56
 refine pl_val (w' := b0) (.pointer (some ⟨a6, 0, none⟩)) (y_box rfl (by rw [b3, b1]; kernel_rfl)) ?_
 have h0 := h0.ext a5
 have h1 := h1.ext a5
 have h2 := h2.ext a5
 have h3 := h3.ext a5
 have hC := hC.ext a5
 have hO := hO.new1 a5 b1 a0.lt
 obtain ⟨b4, a7, b5, b2, a3, a4⟩ := new_block b0 [(.slice pa2 pn2 pc2), (.int .i64 b.2.1), (.slice pa3 pn3 pc3)] 56
 refine pl_val (w' := b4) (.pointer (some ⟨a7, 0, none⟩)) (y_box rfl (by rw [b5, b2]; kernel_rfl)) ?_
 have h0 := h0.ext a3
 have h1 := h1.ext a3
 have h2 := h2.ext a3
 have h3 := h3.ext a3
 have a0 := a0.cn a3
 have hC := hC.ext a3
 have hO := hO.new1 a3 b2 a4.lt
 refine pl_val (.bool false) (y_assign rfl) ?_
 refine c_nil ?_
 refine c_seq ?_
 refine c_sr ?_
 refine pl_val (.pointer (some ⟨a6, 0, none⟩)) (y_faddr rfl Fa56x0) ?_
 refine pl_val (.slice pa0 pn0 pc0) (y_load rfl ((box_load Ag41 Sz41 a0 [] [(.slice pa0 pn0 pc0)] [(.int .i64 a_.2.1), (.slice pa1 pn1 pc1)] rfl rfl (fun _ => rfl)) _ (Chg.refl _ _))) ?_
 refine pl_val (.pointer (some ⟨a7, 0, none⟩)) (y_faddr rfl Fa56x0) ?_
 refine pl_val (.slice pa2 pn2 pc2) (y_load rfl ((box_load Ag41 Sz41 a4 [] [(.slice pa2 pn2 pc2)] [(.int .i64 b.2.1), (.slice pa3 pn3 pc3)] rfl rfl (fun _ => rfl)) _ (Chg.refl _ _))) ?_
 obtain ⟨r8, b6, hs⟩ := bind_some hs
 refine pl_call Bd24 rfl (c_laws_eqIntS (M := M) a_.1 b.1 h0 h2 hO.fut b6) ?_
 rintro _ b9 ⟨rfl, a1⟩
 have h0 := h0.ext a1
 have h1 := h1.ext a1
 have h2 := h2.ext a1
 have h3 := h3.ext a1
 have a0 := a0.cn a1
 have a4 := a4.cn a1
 have hC := hC.ext a1
 have hO := hO.ext a1
 refine pl_val (.bool (!r8)) (y_not rfl) ?_
 refine c_nil ?_
 rcases bif_some hs with ⟨a8, hs⟩ | ⟨a8, hs⟩
 ·refine c_condT (congrArg Value.bool a8) ?_
  refine c_sr ?_
  refine pl_val (.bool false) (y_assign rfl) ?_
  refine c_nil ?_
  refine wp_ret ?_
  cases hs
  exact ⟨_, fr_ovl 17 ⟨rfl, trivial⟩, hC⟩
 refine c_condF (congrArg Value.bool a8) ?_
 refine wp_skip ?_
 refine c_seq ?_
 refine c_sr ?_
 refine pl_val (.pointer (some ⟨a6, 1, none⟩)) (y_faddr rfl Fa56x1) ?_
 refine pl_val (.agg #[(.int .i64 a_.2.1), (.slice pa1 pn1 pc1)]) (y_load rfl ((box_load Ag54 Sz54 a0 [(.slice pa0 pn0 pc0)] [(.int .i64 a_.2.1), (.slice pa1 pn1 pc1)] [] rfl rfl (fun h => nomatch h)) _ (Chg.refl _ _))) ?_
 refine pl_val (.pointer (some ⟨a7, 1, none⟩)) (y_faddr rfl Fa56x1) ?_
 refine pl_val (.agg #[(.int .i64 b.2.1), (.slice pa3 pn3 pc3)]) (y_load rfl ((box_load Ag54 Sz54 a4 [(.slice pa2 pn2 pc2)] [(.int .i64 b.2.1), (.slice pa3 pn3 pc3)] [] rfl rfl (fun h => nomatch h)) _ (Chg.refl _ _))) ?_
 obtain ⟨r11, b7, hs⟩ := bind_some hs
 refine pl_call Bd67 rfl (c_laws_eqRelation (M := M) (a_.2.1, a_.2.2) (b.2.1, b.2.2) h1 h3 hO.fut b7) ?_
 rintro _ c0 ⟨rfl, a2⟩
 have h0 := h0.ext a2
 have h1 := h1.ext a2
 have h2 := h2.ext a2
 have h3 := h3.ext a2
 have a0 := a0.cn a2
 have a4 := a4.cn a2
 have hC := hC.ext a2
 have hO := hO.ext a2
 refine pl_val (.bool (!r11)) (y_not rfl) ?_
 refine c_nil ?_
 have hO := hO.drop
 have hO := hO.drop
 rcases bif_some hs with ⟨a9, hs⟩ | ⟨a9, hs⟩
 ·refine c_condT (congrArg Value.bool a9) ?_
  refine c_sr ?_
  refine pl_val (.bool false) (y_assign rfl) ?_
  refine c_nil ?_
  refine wp_ret ?_
  cases hs
  exact ⟨_, fr_ovl 17 ⟨rfl, trivial⟩, hC⟩
 refine c_condF (congrArg Value.bool a9) ?_
 refine wp_skip ?_
 refine c_sr ?_
 refine pl_val (.bool true) (y_assign rfl) ?_
 refine c_nil ?_
 refine wp_ret ?_
 cases hs
 exact ⟨_, fr_ovl 17 ⟨rfl, trivial⟩, hC⟩

theorem Bd29 : Bodied Try.prog 29 := bodied Try.func29 (by kernel_rfl) rfl

def k_laws_eqConstraintS (M : Nat → Prop) (w0 : World) (r : Bool) (a : Act) (w : World) : Prop :=
  ∃ (σ : Nat → Value) , a = fr 27 (ovl σ [(4, (.bool r))]) ∧ Chg [] w0 w
def s_laws_eqConstraintS (a_ : List ((List Int) × (Int × (List (List Int))))) (b : List ((List Int) × (Int × (List (List Int))))) : Option (Bool) :=
  (bif ((a_.length : Int) != (b.length : Int)) then some false else (forC (S := Unit) (R := Bool) (fun k20 s18 =>
  (idx a_ k20).bind fun x25 =>
  (idx b k20).bind fun x30 =>
  (s_laws_eqConstraint (x25.1, (x25.2.1, x25.2.2)) (x30.1, (x30.2.1, x30.2.2))).bind fun r36 =>
  (bif (!r36) then some (.rt false) else some (.nx ()))) 0 (a_.length : Int) ()).bind fun o22 => after o22 (fun r_ => some r_) (fun s18 =>
  some true))
set_option maxHeartbeats 4000000 in
theorem c_laws_eqConstraintS {M : Nat → Prop} {w : World} {pa0 : Option Addr} {pn0 pc0 : Nat} {pa1 : Option Addr} {pn1 pc1 : Nat} (a_ : List ((List Int) × (Int × (List (List Int))))) (b : List ((List Int) × (Int × (List (List Int))))) (h0 : (RT.rs (RT.pr (RT.rs (RT.int .i64)) (RT.pr (RT.int .i64) (RT.rs (RT.rs (RT.int .i64)))))).val M w (.slice pa0 pn0 pc0) a_ ([])) (h1 : (RT.rs (RT.pr (RT.rs (RT.int .i64)) (RT.pr (RT.int .i64) (RT.rs (RT.rs (RT.int .i64)))))).val M w (.slice pa1 pn1 pc1) b ([])) (hM : ∀ g, w.heap.size ≤ g → M g) {r : Bool} (hs : s_laws_eqConstraintS a_ b = some r) :
    Gives Try.prog 54 [(.slice pa0 pn0 pc0), (.slice pa1 pn1 pc1)] w (fun v w' => v = (.bool r) ∧ Chg [] w w') := by
 refine calls_fr Try.func54 rfl Try.ntmps54 (Nat.le_of_ble_eq_true rfl) ?_
 have hO := Own.start (N := Nw w []) hM Nw.fut
 have hC := Chg.refl [] w
 unfold s_laws_eqConstraintS at hs
 refine wp_mono (Q := KPost (k_laws_eqConstraintS M w r)) ?_ (fun e a a9 h => ?_)
 rotate_left
 ·cases e
  case ret =>
   obtain ⟨σ, rfl, hrest⟩ := h
   exact ret1x Try.results54 (res_tmp rfl) ⟨rfl, hrest⟩
  all_goals exact (h : False).elim
 refine c_sr ?_
 refine pl_val (.bool false) (y_assign rfl) ?_
 refine c_nil ?_
 refine c_seq ?_
 refine c_sr ?_
 refine pl_val (.slice pa0 pn0 pc0) (y_move rfl) ?_
 refine pl_val (.int .i64 (a_.length : Int)) (y_len' Sl28 (rs_len h0) rfl) ?_
 refine pl_val (.slice pa1 pn1 pc1) (y_move rfl) ?_
 refine pl_val (.int .i64 (b.length : Int)) (y_len' Sl28 (rs_len h1) rfl) ?_
 refine pl_val (.bool ((a_.length : Int) != (b.length : Int))) (y_neq rfl rfl) ?_
 refine c_nil ?_
 rcases bif_some hs with ⟨a3, hs⟩ | ⟨a3, hs⟩
 ·refine c_condT (congrArg Value.bool a3) ?_
  refine c_sr ?_
  refine pl_val (.bool false) (y_assign rfl) ?_
  refine c_nil ?_
  refine wp_ret ?_
  cases hs
  exact ⟨_, fr_ovl 27 ⟨rfl, trivial⟩, hC⟩
 refine c_condF (congrArg Value.bool a3) ?_
 refine wp_skip ?_
 refine c_seq ?_
 refine c_sr ?_
 refine pl_val (.int .i64 0) (y_assign rfl) ?_
 refine c_nil ?_
 obtain ⟨o22, b0, hs⟩ := bind_some hs
 refine wp_block ?_
 refine wp_forC (id := 0) (a_.length : Int) (I := fun k20 s18 a a0 => ∃ (σ : Nat → Value), a = fr 27 (ovl σ [(0, (.slice pa0 pn0 pc0)), (1, (.slice pa1 pn1 pc1)), (5, (.int .i64 k20))]) ∧ Chg [] w a0 ∧ Own (Nw w []) M a0 ([]) ∧ (RT.rs (RT.pr (RT.rs (RT.int .i64)) (RT.pr (RT.int .i64) (RT.rs (RT.rs (RT.int .i64)))))).val M a0 (.slice pa0 pn0 pc0) a_ ([]) ∧ (RT.rs (RT.pr (RT.rs (RT.int .i64)) (RT.pr (RT.int .i64) (RT.rs (RT.rs (RT.int .i64)))))).val M a0 (.slice pa1 pn1 pc1) b ([])) (J := fun s18 a a0 => ∃ (σ : Nat → Value), a = fr 27 (ovl σ []) ∧ Chg [] w a0 ∧ Own (Nw w []) M a0 ([]) ∧ (RT.rs (RT.pr (RT.rs (RT.int .i64)) (RT.pr (RT.int .i64) (RT.rs (RT.rs (RT.int .i64)))))).val M a0 (.slice pa0 pn0 pc0) a_ ([]) ∧ (RT.rs (RT.pr (RT.rs (RT.int .i64)) (RT.pr (RT.int .i64) (RT.rs (RT.rs (RT.int .i64)))))).val M a0 (.slice pa1 pn1 pc1) b ([])) (K := (k_laws_eqConstraintS M w)) ?_ ?_ 0 () o22 _ _ ?_ b0 ?_
 ·rintro k20 s18 a a0 ⟨σ, rfl, hC, hO, h0, h1⟩ hlt
  refine c_seq ?_
  refine c_sr ?_
  refine pl_val (.int .i64 k20) (y_move rfl) ?_
  refine pl_val (.slice pa0 pn0 pc0) (y_move rfl) ?_
  refine pl_val (.int .i64 (a_.length : Int)) (y_len' Sl28 (rs_len h0) rfl) ?_
  refine pl_val (.bool (decide (k20 < (a_.length : Int)))) (y_lss rfl rfl) ?_
  refine c_nil ?_
  refine c_condF (congrArg Value.bool (decide_eq_false hlt)) ?_
  refine wp_exit ?_
  exact ⟨rfl, _, fr_ovl 27 trivial, hC, hO, h0, h1⟩
 ·rintro k20 s18 o22 a a0 ⟨σ, rfl, hC, hO, h0, h1⟩ hlt hw hs
  refine c_seq ?_
  refine c_sr ?_
  refine pl_val (.int .i64 k20) (y_move rfl) ?_
  refine pl_val (.slice pa0 pn0 pc0) (y_move rfl) ?_
  refine pl_val (.int .i64 (a_.length : Int)) (y_len' Sl28 (rs_len h0) rfl) ?_
  refine pl_val (.bool (decide (k20 < (a_.length : Int)))) (y_lss rfl rfl) ?_
  refine c_nil ?_
  refine c_condT (congrArg Value.bool (decide_eq_true hlt)) ?_
  refine wp_skip ?_
  refine c_seq ?_
  refine wp_block ?_
  refine c_seq ?_
  refine x_start [] Mx rfl ?_
  have a2 := Chg.drew a0
  generalize World.drew a0 = b1 at a2 ⊢
  have h0 := h0.ext a2
  have h1 := h1.ext a2
  have hC := hC.ext a2
  have hO := hO.ext a2
  have hS := Chg.refl [] b1
  refine x_p 0 (.slice pa0 pn0 pc0) rfl (by kernel_rfl)  (fun _ => y_move rfl) (fun _ => hS) ?_
  refine x_p 1 (.int .i64 k20) rfl (by kernel_rfl)  (fun _ => y_move rfl) (fun _ => hS) ?_
  obtain ⟨x25, b2, hs⟩ := bind_some hs
  obtain ⟨b3, b4, b5, b6⟩ := rs_idx Sl28 Sz56 h0 b2
  refine x_p 2 (.pointer (some ⟨b3, b4, none⟩)) rfl (by kernel_rfl)  (fun _ => b5 _ _ _ _ _ _ _ _ _ rfl rfl) (fun _ => hS) ?_
  obtain ⟨f0, b7, b8⟩ := at_load Ag56 Sz56 (by intro h; cases h) b6
  obtain ⟨f1, rfl, b9⟩ := b8
  obtain ⟨f2, f3, rfl, c0, c1⟩ := pr_open b9
  obtain ⟨c2, c3, c4, rfl, a4⟩ := rs_rel c0
  obtain ⟨f4, f5, rfl, c5, c6⟩ := pr_open c1
  obtain rfl := int_rel c5
  obtain ⟨c7, c8, c9, rfl, a5⟩ := rs_rel c6
  refine x_l 3 (.agg #[(.slice c2 c3 c4), (.int .i64 x25.2.1), (.slice c7 c8 c9)]) rfl (by kernel_rfl)  (fun w' hw' => y_load rfl (b7 w' hw')) hS ?_
  refine x_p 4 (.slice pa1 pn1 pc1) rfl (by kernel_rfl)  (fun _ => y_move rfl) (fun _ => hS) ?_
  refine x_p 5 (.int .i64 k20) rfl (by kernel_rfl)  (fun _ => y_move rfl) (fun _ => hS) ?_
  obtain ⟨x30, d0, hs⟩ := bind_some hs
  obtain ⟨d1, d2, d3, d4⟩ := rs_idx Sl28 Sz56 h1 d0
  refine x_p 6 (.pointer (some ⟨d1, d2, none⟩)) rfl (by kernel_rfl)  (fun _ => d3 _ _ _ _ _ _ _ _ _ rfl rfl) (fun _ => hS) ?_
  obtain ⟨f6, d5, d6⟩ := at_load Ag56 Sz56 (by intro h; cases h) d4
  obtain ⟨f7, rfl, d7⟩ := d6
  obtain ⟨f8, f9, rfl, d8, d9⟩ := pr_open d7
  obtain ⟨e0, e1, e2, rfl, a6⟩ := rs_rel d8
  obtain ⟨g0, g1, rfl, e3, e4⟩ := pr_open d9
  obtain rfl := int_rel e3
  obtain ⟨e5, e6, e7, rfl, a7⟩ := rs_rel e4
  refine x_l 7 (.agg #[(.slice e0 e1 e2), (.int .i64 x30.2.1), (.slice e5 e6 e7)]) rfl (by kernel_rfl)  (fun w' hw' => y_load rfl (d5 w' hw')) hS ?_
  refine x_one (i := 8) (by kernel_rfl) ?_
  obtain ⟨r36, e8, hs⟩ := bind_some hs
  refine xk_call (b := false) rfl  Bd29 rfl (c_laws_eqConstraint (M := M) (x25.1, (x25.2.1, x25.2.2)) (x30.1, (x30.2.1, x30.2.2)) a4 a5 a6 a7 hO.fut e8) rfl (by rintro _ _ _ ⟨rfl, a1⟩; exact hS.ext a1) ?_
  rintro _ g2 ⟨rfl, a1⟩
  have h0 := h0.ext a1
  have h1 := h1.ext a1
  have a4 := a4.ext a1
  have a5 := a5.ext a1
  have a6 := a6.ext a1
  have a7 := a7.ext a1
  have hC := hC.ext a1
  have hO := hO.ext a1
  have hS := hS.ext a1
  refine x_p 9 (.bool (!r36)) rfl (by kernel_rfl)  (fun _ => y_not rfl) (fun _ => hS) ?_
  refine x_end (by kernel_rfl) ?_
  clear hS
  rcases bif_some hs with ⟨a8, hs⟩ | ⟨a8, hs⟩
  ·refine c_condT (congrArg Value.bool a8) ?_
   refine c_sr ?_
   refine pl_val (.bool false) (y_assign rfl) ?_
   refine c_nil ?_
   refine wp_ret ?_
   cases hs
   exact ⟨_, fr_ovl 27 ⟨rfl, trivial⟩, hC⟩
  refine c_condF (congrArg Value.bool a8) ?_
  refine wp_skip ?_
  refine c_region ?_
  refine pl_val (.int .i64 k20) (y_move rfl) ?_
  refine pl_val (.int .i64 (w64 (k20 + 1))) (y_add rfl rfl) ?_
  refine pl_val (.int .i64 (w64 (k20 + 1))) (y_assign rfl) ?_
  refine c_nil ?_
  cases hs
  exact ⟨_, fr_ovl 27 ⟨rfl, rfl, congrArg (Value.int .i64) hw, trivial⟩, hC, hO, h0, h1⟩
 ·skip
  exact ⟨_, fr_ovl 27 ⟨rfl, rfl, rfl, trivial⟩, hC, hO, h0, h1⟩
 cases o22 with
 | nx _ => exact True.intro
 | rt r_ =>
  have hs := after_rt hs
  intro e9 a9 hK
  cases hs
  exact hK
 | br s18 =>
  have hs := after_br hs
  rintro e9 a0 ⟨σ, rfl, hC, hO, h0, h1⟩
  refine c_sr ?_
  refine pl_val (.bool true) (y_assign rfl) ?_
  refine c_nil ?_
  refine wp_ret ?_
  cases hs
  exact ⟨_, fr_ovl 27 ⟨rfl, trivial⟩, hC⟩

theorem Bd54 : Bodied Try.prog 54 := bodied Try.func54 (by kernel_rfl) rfl

end Go.Proofs
