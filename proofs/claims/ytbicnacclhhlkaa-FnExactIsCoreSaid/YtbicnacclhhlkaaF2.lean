/- What functions of the program compute, as plain functions, and that a call gives just that. Conditions: those named in each theorem. -/
import Derived.Test.YtbicnacclhhlkaaF1
set_option linter.unusedVariables false
namespace Go.Proofs
open Go.G Go.RowKit
set_option maxRecDepth 100000

def k_impl_tupleSet (M : Nat → Prop) (w0 : World) (r : (List (ByteArray × Bool))) (a : Act) (w : World) : Prop :=
  ∃ (σ : Nat → Value) (rn0 : Nat) (rf0 : List Nat), a = fr 19 (ovl σ [(2, (.map (some rn0)))]) ∧ Chg [] w0 w ∧ (RT.mo Value.bool).val M w (.map (some rn0)) r rf0 ∧ Own (Nw w0 []) (fun _ => True) w (rf0 ++ ([]))
def s_impl_tupleSet (r_ : Int × (List (List Int))) : Option ((List (ByteArray × Bool))) :=
  (forR (S := (List (ByteArray × Bool))) (R := (List (ByteArray × Bool))) (fun _ x21 s18 =>
  (s_impl_keyOf x21).bind fun r30 =>
  some (.nx (mput s18 r30 true))) 0 r_.2 ([])).bind fun o22 => after o22 (fun r_ => some r_) (fun s18 =>
  some s18)
set_option maxHeartbeats 4000000 in
theorem c_impl_tupleSet {M : Nat → Prop} {w : World} {pa0 : Option Addr} {pn0 pc0 : Nat} (r_ : Int × (List (List Int))) (h0 : (RT.rs (RT.rs (RT.int .i64))).val M w (.slice pa0 pn0 pc0) r_.2 ([])) (hM : ∀ g, w.heap.size ≤ g → M g) {r : (List (ByteArray × Bool))} (hs : s_impl_tupleSet r_ = some r) :
    Gives Try.prog 111 [(.agg #[(.int .i64 r_.1), (.slice pa0 pn0 pc0)])] w (fun v w' => ∃ (rn0 : Nat) (rf0 : List Nat), v = (.map (some rn0)) ∧ Chg [] w w' ∧ (RT.mo Value.bool).val M w' (.map (some rn0)) r rf0 ∧ Own (Nw w []) (fun _ => True) w' (rf0 ++ ([]))) := by
 refine calls_fr Try.func111 rfl Try.ntmps111 (Nat.le_of_ble_eq_true rfl) ?_
 have hO := Own.start (N := Nw w []) hM Nw.fut
 have hC := Chg.refl [] w
 unfold s_impl_tupleSet at hs
 refine wp_mono (Q := KPost (k_impl_tupleSet M w r)) ?_ (fun e a c0 h => ?_)
 rotate_left
 ·cases e
  case ret =>
   obtain ⟨σ, rn0, rf0, rfl, hrest⟩ := h
   exact ret1x Try.results111 (res_tmp rfl) ⟨rn0, rf0, rfl, hrest⟩
  all_goals exact (h : False).elim
 refine c_sr ?_
 obtain ⟨b5, b6, c1, b7, b1, a7⟩ := new_block w [(.int .i64 r_.1), (.slice pa0 pn0 pc0)] 54
 refine pl_val (w' := b5) (.pointer (some ⟨b6, 0, none⟩)) (y_box rfl (by rw [c1, b7]; kernel_rfl)) ?_
 have h0 := h0.ext b1
 have hC := hC.ext b1
 have hO := hO.new1 b1 b7 a7.lt
 refine pl_val (.map none) (y_assign rfl) ?_
 refine c_nil ?_
 refine c_sr ?_
 obtain ⟨c2, a0, c3, b8, a8, b9⟩ := mo_make (enc := Value.bool) (M := M) b5
 refine pl_val (w' := c2) (.map (some a0)) (by rw [c3, b8]; exact y_mmap) ?_
 have h0 := h0.ext a8
 have a7 := a7.cn a8
 have hC := hC.ext a8
 have hO := hO.new (X' := [a0]) a8 (fun q hq => by rw [List.mem_singleton.1 hq, b8]; exact Nat.le_refl _) (List.nodup_cons.2 ⟨(fun h => nomatch h), List.nodup_nil⟩) b9.fpl
 refine pl_val (.map (some a0)) (y_assign rfl) ?_
 refine c_nil ?_
 refine c_seq ?_
 refine c_sr ?_
 refine pl_val (.pointer (some ⟨b6, 1, none⟩)) (y_faddr rfl Fa54x1) ?_
 refine pl_val (.slice pa0 pn0 pc0) (y_load rfl ((box_load Ag47 Sz47 a7 [(.int .i64 r_.1)] [(.slice pa0 pn0 pc0)] [] rfl rfl (fun _ => rfl)) _ (Chg.refl _ _))) ?_
 refine pl_val (.int .i64 (r_.2.length : Int)) (y_len' Sl47 (rs_len h0) rfl) ?_
 refine pl_val (.int .i64 0) (y_move rfl) ?_
 refine c_nil ?_
 have hO := hO.fr1
 have hO := hO.drop
 obtain ⟨o22, c4, hs⟩ := bind_some hs
 refine wp_block ?_
 refine wp_forR (id := 0) (I := fun i_ xs_ s18 a a1 => ∃ a2 : Nat, i_ = (a2 : Int) ∧ List.drop a2 r_.2 = xs_ ∧ (∃ (σ : Nat → Value) (a3 : List Nat), a = fr 19 (ovl σ [(3, (.map (some a0))), (8, (.slice pa0 pn0 pc0)), (9, (.int .i64 (r_.2.length : Int))), (10, (.int .i64 (a2 : Int)))]) ∧ Chg [] w a1 ∧ Own (Nw w []) M a1 (a3 ++ []) ∧ (RT.rs (RT.rs (RT.int .i64))).val M a1 (.slice pa0 pn0 pc0) r_.2 ([]) ∧ (RT.mo Value.bool).val M a1 (.map (some a0)) s18 a3)) (J := fun s18 a a1 => ∃ (σ : Nat → Value) (a9 : List Nat), a = fr 19 (ovl σ [(3, (.map (some a0)))]) ∧ Chg [] w a1 ∧ Own (Nw w []) M a1 (a9 ++ []) ∧ (RT.rs (RT.rs (RT.int .i64))).val M a1 (.slice pa0 pn0 pc0) r_.2 ([]) ∧ (RT.mo Value.bool).val M a1 (.map (some a0)) s18 a9) (K := (k_impl_tupleSet M w)) ?_ ?_ r_.2 0 ([]) o22 _ _ ?_ c4 ?_
 ·rintro _ s18 a a1 ⟨a2, rfl, hd, σ, a3, rfl, hC, hO, h0, a5⟩
  have hlt := drop_nil_ge hd
  refine c_sr ?_
  refine pl_val (.bool (decide ((a2 : Int) < (r_.2.length : Int)))) (y_lss rfl rfl) ?_
  refine c_nil ?_
  refine c_seq ?_
  refine c_condF (congrArg Value.bool (decide_eq_false hlt)) ?_
  refine wp_exit ?_
  exact ⟨rfl, _, a3, fr_ovl 19 ⟨rfl, trivial⟩, hC, hO, h0, a5⟩
 ·rintro _ x21 xs_ s18 o22 a a1 ⟨a2, rfl, hd, σ, a3, rfl, hC, hO, h0, a5⟩ hs
  have hlt := drop_cons_lt hd
  have c5 := drop_cons_idx hd
  refine c_sr ?_
  refine pl_val (.bool (decide ((a2 : Int) < (r_.2.length : Int)))) (y_lss rfl rfl) ?_
  refine c_nil ?_
  refine c_seq ?_
  refine c_condT (congrArg Value.bool (decide_eq_true hlt)) ?_
  refine wp_skip ?_
  refine c_seq ?_
  refine wp_block ?_
  refine c_sr ?_
  obtain ⟨c6, c7, c8, c9⟩ := rs_idx Sl47 Sz41 h0 c5
  refine pl_val (.pointer (some ⟨c6, c7, none⟩)) (c8 _ _ _ _ _ _ _ _ _ rfl rfl) ?_
  obtain ⟨d7, d0, a4⟩ := at_load Ag41 Sz41 (fun _ => rfl) c9
  obtain ⟨b2, b3, b4, rfl⟩ := rs_sl a4
  refine pl_val (.slice b2 b3 b4) (y_load rfl (d0 _ (Chg.refl _ _))) ?_
  refine pl_val (.slice b2 b3 b4) (y_assign rfl) ?_
  refine c_nil ?_
  refine c_region ?_
  refine pl_val (.map (some a0)) (y_move rfl) ?_
  refine pl_val (.slice b2 b3 b4) (y_move rfl) ?_
  obtain ⟨r30, d1, hs⟩ := bind_some hs
  refine pl_call Bd112 rfl (c_impl_keyOf (M := M) x21 a4 hO.fut d1) ?_
  rintro _ d8 ⟨rfl, a6⟩
  have h0 := h0.ext a6
  have a5 := a5.ext a6
  have a4 := a4.ext a6
  have hC := hC.ext a6
  have hO := hO.ext a6
  obtain ⟨d2, d3, b0, d4⟩ := mo_put (P := Try.prog) (t := 130) (key := r30) (x := true) Try.underlying130 Try.underlying9 a5
  refine pl_skip (w' := d2) (ys_put rfl rfl rfl d3) ?_
  have h0 := h0.mt b0 hO same_
  have a4 := a4.mt b0 hO same_
  have hC := hC.st b0 hO same_
  have hO := hO.ext b0
  refine c_nil ?_
  refine c_region ?_
  refine pl_val (.int .i64 (w64 ((a2 : Int) + 1))) (y_add rfl rfl) ?_
  refine pl_val (.int .i64 (w64 ((a2 : Int) + 1))) (y_move rfl) ?_
  refine c_nil ?_
  cases hs
  exact ⟨_, rfl, drop_cons_next hd, _, a3, fr_ovl 19 ⟨rfl, rfl, rfl, congrArg (Value.int .i64) (w64_succ hlt (Int.natCast_nonneg _) (rs_max h0)), trivial⟩, hC, hO, h0, d4⟩
 ·skip
  exact ⟨0, rfl, rfl, _, [a0], fr_ovl 19 ⟨rfl, rfl, rfl, rfl, trivial⟩, hC, hO, h0, b9⟩
 cases o22 with
 | nx _ => exact True.intro
 | rt r_ =>
  have hs := after_rt hs
  intro d5 c0 hK
  cases hs
  exact hK
 | br s18 =>
  have hs := after_br hs
  rintro d5 a1 ⟨σ, a9, rfl, hC, hO, h0, d6⟩
  refine c_sr ?_
  refine pl_val (.map (some a0)) (y_move rfl) ?_
  refine pl_val (.map (some a0)) (y_assign rfl) ?_
  refine c_nil ?_
  refine wp_ret ?_
  cases hs
  exact ⟨_, a0, a9, fr_ovl 19 ⟨rfl, trivial⟩, hC, d6, hO.top⟩

def k_impl_argsAt (M : Nat → Prop) (w0 : World) (r : (List Int)) (a : Act) (w : World) : Prop :=
  ∃ (σ : Nat → Value) (ra0 : Option Addr) (rn0 rc0 : Nat) (rf0 : List Nat), a = fr 27 (ovl σ [(6, (.slice ra0 rn0 rc0))]) ∧ Chg [] w0 w ∧ (RT.os 3 (RT.int .i64)).val M w (.slice ra0 rn0 rc0) r rf0 ∧ Own (Nw w0 []) (fun _ => True) w (rf0 ++ ([]))
def s_impl_argsAt (i : Int) (k : Int) (n : Int) : Option ((List Int)) :=
  (mks k (0 : Int)).bind fun y2 =>
  (iter (S := Int × Int × (List Int)) (R := (List Int)) (fun s17 =>
  (bif (decide (0 ≤ s17.2.1)) then (nz n).bind fun u26 =>
  (idx s17.2.2 s17.2.1).bind fun x27 =>
  (nz n).bind fun u30 =>
  some (.nx (w64 (Int.tdiv s17.1 n), w64 (s17.2.1 - 1), List.set s17.2.2 (Int.toNat s17.2.1) (Int.tmod s17.1 n))) else some (.br (s17.1, s17.2.1, s17.2.2)))) FU (i, w64 (k - 1), y2)).bind fun o21 => after o21 (fun r_ => some r_) (fun s17 =>
  some s17.2.2)
set_option maxHeartbeats 4000000 in
theorem c_impl_argsAt {M : Nat → Prop} {w : World}  (i : Int) (k : Int) (n : Int)  (hM : ∀ g, w.heap.size ≤ g → M g) {r : (List Int)} (hs : s_impl_argsAt i k n = some r) :
    Gives Try.prog 91 [(.int .i64 i), (.int .i64 k), (.int .i64 n)] w (fun v w' => ∃ (ra0 : Option Addr) (rn0 rc0 : Nat) (rf0 : List Nat), v = (.slice ra0 rn0 rc0) ∧ Chg [] w w' ∧ (RT.os 3 (RT.int .i64)).val M w' (.slice ra0 rn0 rc0) r rf0 ∧ Own (Nw w []) (fun _ => True) w' (rf0 ++ ([]))) := by
 refine calls_fr Try.func91 rfl Try.ntmps91 (Nat.le_of_ble_eq_true rfl) ?_
 have hO := Own.start (N := Nw w []) hM Nw.fut
 have hC := Chg.refl [] w
 unfold s_impl_argsAt at hs
 refine wp_mono (Q := KPost (k_impl_argsAt M w r)) ?_ (fun e a a7 h => ?_)
 rotate_left
 ·cases e
  case ret =>
   obtain ⟨σ, ra0, rn0, rc0, rf0, rfl, hrest⟩ := h
   exact ret1x Try.results91 (res_tmp rfl) ⟨ra0, rn0, rc0, rf0, rfl, hrest⟩
  all_goals exact (h : False).elim
 refine c_sr ?_
 refine pl_val (.slice none 0 0) (y_assign rfl) ?_
 refine c_nil ?_
 refine c_sr ?_
 refine pl_val (.int .i64 k) (y_move rfl) ?_
 obtain ⟨y2, b5, hs⟩ := bind_some hs
 obtain ⟨a0, a1, a2, a7, b6, b7, b1, b8, a8⟩ := mk_os (M := M) (w := w) (r := (RT.int .i64)) Rw41 b5 (fun _ _ => ⟨rfl, rfl⟩)
 refine pl_val (w' := a7) (.slice a0 a1 a2) (y_make rfl rfl b7) ?_
 have hC := hC.ext b1
 have hO := hO.new b1 b8 (os_nodup a8) a8.fpl
 refine pl_val (.slice a0 a1 a2) (y_assign rfl) ?_
 refine c_nil ?_
 refine c_seq ?_
 refine c_sr ?_
 refine pl_val (.int .i64 k) (y_move rfl) ?_
 refine pl_val (.int .i64 (w64 (k - 1))) (y_sub rfl rfl) ?_
 refine pl_val (.int .i64 (w64 (k - 1))) (y_assign rfl) ?_
 refine c_nil ?_
 obtain ⟨o21, b9, hs⟩ := bind_some hs
 refine wp_block ?_
 refine wp_iter (id := 0) (I := fun s17 a a3 => ∃ (σ : Nat → Value) (a4 : List Nat), a = fr 27 (ovl σ [(0, (.int .i64 s17.1)), (2, (.int .i64 n)), (7, (.slice a0 a1 a2)), (8, (.int .i64 s17.2.1))]) ∧ Chg [] w a3 ∧ Own (Nw w []) M a3 (a4 ++ []) ∧ (RT.os 3 (RT.int .i64)).val M a3 (.slice a0 a1 a2) s17.2.2 a4) (J := fun s17 a a3 => ∃ (σ : Nat → Value) (a6 : List Nat), a = fr 27 (ovl σ [(7, (.slice a0 a1 a2))]) ∧ Chg [] w a3 ∧ Own (Nw w []) M a3 (a6 ++ []) ∧ (RT.os 3 (RT.int .i64)).val M a3 (.slice a0 a1 a2) s17.2.2 a6) (K := (k_impl_argsAt M w)) ?_ FU (i, w64 (k - 1), y2) o21 _ _ ?_ b9 ?_
 ·rintro s17 o21 a a3 ⟨σ, a4, rfl, hC, hO, a5⟩ hs
  refine c_seq ?_
  refine c_sr ?_
  refine pl_val (.int .i64 s17.2.1) (y_move rfl) ?_
  refine pl_val (.bool (decide (0 ≤ s17.2.1))) (y_geq rfl rfl) ?_
  refine c_nil ?_
  rcases bif_some hs with ⟨a9, hs⟩ | ⟨a9, hs⟩
  ·refine c_condT (congrArg Value.bool a9) ?_
   refine wp_skip ?_
   refine c_seq ?_
   refine wp_block ?_
   refine c_sr ?_
   refine pl_val (.slice a0 a1 a2) (y_move rfl) ?_
   refine pl_val (.int .i64 s17.2.1) (y_move rfl) ?_
   refine pl_val (.int .i64 s17.1) (y_move rfl) ?_
   refine pl_val (.int .i64 n) (y_move rfl) ?_
   obtain ⟨u26, c0, hs⟩ := bind_some hs
   refine pl_val (.int .i64 (Int.tmod s17.1 n)) (y_rem rfl rfl (nz_ne c0)) ?_
   obtain ⟨x27, c1, hs⟩ := bind_some hs
   obtain ⟨b2, d1, b3, c2, c3, d2, d3⟩ := os_idx Sl41 Sz3 a5 c1
   refine pl_val (.pointer (some ⟨b2, 0 + Int.toNat s17.2.1 * 1, none⟩)) (c3 _ _ _ _ _ _ _ _ _ rfl rfl) ?_
   obtain ⟨c4, c5, c6, b4, c7, b0⟩ := os_store (P := Try.prog) (c' := [(.int .i64 (Int.tmod s17.1 n))]) b3 a5 c2 (fun g hg => hO.inM g (os_block a5 g (by simpa using hg))) ⟨rfl, rfl⟩ List.nodup_nil (fun _ h => nomatch h) (fun _ h => .inl h)
   have c8 : ∀ q ∈ [b2], q ∈ a4 := fun q hq => os_block a5 q (by rw [b3]; exact hq)
   refine pl_skip (w' := c4) (ys_store rfl rfl (c6 _ _ rfl Sz3)) ?_
   have hC := hC.st b4 hO c8
   have hO := hO.grow b4 (fun q hq => .inl ((c7 q hq).resolve_right (fun h => nomatch h))) (os_nodup b0) b0.fpl
   refine c_nil ?_
   refine c_region ?_
   refine pl_val (.int .i64 s17.1) (y_move rfl) ?_
   refine pl_val (.int .i64 n) (y_move rfl) ?_
   obtain ⟨u30, c9, hs⟩ := bind_some hs
   refine pl_val (.int .i64 (w64 (Int.tdiv s17.1 n))) (y_quo rfl rfl (nz_ne c9)) ?_
   refine pl_val (.int .i64 (w64 (Int.tdiv s17.1 n))) (y_assign rfl) ?_
   refine c_nil ?_
   refine c_region ?_
   refine pl_val (.int .i64 s17.2.1) (y_move rfl) ?_
   refine pl_val (.int .i64 (w64 (s17.2.1 - 1))) (y_sub rfl rfl) ?_
   refine pl_val (.int .i64 (w64 (s17.2.1 - 1))) (y_assign rfl) ?_
   refine c_nil ?_
   cases hs
   exact ⟨_, c5, fr_ovl 27 ⟨rfl, rfl, rfl, rfl, trivial⟩, hC, hO, b0⟩
  refine c_condF (congrArg Value.bool a9) ?_
  refine wp_exit ?_
  cases hs
  exact ⟨rfl, _, a4, fr_ovl 27 ⟨rfl, trivial⟩, hC, hO, a5⟩
 ·skip
  exact ⟨_, b6, fr_ovl 27 ⟨rfl, rfl, rfl, rfl, trivial⟩, hC, hO, a8⟩
 cases o21 with
 | nx _ => exact True.intro
 | rt r_ =>
  have hs := after_rt hs
  intro a0 a7 hK
  cases hs
  exact hK
 | br s17 =>
  have hs := after_br hs
  rintro a0 a3 ⟨σ, a6, rfl, hC, hO, d0⟩
  refine c_sr ?_
  refine pl_val (.slice a0 a1 a2) (y_move rfl) ?_
  refine pl_val (.slice a0 a1 a2) (y_assign rfl) ?_
  refine c_nil ?_
  refine wp_ret ?_
  cases hs
  exact ⟨_, a0, a1, a2, a6, fr_ovl 27 ⟨rfl, trivial⟩, hC, d0, hO.top⟩

theorem Bd65 : Bodied Try.prog 65 := bodied Try.func65 (by kernel_rfl) rfl

theorem Rw127 : RowT Try.prog 127 133 1 [(.slice none 0 0)] := ⟨Try.underlying127, ⟨_, _, rfl, rfl, rfl, rfl, by decide⟩, rfl, by decide⟩

theorem Bd111 : Bodied Try.prog 111 := bodied Try.func111 (by kernel_rfl) rfl

theorem Bd91 : Bodied Try.prog 91 := bodied Try.func91 (by kernel_rfl) rfl

theorem Zv4 : ∀ w, (zeroValue 4).run Try.prog w = .ok (Value.bool false) w := fun _ => by kernel_rfl

theorem Fa129x2 : ∀ (a : Addr) (w : World), (Instr.fieldAt 129 (.pointer (some a)) 2).run Try.prog w = .ok (.pointer (some (a.add 2))) w := fun _ _ => by kernel_rfl

theorem Ag127 : AggT Try.prog 127 false := fun _ => by kernel_rfl

theorem Sz127 : SzT Try.prog 127 1 := ⟨_, rfl, rfl⟩

theorem Sl127 : SlT Try.prog 127 133 := Try.underlying127

theorem Sz133 : SzT Try.prog 133 1 := ⟨_, rfl, rfl⟩

theorem Ag133 : AggT Try.prog 133 false := fun _ => by kernel_rfl

theorem Rw133 : RowT Try.prog 133 135 2 [(.slice none 0 0), (.map none)] := ⟨Try.underlying133, ⟨_, _, rfl, rfl, rfl, rfl, by decide⟩, rfl, by decide⟩

def k_impl_newPolySearch (M : Nat → Prop) (w0 : World) (r : (Option (Int × Int × (List (List ((List Int) × (List (ByteArray × Bool)))))))) (a : Act) (w : World) : Prop :=
  ∃ (σ : Nat → Value) (rn0 : Value) (rf0 : List Nat), a = fr 120 (ovl σ [(6, rn0)]) ∧ Chg [] w0 w ∧ (RT.op 129 (RT.pr (RT.int .i64) (RT.pr (RT.int .i64) (RT.os 133 (RT.os 135 (RT.pr (RT.rs (RT.int .i64)) (RT.mr Value.bool))))))).val (PastL M [] w0 w (rf0 ++ ([]))) w rn0 r rf0 ∧ Own (Nw w0 []) (fun _ => True) w (rf0 ++ ([]))
def s_impl_newPolySearch (n : Int) (rels : List (Int × (List (List Int)))) (k : Int) : Option ((Option (Int × Int × (List (List ((List Int) × (List (ByteArray × Bool)))))))) :=
  (s_impl_power n k).bind fun r3 =>
  (mks r3 ([] : List ((List Int) × (List (ByteArray × Bool))))).bind fun y5 =>
  (forR (S := (List (List ((List Int) × (List (ByteArray × Bool)))))) (R := (Option (Int × Int × (List (List ((List Int) × (List (ByteArray × Bool)))))))) (fun _ x1695 s1692 =>
  (s_impl_tupleSet (x1695.1, x1695.2)).bind fun r1708 =>
  (iter (S := Int × (List (List ((List Int) × (List (ByteArray × Bool))))) × (List (ByteArray × Bool)) × (List (ByteArray × Bool))) (R := (Option (Int × Int × (List (List ((List Int) × (List (ByteArray × Bool)))))))) (fun s2328 =>
  (s_impl_power (x1695.2.length : Int) k).bind fun r2343 =>
  (bif (decide (s2328.1 < r2343)) then (s_impl_argsAt s2328.1 k (x1695.2.length : Int)).bind fun r2346 =>
  (mks x1695.1 (0 : Int)).bind fun y2349 =>
  (forC (S := Int × (List Int)) (R := (Option (Int × Int × (List (List ((List Int) × (List (ByteArray × Bool)))))))) (fun k2454 s2452 =>
  (forR (S := (List Int)) (R := (Option (Int × Int × (List (List ((List Int) × (List (ByteArray × Bool)))))))) (fun _ x2490 s2487 =>
  (idx s2487 k2454).bind fun x2497 =>
  (idx x1695.2 x2490).bind fun x2499 =>
  (idx x2499 k2454).bind fun x2503 =>
  (idx s2487 k2454).bind fun x2505 =>
  some (.nx (List.set s2487 (Int.toNat k2454) (w64 ((w64 (x2497 * n)) + x2503))))) 0 r2346 s2452.2).bind fun o2491 => after o2491 (fun r_ => some (.rt r_)) (fun s2487 =>
  (idx s2487 k2454).bind fun x2508 =>
  some (.nx (max s2452.1 x2508, s2487)))) 0 (y2349.length : Int) (0, y2349)).bind fun o2456 => after o2456 (fun r_ => some (.rt r_)) (fun s2452 =>
  (s_impl_keyOf s2452.2).bind fun r2511 =>
  (bif (!((mget s2328.2.2.2 r2511).getD false)) then (idx s2328.2.1 s2452.1).bind fun x2515 =>
  (app x2515 ([(s2452.2, s2328.2.2.1)])).bind fun y2524 =>
  some (.nx (w64 (s2328.1 + 1), List.set s2328.2.1 (Int.toNat s2452.1) y2524, s2328.2.2.1, mput s2328.2.2.2 r2511 true)) else some (.nx (w64 (s2328.1 + 1), s2328.2.1, s2328.2.2.1, s2328.2.2.2)))) else some (.br (s2328.1, s2328.2.1, s2328.2.2.1, s2328.2.2.2)))) FU (0, s1692, r1708, [])).bind fun o2332 => after o2332 (fun r_ => some (.rt r_)) (fun s2328 =>
  some (.nx s2328.2.1))) 0 rels y5).bind fun o1696 => after o1696 (fun r_ => some r_) (fun s1692 =>
  some (some (n, k, s1692)))
set_option maxHeartbeats 4000000 in
theorem c_impl_newPolySearch {M : Nat → Prop} {w : World} {pa0 : Option Addr} {pn0 pc0 : Nat} (n : Int) (rels : List (Int × (List (List Int)))) (k : Int) (h0 : (RT.rs (RT.pr (RT.int .i64) (RT.rs (RT.rs (RT.int .i64))))).val M w (.slice pa0 pn0 pc0) rels ([])) (hM : ∀ g, w.heap.size ≤ g → M g) {r : (Option (Int × Int × (List (List ((List Int) × (List (ByteArray × Bool)))))))} (hs : s_impl_newPolySearch n rels k = some r) :
    Gives Try.prog 62 [(.int .i64 n), (.slice pa0 pn0 pc0), (.int .i64 k)] w (fun v w' => ∃ (rn0 : Value) (rf0 : List Nat), v = rn0 ∧ Chg [] w w' ∧ (RT.op 129 (RT.pr (RT.int .i64) (RT.pr (RT.int .i64) (RT.os 133 (RT.os 135 (RT.pr (RT.rs (RT.int .i64)) (RT.mr Value.bool))))))).val (PastL M [] w w' (rf0 ++ ([]))) w' rn0 r rf0 ∧ Own (Nw w []) (fun _ => True) w' (rf0 ++ ([]))) := by
 refine calls_fr Try.func62 rfl Try.ntmps62 (Nat.le_of_ble_eq_true rfl) ?_
 have hO := Own.start (N := Nw w []) hM Nw.fut
 have hC := Chg.refl [] w
 unfold s_impl_newPolySearch at hs
 refine wp_mono (Q := KPost (k_impl_newPolySearch M w r)) ?_ (fun e a j4 h => ?_)
 rotate_left
 ·cases e
  case ret =>
   obtain ⟨σ, rn0, rf0, rfl, hrest⟩ := h
   exact ret1x Try.results62 (res_tmp rfl) ⟨rn0, rf0, rfl, hrest⟩
  all_goals exact (h : False).elim
 refine c_sr ?_
 refine pl_val (.pointer none) (y_assign rfl) ?_
 refine c_nil ?_
 refine c_sr ?_
 refine pl_val (.int .i64 n) (y_move rfl) ?_
 refine pl_val (.int .i64 k) (y_move rfl) ?_
 refine pl_val (.int .i64 n) (y_move rfl) ?_
 refine pl_val (.int .i64 k) (y_move rfl) ?_
 obtain ⟨r3, p4, hs⟩ := bind_some hs
 refine pl_call Bd65 rfl (c_impl_power (M := M) n k  hO.fut p4) ?_
 rintro _ p5 ⟨rfl, k8⟩
 have h0 := h0.ext k8
 have hC := hC.ext k8
 have hO := hO.ext k8
 obtain ⟨y5, p6, hs⟩ := bind_some hs
 obtain ⟨b0, b1, b2, m3, p7, p8, k9, p9, i7⟩ := mk_os (M := M) (w := p5) (r := (RT.os 135 (RT.pr (RT.rs (RT.int .i64)) (RT.mr Value.bool)))) Rw127 p6 (fun _ _ => (os_unval os_nil))
 refine pl_val (w' := m3) (.slice b0 b1 b2) (y_make rfl rfl p8) ?_
 have h0 := h0.ext k9
 have hC := hC.ext k9
 have hO := hO.new k9 p9 (os_nodup i7) i7.fpl
 refine pl_val (.agg #[(.int .i64 n), (.int .i64 k), (.slice b0 b1 b2)]) (y_build rfl (by kernel_rfl)) ?_
 obtain ⟨q0, a7, q1, m4, j5, a0⟩ := new_block m3 [(.int .i64 n), (.int .i64 k), (.slice b0 b1 b2)] 129
 refine pl_val (w' := q0) (.pointer (some ⟨a7, 0, none⟩)) (y_box rfl (by rw [q1, m4]; kernel_rfl)) ?_
 have h0 := h0.ext j5
 have i7 := i7.ext j5
 have hC := hC.ext j5
 have hO := hO.new1 j5 m4 a0.lt
 refine pl_val (.pointer (some ⟨a7, 0, none⟩)) (y_assign rfl) ?_
 refine c_nil ?_
 refine c_seq ?_
 refine c_sr ?_
 refine pl_val (.slice pa0 pn0 pc0) (y_move rfl) ?_
 refine pl_val (.int .i64 (rels.length : Int)) (y_len' Sl37 (rs_len h0) rfl) ?_
 refine pl_val (.int .i64 0) (y_move rfl) ?_
 refine c_nil ?_
 obtain ⟨o1696, q2, hs⟩ := bind_some hs
 refine wp_block ?_
 refine wp_forR (id := 0) (I := fun i_ xs_ s1692 a c6 => ∃ c8 : Nat, i_ = (c8 : Int) ∧ List.drop c8 rels = xs_ ∧ (∃ (σ : Nat → Value) (f5 : Nat → Prop) (g7 : List Nat), a = fr 120 (ovl σ [(0, (.int .i64 n)), (2, (.int .i64 k)), (7, (.pointer (some ⟨a7, 0, none⟩))), (28, (.slice pa0 pn0 pc0)), (29, (.int .i64 (rels.length : Int))), (30, (.int .i64 (c8 : Int)))]) ∧ Chg [] w c6 ∧ Own (Nw w []) f5 c6 (([a7]) ++ (g7 ++ [])) ∧ KeepsF w [] M f5 ∧ (RT.rs (RT.pr (RT.int .i64) (RT.rs (RT.rs (RT.int .i64))))).val f5 c6 (.slice pa0 pn0 pc0) rels ([]) ∧ (RT.os 133 (RT.os 135 (RT.pr (RT.rs (RT.int .i64)) (RT.mr Value.bool)))).val f5 c6 (.slice b0 b1 b2) s1692 g7 ∧ BoxV c6 a7 129 [(.int .i64 n), (.int .i64 k), (.slice b0 b1 b2)])) (J := fun s1692 a c6 => ∃ (σ : Nat → Value) (h8 : Nat → Prop) (h9 : List Nat), a = fr 120 (ovl σ [(7, (.pointer (some ⟨a7, 0, none⟩)))]) ∧ Chg [] w c6 ∧ Own (Nw w []) h8 c6 (([a7]) ++ (h9 ++ [])) ∧ KeepsF w [] M h8 ∧ (RT.rs (RT.pr (RT.int .i64) (RT.rs (RT.rs (RT.int .i64))))).val h8 c6 (.slice pa0 pn0 pc0) rels ([]) ∧ (RT.os 133 (RT.os 135 (RT.pr (RT.rs (RT.int .i64)) (RT.mr Value.bool)))).val h8 c6 (.slice b0 b1 b2) s1692 h9 ∧ BoxV c6 a7 129 [(.int .i64 n), (.int .i64 k), (.slice b0 b1 b2)]) (K := (k_impl_newPolySearch M w)) ?_ ?_ rels 0 y5 o1696 _ _ ?_ q2 ?_
 ·rintro _ s1692 a c6 ⟨c8, rfl, hd, σ, f5, g7, rfl, hC, hO, hK, h0, d1, a0⟩
  have hlt := drop_nil_ge hd
  refine c_sr ?_
  refine pl_val (.bool (decide ((c8 : Int) < (rels.length : Int)))) (y_lss rfl rfl) ?_
  refine c_nil ?_
  refine c_seq ?_
  refine c_condF (congrArg Value.bool (decide_eq_false hlt)) ?_
  refine wp_exit ?_
  have hO := hO.fr1
  have hO := hO.fr1
  exact ⟨rfl, _, f5, g7, fr_ovl 120 ⟨rfl, trivial⟩, hC, hO, hK, h0, d1, a0⟩
 ·rintro _ x1695 xs_ s1692 o1696 a c6 ⟨c8, rfl, hd, σ, f5, g7, rfl, hC, hO, hK, h0, d1, a0⟩ hs
  have hlt := drop_cons_lt hd
  have q3 := drop_cons_idx hd
  refine c_sr ?_
  refine pl_val (.bool (decide ((c8 : Int) < (rels.length : Int)))) (y_lss rfl rfl) ?_
  refine c_nil ?_
  refine c_seq ?_
  refine c_condT (congrArg Value.bool (decide_eq_true hlt)) ?_
  refine wp_skip ?_
  refine c_seq ?_
  refine wp_block ?_
  refine c_sr ?_
  obtain ⟨q4, q5, q6, q7⟩ := rs_idx Sl37 Sz54 h0 q3
  refine pl_val (.pointer (some ⟨q4, q5, none⟩)) (q6 _ _ _ _ _ _ _ _ _ rfl rfl) ?_
  obtain ⟨C8, q8, q9⟩ := at_load Ag54 Sz54 (by intro h; cases h) q7
  obtain ⟨C9, rfl, r0⟩ := q9
  obtain ⟨D0, D1, rfl, r1, r2⟩ := pr_open r0
  obtain rfl := int_rel r1
  obtain ⟨b6, b7, b8, rfl, a1⟩ := rs_rel r2
  refine pl_val (.agg #[(.int .i64 x1695.1), (.slice b6 b7 b8)]) (y_load rfl (q8 _ (Chg.refl _ _))) ?_
  obtain ⟨r4, b4, r5, m5, i0, m6⟩ := new_block c6 [(.int .i64 0), (.slice none 0 0)] 54
  refine pl_val (w' := r4) (.pointer (some ⟨b4, 0, none⟩)) (y_alloc (by rw [r5, m5]; kernel_rfl)) ?_
  have h0 := h0.ext i0
  have d1 := d1.ext i0
  have a0 := a0.cn i0
  have a1 := a1.ext i0
  have hC := hC.ext i0
  have hO := hO.new1 i0 m5 m6.lt
  obtain ⟨m7, r6, i1, a2⟩ := box_store (P := Try.prog) m6 [] [(.int .i64 0), (.slice none 0 0)] [] [(.int .i64 x1695.1), (.slice b6 b7 b8)] rfl rfl (by intro u hu; simp only [List.mem_cons, List.not_mem_nil, or_false] at hu; rcases hu with rfl | rfl <;> rfl)
  refine pl_skip (w' := m7) (ys_store rfl rfl (r6 _ _ rfl Sz54)) ?_
  have h0 := h0.mt i1 hO same_
  have d1 := d1.ma i1 hO same_ (fun _ e => (mem_r (mem_l (e))))
  have a0 := a0.ap i1 hO same_ (mem_l (List.mem_singleton.2 rfl))
  have a1 := a1.mt i1 hO same_
  have hC := hC.st i1 hO same_
  have hO := hO.ext i1
  have a2 : BoxV m7 b4 54 [(.int .i64 x1695.1), (.slice b6 b7 b8)] := a2
  refine c_nil ?_
  refine c_sr ?_
  refine pl_val (.agg #[(.int .i64 x1695.1), (.slice b6 b7 b8)]) (y_load rfl ((box_load Ag54 Sz54 a2 [] [(.int .i64 x1695.1), (.slice b6 b7 b8)] [] rfl rfl (fun h => nomatch h)) _ (Chg.refl _ _))) ?_
  obtain ⟨r1708, r7, hs⟩ := bind_some hs
  refine pl_call Bd111 rfl (c_impl_tupleSet (M := f5) (x1695.1, x1695.2) a1 hO.fut r7) ?_
  rintro _ r8 ⟨c3, r9, rfl, g8, l0, s0⟩
  have h0 := h0.ext g8
  have d1 := d1.ext g8
  have a0 := a0.cn g8
  have a1 := a1.ext g8
  have a2 := a2.cn g8
  have hC := hC.ext g8
  have hO := Own.join0 hO g8 s0
  have hO := hO.perm (R := r9 ++ (([b4]) ++ (([a7]) ++ (g7 ++ ([]))))) (by simp)
  refine pl_val (.map (some c3)) (y_assign rfl) ?_
  refine c_nil ?_
  refine c_sr ?_
  obtain ⟨s1, c4, s2, m8, g6, j6⟩ := mo_make (enc := Value.bool) (M := f5) r8
  refine pl_val (w' := s1) (.map (some c4)) (by rw [s2, m8]; exact y_mmap) ?_
  have h0 := h0.ext g6
  have d1 := d1.ext g6
  have a0 := a0.cn g6
  have a1 := a1.ext g6
  have a2 := a2.cn g6
  have l0 := l0.ext g6
  have hC := hC.ext g6
  have hO := hO.new (X' := [c4]) g6 (fun q hq => by rw [List.mem_singleton.1 hq, m8]; exact Nat.le_refl _) (List.nodup_cons.2 ⟨(fun h => nomatch h), List.nodup_nil⟩) j6.fpl
  refine pl_val (.map (some c4)) (y_assign rfl) ?_
  refine c_nil ?_
  refine c_sr ?_
  refine pl_val (.int .i64 0) (y_assign rfl) ?_
  refine c_nil ?_
  have hO := hO.fr1
  obtain ⟨i9, D2, j7, s3, hO, s4⟩ := frzF_own Frz.mo l0 hO
  have h0 := h0.sub (M' := i9) j7
  have d1 := d1.sub (M' := i9) j7
  have a1 := a1.sub (M' := i9) j7
  have j6 := j6.sub (M' := i9) j7
  have hK := hK.trans s3
  obtain ⟨o2332, s5, hs⟩ := bind_some hs
  refine wp_block ?_
  refine wp_iter (id := 2) (I := fun s2328 a b9 => ∃ (σ : Nat → Value) (a5 : Nat → Prop) (c7 : List Nat) (c5 : List Nat), a = fr 120 (ovl σ [(0, (.int .i64 n)), (2, (.int .i64 k)), (7, (.pointer (some ⟨a7, 0, none⟩))), (9, (.pointer (some ⟨b4, 0, none⟩))), (10, (.map (some c3))), (11, (.map (some c4))), (12, (.int .i64 s2328.1)), (28, (.slice pa0 pn0 pc0)), (29, (.int .i64 (rels.length : Int))), (30, (.int .i64 (c8 : Int)))]) ∧ Chg [] w b9 ∧ Own (Nw w []) a5 b9 (c5 ++ (([b4]) ++ (([a7]) ++ (c7 ++ [])))) ∧ KeepsF w [] M a5 ∧ (RT.rs (RT.pr (RT.int .i64) (RT.rs (RT.rs (RT.int .i64))))).val a5 b9 (.slice pa0 pn0 pc0) rels ([]) ∧ (RT.os 133 (RT.os 135 (RT.pr (RT.rs (RT.int .i64)) (RT.mr Value.bool)))).val a5 b9 (.slice b0 b1 b2) s2328.2.1 c7 ∧ BoxV b9 a7 129 [(.int .i64 n), (.int .i64 k), (.slice b0 b1 b2)] ∧ (RT.rs (RT.rs (RT.int .i64))).val a5 b9 (.slice b6 b7 b8) x1695.2 ([]) ∧ BoxV b9 b4 54 [(.int .i64 x1695.1), (.slice b6 b7 b8)] ∧ (RT.mr Value.bool).val a5 b9 (.map (some c3)) s2328.2.2.1 ([]) ∧ (RT.mo Value.bool).val a5 b9 (.map (some c4)) s2328.2.2.2 c5) (J := fun s2328 a b9 => ∃ (σ : Nat → Value) (f6 : Nat → Prop) (j8 : List Nat) (l1 : List Nat), a = fr 120 (ovl σ [(0, (.int .i64 n)), (2, (.int .i64 k)), (7, (.pointer (some ⟨a7, 0, none⟩))), (28, (.slice pa0 pn0 pc0)), (29, (.int .i64 (rels.length : Int))), (30, (.int .i64 (c8 : Int)))]) ∧ Chg [] w b9 ∧ Own (Nw w []) f6 b9 (l1 ++ (([b4]) ++ (([a7]) ++ (j8 ++ [])))) ∧ KeepsF w [] M f6 ∧ (RT.rs (RT.pr (RT.int .i64) (RT.rs (RT.rs (RT.int .i64))))).val f6 b9 (.slice pa0 pn0 pc0) rels ([]) ∧ (RT.os 133 (RT.os 135 (RT.pr (RT.rs (RT.int .i64)) (RT.mr Value.bool)))).val f6 b9 (.slice b0 b1 b2) s2328.2.1 j8 ∧ BoxV b9 a7 129 [(.int .i64 n), (.int .i64 k), (.slice b0 b1 b2)] ∧ (RT.rs (RT.rs (RT.int .i64))).val f6 b9 (.slice b6 b7 b8) x1695.2 ([]) ∧ BoxV b9 b4 54 [(.int .i64 x1695.1), (.slice b6 b7 b8)] ∧ (RT.mr Value.bool).val f6 b9 (.map (some c3)) s2328.2.2.1 ([]) ∧ (RT.mo Value.bool).val f6 b9 (.map (some c4)) s2328.2.2.2 l1) (K := (k_impl_newPolySearch M w)) ?_ FU (0, s1692, r1708, []) o2332 _ _ ?_ s5 ?_
  ·rintro s2328 o2332 a b9 ⟨σ, a5, c7, c5, rfl, hC, hO, hK, h0, a6, a0, a1, a2, a3, a8⟩ hs
   refine c_seq ?_
   refine c_sr ?_
   refine pl_val (.int .i64 s2328.1) (y_move rfl) ?_
   refine pl_val (.pointer (some ⟨b4, 1, none⟩)) (y_faddr rfl Fa54x1) ?_
   refine pl_val (.slice b6 b7 b8) (y_load rfl ((box_load Ag47 Sz47 a2 [(.int .i64 x1695.1)] [(.slice b6 b7 b8)] [] rfl rfl (fun _ => rfl)) _ (Chg.refl _ _))) ?_
   refine pl_val (.int .i64 (x1695.2.length : Int)) (y_len' Sl47 (rs_len a1) rfl) ?_
   refine pl_val (.int .i64 k) (y_move rfl) ?_
   obtain ⟨r2343, s6, hs⟩ := bind_some hs
   refine pl_call Bd65 rfl (c_impl_power (M := a5) (x1695.2.length : Int) k  hO.fut s6) ?_
   rintro _ D3 ⟨rfl, f7⟩
   have h0 := h0.ext f7
   have a6 := a6.ext f7
   have a0 := a0.cn f7
   have a1 := a1.ext f7
   have a2 := a2.cn f7
   have a3 := a3.ext f7
   have a8 := a8.ext f7
   have hC := hC.ext f7
   have hO := hO.ext f7
   refine pl_val (.bool (decide (s2328.1 < r2343))) (y_lss rfl rfl) ?_
   refine c_nil ?_
   rcases bif_some hs with ⟨l2, hs⟩ | ⟨l2, hs⟩
   ·refine c_condT (congrArg Value.bool l2) ?_
    refine wp_skip ?_
    refine c_seq ?_
    refine wp_block ?_
    refine c_sr ?_
    refine pl_val (.int .i64 s2328.1) (y_move rfl) ?_
    refine pl_val (.int .i64 k) (y_move rfl) ?_
    refine pl_val (.pointer (some ⟨b4, 1, none⟩)) (y_faddr rfl Fa54x1) ?_
    refine pl_val (.slice b6 b7 b8) (y_load rfl ((box_load Ag47 Sz47 a2 [(.int .i64 x1695.1)] [(.slice b6 b7 b8)] [] rfl rfl (fun _ => rfl)) _ (Chg.refl _ _))) ?_
    refine pl_val (.int .i64 (x1695.2.length : Int)) (y_len' Sl47 (rs_len a1) rfl) ?_
    obtain ⟨r2346, s7, hs⟩ := bind_some hs
    refine pl_call Bd91 rfl (c_impl_argsAt (M := a5) s2328.1 k (x1695.2.length : Int)  hO.fut s7) ?_
    rintro _ s8 ⟨e2, e3, e4, f8, rfl, f9, a4, s9⟩
    have h0 := h0.ext f9
    have a6 := a6.ext f9
    have a0 := a0.cn f9
    have a1 := a1.ext f9
    have a2 := a2.cn f9
    have a3 := a3.ext f9
    have a8 := a8.ext f9
    have hC := hC.ext f9
    have hO := Own.join0 hO f9 s9
    have hO := hO.perm (R := f8 ++ (c5 ++ (([b4]) ++ (([a7]) ++ (c7 ++ ([])))))) (by simp)
    refine pl_val (.slice e2 e3 e4) (y_assign rfl) ?_
    refine c_nil ?_
    refine c_sr ?_
    refine pl_val (.pointer (some ⟨b4, 0, none⟩)) (y_faddr rfl Fa54x0) ?_
    refine pl_val (.int .i64 x1695.1) (y_load rfl ((box_load Ag3 Sz3 a2 [] [(.int .i64 x1695.1)] [(.slice b6 b7 b8)] rfl rfl (fun _ => rfl)) _ (Chg.refl _ _))) ?_
    obtain ⟨y2349, t0, hs⟩ := bind_some hs
    obtain ⟨c0, c1, c2, t1, t2, t3, e5, t4, j9⟩ := mk_os (M := a5) (w := s8) (r := (RT.int .i64)) Rw41 t0 (fun _ _ => ⟨rfl, rfl⟩)
    refine pl_val (w' := t1) (.slice c0 c1 c2) (y_make rfl rfl t3) ?_
    have h0 := h0.ext e5
    have a6 := a6.ext e5
    have a0 := a0.cn e5
    have a1 := a1.ext e5
    have a2 := a2.cn e5
    have a3 := a3.ext e5
    have a8 := a8.ext e5
    have a4 := a4.ext e5
    have hC := hC.ext e5
    have hO := hO.new e5 t4 (os_nodup j9) j9.fpl
    refine pl_val (.slice c0 c1 c2) (y_assign rfl) ?_
    refine c_nil ?_
    refine c_sr ?_
    refine pl_val (.int .i64 0) (y_assign rfl) ?_
    refine c_nil ?_
    refine c_seq ?_
    refine c_sr ?_
    refine pl_val (.slice c0 c1 c2) (y_move rfl) ?_
    refine pl_val (.int .i64 (y2349.length : Int)) (y_len' Sl41 (os_len j9) rfl) ?_
    refine pl_val (.int .i64 0) (y_move rfl) ?_
    refine c_nil ?_
    obtain ⟨o2456, t5, hs⟩ := bind_some hs
    refine wp_block ?_
    refine wp_forC (id := 4) (y2349.length : Int) (I := fun k2454 s2452 a b3 => ∃ (σ : Nat → Value) (i2 : List Nat), a = fr 120 (ovl σ [(0, (.int .i64 n)), (2, (.int .i64 k)), (7, (.pointer (some ⟨a7, 0, none⟩))), (9, (.pointer (some ⟨b4, 0, none⟩))), (10, (.map (some c3))), (11, (.map (some c4))), (12, (.int .i64 s2328.1)), (13, (.slice e2 e3 e4)), (14, (.slice c0 c1 c2)), (15, (.int .i64 s2452.1)), (28, (.slice pa0 pn0 pc0)), (29, (.int .i64 (rels.length : Int))), (30, (.int .i64 (c8 : Int))), (56, (.int .i64 (y2349.length : Int))), (57, (.int .i64 k2454))]) ∧ Chg [] w b3 ∧ Own (Nw w []) a5 b3 (i2 ++ (f8 ++ (c5 ++ (([b4]) ++ (([a7]) ++ (c7 ++ [])))))) ∧ (RT.rs (RT.pr (RT.int .i64) (RT.rs (RT.rs (RT.int .i64))))).val a5 b3 (.slice pa0 pn0 pc0) rels ([]) ∧ (RT.os 133 (RT.os 135 (RT.pr (RT.rs (RT.int .i64)) (RT.mr Value.bool)))).val a5 b3 (.slice b0 b1 b2) s2328.2.1 c7 ∧ BoxV b3 a7 129 [(.int .i64 n), (.int .i64 k), (.slice b0 b1 b2)] ∧ (RT.rs (RT.rs (RT.int .i64))).val a5 b3 (.slice b6 b7 b8) x1695.2 ([]) ∧ BoxV b3 b4 54 [(.int .i64 x1695.1), (.slice b6 b7 b8)] ∧ (RT.mr Value.bool).val a5 b3 (.map (some c3)) s2328.2.2.1 ([]) ∧ (RT.mo Value.bool).val a5 b3 (.map (some c4)) s2328.2.2.2 c5 ∧ (RT.os 3 (RT.int .i64)).val a5 b3 (.slice e2 e3 e4) r2346 f8 ∧ (RT.os 3 (RT.int .i64)).val a5 b3 (.slice c0 c1 c2) s2452.2 i2) (J := fun s2452 a b3 => ∃ (σ : Nat → Value) (k0 : List Nat), a = fr 120 (ovl σ [(0, (.int .i64 n)), (2, (.int .i64 k)), (7, (.pointer (some ⟨a7, 0, none⟩))), (9, (.pointer (some ⟨b4, 0, none⟩))), (10, (.map (some c3))), (11, (.map (some c4))), (12, (.int .i64 s2328.1)), (14, (.slice c0 c1 c2)), (15, (.int .i64 s2452.1)), (28, (.slice pa0 pn0 pc0)), (29, (.int .i64 (rels.length : Int))), (30, (.int .i64 (c8 : Int)))]) ∧ Chg [] w b3 ∧ Own (Nw w []) a5 b3 (k0 ++ (f8 ++ (c5 ++ (([b4]) ++ (([a7]) ++ (c7 ++ [])))))) ∧ (RT.rs (RT.pr (RT.int .i64) (RT.rs (RT.rs (RT.int .i64))))).val a5 b3 (.slice pa0 pn0 pc0) rels ([]) ∧ (RT.os 133 (RT.os 135 (RT.pr (RT.rs (RT.int .i64)) (RT.mr Value.bool)))).val a5 b3 (.slice b0 b1 b2) s2328.2.1 c7 ∧ BoxV b3 a7 129 [(.int .i64 n), (.int .i64 k), (.slice b0 b1 b2)] ∧ (RT.rs (RT.rs (RT.int .i64))).val a5 b3 (.slice b6 b7 b8) x1695.2 ([]) ∧ BoxV b3 b4 54 [(.int .i64 x1695.1), (.slice b6 b7 b8)] ∧ (RT.mr Value.bool).val a5 b3 (.map (some c3)) s2328.2.2.1 ([]) ∧ (RT.mo Value.bool).val a5 b3 (.map (some c4)) s2328.2.2.2 c5 ∧ (RT.os 3 (RT.int .i64)).val a5 b3 (.slice e2 e3 e4) r2346 f8 ∧ (RT.os 3 (RT.int .i64)).val a5 b3 (.slice c0 c1 c2) s2452.2 k0) (K := (k_impl_newPolySearch M w)) ?_ ?_ 0 (0, y2349) o2456 _ _ ?_ t5 ?_
    ·rintro k2454 s2452 a b3 ⟨σ, i2, rfl, hC, hO, h0, a6, a0, a1, a2, a3, a8, a4, l3⟩ hlt
     refine c_sr ?_
     refine pl_val (.bool (decide (k2454 < (y2349.length : Int)))) (y_lss rfl rfl) ?_
     refine c_nil ?_
     refine c_seq ?_
     refine c_condF (congrArg Value.bool (decide_eq_false hlt)) ?_
     refine wp_exit ?_
     have hO := hO.fr5
     have hO := hO.fr5
     have hO := hO.fr5
     have hO := hO.fr5
     have hO := hO.fr5
     have hO := hO.fr5
     exact ⟨rfl, _, i2, fr_ovl 120 ⟨rfl, rfl, rfl, rfl, rfl, rfl, rfl, rfl, rfl, rfl, rfl, rfl, trivial⟩, hC, hO, h0, a6, a0, a1, a2, a3, a8, a4, l3⟩
    ·rintro k2454 s2452 o2456 a b3 ⟨σ, i2, rfl, hC, hO, h0, a6, a0, a1, a2, a3, a8, a4, l3⟩ hlt hw hs
     refine c_sr ?_
     refine pl_val (.bool (decide (k2454 < (y2349.length : Int)))) (y_lss rfl rfl) ?_
     refine c_nil ?_
     refine c_seq ?_
     refine c_condT (congrArg Value.bool (decide_eq_true hlt)) ?_
     refine wp_skip ?_
     refine c_seq ?_
     refine wp_block ?_
     refine c_sr ?_
     refine pl_val (.int .i64 k2454) (y_move rfl) ?_
     refine pl_val (.int .i64 k2454) (y_assign rfl) ?_
     refine c_nil ?_
     refine c_seq ?_
     refine c_sr ?_
     refine pl_val (.slice e2 e3 e4) (y_move rfl) ?_
     refine pl_val (.int .i64 (r2346.length : Int)) (y_len' Sl41 (os_len a4) rfl) ?_
     refine pl_val (.int .i64 0) (y_move rfl) ?_
     refine c_nil ?_
     obtain ⟨o2491, t6, hs⟩ := bind_some hs
     refine wp_block ?_
     refine wp_forR (id := 6) (I := fun i_ xs_ s2487 a a9 => ∃ e6 : Nat, i_ = (e6 : Int) ∧ List.drop e6 r2346 = xs_ ∧ (∃ (σ : Nat → Value) (i3 : List Nat), a = fr 120 (ovl σ [(0, (.int .i64 n)), (2, (.int .i64 k)), (7, (.pointer (some ⟨a7, 0, none⟩))), (9, (.pointer (some ⟨b4, 0, none⟩))), (10, (.map (some c3))), (11, (.map (some c4))), (12, (.int .i64 s2328.1)), (13, (.slice e2 e3 e4)), (14, (.slice c0 c1 c2)), (15, (.int .i64 s2452.1)), (16, (.int .i64 k2454)), (28, (.slice pa0 pn0 pc0)), (29, (.int .i64 (rels.length : Int))), (30, (.int .i64 (c8 : Int))), (56, (.int .i64 (y2349.length : Int))), (57, (.int .i64 k2454)), (60, (.slice e2 e3 e4)), (61, (.int .i64 (r2346.length : Int))), (62, (.int .i64 (e6 : Int)))]) ∧ Chg [] w a9 ∧ Own (Nw w []) a5 a9 (i3 ++ (f8 ++ (c5 ++ (([b4]) ++ (([a7]) ++ (c7 ++ [])))))) ∧ (RT.rs (RT.pr (RT.int .i64) (RT.rs (RT.rs (RT.int .i64))))).val a5 a9 (.slice pa0 pn0 pc0) rels ([]) ∧ (RT.os 133 (RT.os 135 (RT.pr (RT.rs (RT.int .i64)) (RT.mr Value.bool)))).val a5 a9 (.slice b0 b1 b2) s2328.2.1 c7 ∧ BoxV a9 a7 129 [(.int .i64 n), (.int .i64 k), (.slice b0 b1 b2)] ∧ (RT.rs (RT.rs (RT.int .i64))).val a5 a9 (.slice b6 b7 b8) x1695.2 ([]) ∧ BoxV a9 b4 54 [(.int .i64 x1695.1), (.slice b6 b7 b8)] ∧ (RT.mr Value.bool).val a5 a9 (.map (some c3)) s2328.2.2.1 ([]) ∧ (RT.mo Value.bool).val a5 a9 (.map (some c4)) s2328.2.2.2 c5 ∧ (RT.os 3 (RT.int .i64)).val a5 a9 (.slice e2 e3 e4) r2346 f8 ∧ (RT.os 3 (RT.int .i64)).val a5 a9 (.slice c0 c1 c2) s2487 i3)) (J := fun s2487 a a9 => ∃ (σ : Nat → Value) (k1 : List Nat), a = fr 120 (ovl σ [(0, (.int .i64 n)), (2, (.int .i64 k)), (7, (.pointer (some ⟨a7, 0, none⟩))), (9, (.pointer (some ⟨b4, 0, none⟩))), (10, (.map (some c3))), (11, (.map (some c4))), (12, (.int .i64 s2328.1)), (13, (.slice e2 e3 e4)), (14, (.slice c0 c1 c2)), (15, (.int .i64 s2452.1)), (16, (.int .i64 k2454)), (28, (.slice pa0 pn0 pc0)), (29, (.int .i64 (rels.length : Int))), (30, (.int .i64 (c8 : Int))), (56, (.int .i64 (y2349.length : Int))), (57, (.int .i64 k2454))]) ∧ Chg [] w a9 ∧ Own (Nw w []) a5 a9 (k1 ++ (f8 ++ (c5 ++ (([b4]) ++ (([a7]) ++ (c7 ++ [])))))) ∧ (RT.rs (RT.pr (RT.int .i64) (RT.rs (RT.rs (RT.int .i64))))).val a5 a9 (.slice pa0 pn0 pc0) rels ([]) ∧ (RT.os 133 (RT.os 135 (RT.pr (RT.rs (RT.int .i64)) (RT.mr Value.bool)))).val a5 a9 (.slice b0 b1 b2) s2328.2.1 c7 ∧ BoxV a9 a7 129 [(.int .i64 n), (.int .i64 k), (.slice b0 b1 b2)] ∧ (RT.rs (RT.rs (RT.int .i64))).val a5 a9 (.slice b6 b7 b8) x1695.2 ([]) ∧ BoxV a9 b4 54 [(.int .i64 x1695.1), (.slice b6 b7 b8)] ∧ (RT.mr Value.bool).val a5 a9 (.map (some c3)) s2328.2.2.1 ([]) ∧ (RT.mo Value.bool).val a5 a9 (.map (some c4)) s2328.2.2.2 c5 ∧ (RT.os 3 (RT.int .i64)).val a5 a9 (.slice e2 e3 e4) r2346 f8 ∧ (RT.os 3 (RT.int .i64)).val a5 a9 (.slice c0 c1 c2) s2487 k1) (K := (k_impl_newPolySearch M w)) ?_ ?_ r2346 0 s2452.2 o2491 _ _ ?_ t6 ?_
     ·rintro _ s2487 a a9 ⟨e6, rfl, hd, σ, i3, rfl, hC, hO, h0, a6, a0, a1, a2, a3, a8, a4, g0⟩
      have hlt := drop_nil_ge hd
      refine c_sr ?_
      refine pl_val (.bool (decide ((e6 : Int) < (r2346.length : Int)))) (y_lss rfl rfl) ?_
      refine c_nil ?_
      refine c_seq ?_
      refine c_condF (congrArg Value.bool (decide_eq_false hlt)) ?_
      refine wp_exit ?_
      have hO := hO.fr5
      have hO := hO.fr5
      have hO := hO.fr5
      have hO := hO.fr5
      have hO := hO.fr5
      have hO := hO.fr5
      exact ⟨rfl, _, i3, fr_ovl 120 ⟨rfl, rfl, rfl, rfl, rfl, rfl, rfl, rfl, rfl, rfl, rfl, rfl, rfl, rfl, rfl, rfl, trivial⟩, hC, hO, h0, a6, a0, a1, a2, a3, a8, a4, g0⟩
     ·rintro _ x2490 xs_ s2487 o2491 a a9 ⟨e6, rfl, hd, σ, i3, rfl, hC, hO, h0, a6, a0, a1, a2, a3, a8, a4, g0⟩ hs
      have hlt := drop_cons_lt hd
      have t7 := drop_cons_idx hd
      refine c_sr ?_
      refine pl_val (.bool (decide ((e6 : Int) < (r2346.length : Int)))) (y_lss rfl rfl) ?_
      refine c_nil ?_
      refine c_seq ?_
      refine c_condT (congrArg Value.bool (decide_eq_true hlt)) ?_
      refine wp_skip ?_
      refine c_seq ?_
      refine wp_block ?_
      refine c_sr ?_
      obtain ⟨t8, D4, D5, D6, t9, u0, D7⟩ := os_idx Sl41 Sz3 a4 t7
      refine pl_val (.pointer (some ⟨t8, 0 + Int.toNat (e6 : Int) * 1, none⟩)) (t9 _ _ _ _ _ _ _ _ _ rfl rfl) ?_
      refine pl_val (.int .i64 x2490) (y_load rfl ((at_load_int Ag3 Sz3 u0) _ (Chg.refl _ _))) ?_
      refine pl_val (.int .i64 x2490) (y_assign rfl) ?_
      refine c_nil ?_
      refine x_start [18] Mx rfl ?_
      have d3 := Chg.drew a9
      generalize World.drew a9 = u1 at d3 ⊢
      have h0 := h0.ext d3
      have a6 := a6.ext d3
      have a0 := a0.cn d3
      have a1 := a1.ext d3
      have a2 := a2.cn d3
      have a3 := a3.ext d3
      have a8 := a8.ext d3
      have a4 := a4.ext d3
      have g0 := g0.ext d3
      have hC := hC.ext d3
      have hO := hO.ext d3
      have hS := Chg.refl [] u1
      refine x_p 0 (.slice c0 c1 c2) rfl (by kernel_rfl)  (fun _ => y_move rfl) (fun _ => hS) ?_
      refine x_p 1 (.int .i64 k2454) rfl (by kernel_rfl)  (fun _ => y_move rfl) (fun _ => hS) ?_
      refine x_p 2 (.slice c0 c1 c2) rfl (by kernel_rfl)  (fun _ => y_move rfl) (fun _ => hS) ?_
      refine x_p 3 (.int .i64 k2454) rfl (by kernel_rfl)  (fun _ => y_move rfl) (fun _ => hS) ?_
      obtain ⟨x2497, u2, hs⟩ := bind_some hs
      obtain ⟨u3, D8, D9, E0, u4, u5, E1⟩ := os_idx Sl41 Sz3 g0 u2
      refine x_p 4 (.pointer (some ⟨u3, 0 + Int.toNat k2454 * 1, none⟩)) rfl (by kernel_rfl)  (fun _ => u4 _ _ _ _ _ _ _ _ _ rfl rfl) (fun _ => hS) ?_
      refine x_l 5 (.int .i64 x2497) rfl (by kernel_rfl)  (fun w' hw' => y_load rfl ((at_load_int Ag3 Sz3 u5) w' hw')) hS ?_
      refine x_p 6 (.int .i64 n) rfl (by kernel_rfl)  (fun _ => y_move rfl) (fun _ => hS) ?_
      refine x_p 7 (.int .i64 (w64 (x2497 * n))) rfl (by kernel_rfl)  (fun _ => y_mul rfl rfl) (fun _ => hS) ?_
      refine x_p 8 (.pointer (some ⟨b4, 1, none⟩)) rfl (by kernel_rfl)  (fun _ => y_faddr rfl Fa54x1) (fun _ => hS) ?_
      refine x_l 9 (.slice b6 b7 b8) rfl (by kernel_rfl)  (fun w' hw' => y_load rfl ((box_load Ag47 Sz47 a2 [(.int .i64 x1695.1)] [(.slice b6 b7 b8)] [] rfl rfl (fun _ => rfl)) w' hw')) hS ?_
      refine x_p 10 (.int .i64 x2490) rfl (by kernel_rfl)  (fun _ => y_move rfl) (fun _ => hS) ?_
      obtain ⟨x2499, u6, hs⟩ := bind_some hs
      obtain ⟨u7, u9, v0, v1⟩ := rs_idx Sl47 Sz41 a1 u6
      refine x_p 11 (.pointer (some ⟨u7, u9, none⟩)) rfl (by kernel_rfl)  (fun _ => v0 _ _ _ _ _ _ _ _ _ rfl rfl) (fun _ => hS) ?_
      obtain ⟨E2, v2, k2⟩ := at_load Ag41 Sz41 (fun _ => rfl) v1
      obtain ⟨v3, v4, v5, rfl⟩ := rs_sl k2
      refine x_l 12 (.slice v3 v4 v5) rfl (by kernel_rfl)  (fun w' hw' => y_load rfl (v2 w' hw')) hS ?_
      refine x_p 13 (.int .i64 k2454) rfl (by kernel_rfl)  (fun _ => y_move rfl) (fun _ => hS) ?_
      obtain ⟨x2503, v6, hs⟩ := bind_some hs
      obtain ⟨v7, v8, v9, w1⟩ := rs_idx Sl41 Sz3 k2 v6
      refine x_p 14 (.pointer (some ⟨v7, v8, none⟩)) rfl (by kernel_rfl)  (fun _ => v9 _ _ _ _ _ _ _ _ _ rfl rfl) (fun _ => hS) ?_
      refine x_l 15 (.int .i64 x2503) rfl (by kernel_rfl)  (fun w' hw' => y_load rfl ((at_load_int Ag3 Sz3 w1) w' hw')) hS ?_
      refine x_p 16 (.int .i64 (w64 ((w64 (x2497 * n)) + x2503))) rfl (by kernel_rfl)  (fun _ => y_add rfl rfl) (fun _ => hS) ?_
      obtain ⟨x2505, w2, hs⟩ := bind_some hs
      obtain ⟨m9, E3, n0, w3, w4, E4, E5⟩ := os_idx Sl41 Sz3 g0 w2
      refine x_p 17 (.pointer (some ⟨m9, 0 + Int.toNat k2454 * 1, none⟩)) rfl (by kernel_rfl)  (fun _ => w4 _ _ _ _ _ _ _ _ _ rfl rfl) (fun _ => hS) ?_
      refine x_one (i := 18) (by kernel_rfl) ?_
      obtain ⟨w5, w6, w7, d5, w8, l4⟩ := os_store (P := Try.prog) (c' := [(.int .i64 (w64 ((w64 (x2497 * n)) + x2503)))]) n0 g0 w3 (fun g hg => hO.inM g (os_block g0 g (by simpa using hg))) ⟨rfl, rfl⟩ List.nodup_nil (fun _ h => nomatch h) (fun _ h => .inl h)
      have e7 : ∀ q ∈ [m9], q ∈ i3 := fun q hq => os_block g0 q (by rw [n0]; exact hq)
      refine xk_skip (w' := w5) (b := true) rfl (ys_store rfl rfl (w7 _ _ rfl Sz3)) rfl (fun h => nomatch h) ?_
      have h0 := h0.mt d5 hO e7
      have a6 := a6.ma d5 hO e7 (fun _ e => (mem_r (mem_r (mem_r (mem_r (mem_l (e)))))))
      have a0 := a0.ap d5 hO e7 (mem_r (mem_r (mem_r (mem_l (List.mem_singleton.2 rfl)))))
      have a1 := a1.mt d5 hO e7
      have a2 := a2.ap d5 hO e7 (mem_r (mem_r (mem_l (List.mem_singleton.2 rfl))))
      have a3 := a3.mt d5 hO e7
      have a8 := a8.ma d5 hO e7 (fun _ e => (mem_r (mem_l (e))))
      have a4 := a4.ma d5 hO e7 (fun _ e => (mem_l (e)))
      have k2 := k2.mt d5 hO e7
      have hC := hC.st d5 hO e7
      have hO := hO.grow d5 (fun q hq => .inl ((w8 q hq).resolve_right (fun h => nomatch h))) (os_nodup l4) l4.fpl
      refine x_end (by kernel_rfl) ?_
      clear hS
      refine c_region ?_
      refine pl_val (.int .i64 (w64 ((e6 : Int) + 1))) (y_add rfl rfl) ?_
      refine pl_val (.int .i64 (w64 ((e6 : Int) + 1))) (y_move rfl) ?_
      refine c_nil ?_
      cases hs
      have hO := hO.fr5
      have hO := hO.fr5
      have hO := hO.fr5
      have hO := hO.fr5
      have hO := hO.fr5
      have hO := hO.fr5
      exact ⟨_, rfl, drop_cons_next hd, _, w6, fr_ovl 120 ⟨rfl, rfl, rfl, rfl, rfl, rfl, rfl, rfl, rfl, rfl, rfl, rfl, rfl, rfl, rfl, rfl, rfl, rfl, congrArg (Value.int .i64) (w64_succ hlt (Int.natCast_nonneg _) (os_max a4)), trivial⟩, hC, hO, h0, a6, a0, a1, a2, a3, a8, a4, l4⟩
     ·skip
      have hO := hO.fr5
      have hO := hO.fr5
      have hO := hO.fr5
      have hO := hO.fr5
      have hO := hO.fr5
      have hO := hO.fr5
      exact ⟨0, rfl, rfl, _, i2, fr_ovl 120 ⟨rfl, rfl, rfl, rfl, rfl, rfl, rfl, rfl, rfl, rfl, rfl, rfl, rfl, rfl, rfl, rfl, rfl, rfl, rfl, trivial⟩, hC, hO, h0, a6, a0, a1, a2, a3, a8, a4, l3⟩
     cases o2491 with
     | nx _ => exact True.intro
     | rt r_ =>
      have hs := after_rt hs
      intro g9 j4 hK
      cases hs
      exact hK
     | br s2487 =>
      have hs := after_br hs
      rintro g9 a9 ⟨σ, k1, rfl, hC, hO, h0, a6, a0, a1, a2, a3, a8, a4, n1⟩
      refine c_region ?_
      refine pl_val (.int .i64 s2452.1) (y_move rfl) ?_
      refine pl_val (.slice c0 c1 c2) (y_move rfl) ?_
      refine pl_val (.int .i64 k2454) (y_move rfl) ?_
      obtain ⟨x2508, w9, hs⟩ := bind_some hs
      obtain ⟨x0, E6, E7, E8, x1, x2, E9⟩ := os_idx Sl41 Sz3 n1 w9
      refine pl_val (.pointer (some ⟨x0, 0 + Int.toNat k2454 * 1, none⟩)) (x1 _ _ _ _ _ _ _ _ _ rfl rfl) ?_
      refine pl_val (.int .i64 x2508) (y_load rfl ((at_load_int Ag3 Sz3 x2) _ (Chg.refl _ _))) ?_
      refine pl_val (.int .i64 (max s2452.1 x2508)) (y_max rfl rfl) ?_
      refine pl_val (.int .i64 (max s2452.1 x2508)) (y_assign rfl) ?_
      refine c_nil ?_
      refine c_region ?_
      refine pl_val (.int .i64 (w64 (k2454 + 1))) (y_add rfl rfl) ?_
      refine pl_val (.int .i64 (w64 (k2454 + 1))) (y_move rfl) ?_
      refine c_nil ?_
      cases hs
      have hO := hO.fr5
      have hO := hO.fr5
      have hO := hO.fr5
      have hO := hO.fr5
      have hO := hO.fr5
      have hO := hO.fr5
      exact ⟨_, k1, fr_ovl 120 ⟨rfl, rfl, rfl, rfl, rfl, rfl, rfl, rfl, rfl, rfl, rfl, rfl, rfl, rfl, congrArg (Value.int .i64) hw, trivial⟩, hC, hO, h0, a6, a0, a1, a2, a3, a8, a4, n1⟩
    ·skip
     have hO := hO.fr5
     have hO := hO.fr5
     have hO := hO.fr5
     have hO := hO.fr5
     have hO := hO.fr5
     have hO := hO.fr5
     exact ⟨_, t2, fr_ovl 120 ⟨rfl, rfl, rfl, rfl, rfl, rfl, rfl, rfl, rfl, rfl, rfl, rfl, rfl, rfl, rfl, trivial⟩, hC, hO, h0, a6, a0, a1, a2, a3, a8, a4, j9⟩
    cases o2456 with
    | nx _ => exact True.intro
    | rt r_ =>
     have hs := after_rt hs
     intro g9 j4 hK
     cases hs
     exact hK
    | br s2452 =>
     have hs := after_br hs
     rintro g9 b3 ⟨σ, k0, rfl, hC, hO, h0, a6, a0, a1, a2, a3, a8, a4, g1⟩
     refine c_sr ?_
     refine pl_val (.slice c0 c1 c2) (y_move rfl) ?_
     obtain ⟨r2511, x3, hs⟩ := bind_some hs
     refine pl_call Bd112 rfl (c_impl_keyOf (M := (Less a5 k0)) s2452.2 (((Frz.os Frz.int)).val g1 Less.sub Less.not) hO.less.fut x3) ?_
     rintro _ F0 ⟨rfl, d6⟩
     have h0 := h0.ext d6
     have a6 := a6.ext d6
     have a0 := a0.cn d6
     have a1 := a1.ext d6
     have a2 := a2.cn d6
     have a3 := a3.ext d6
     have a8 := a8.ext d6
     have a4 := a4.ext d6
     have g1 := g1.ext d6
     have hC := hC.ext d6
     have hO := hO.ext d6
     refine pl_val (.string r2511) (y_assign rfl) ?_
     refine c_nil ?_
     refine c_sr ?_
     refine pl_val (.map (some c4)) (y_move rfl) ?_
     refine pl_val (.string r2511) (y_move rfl) ?_
     refine pl_val (.bool ((mget s2328.2.2.2 r2511).getD false)) (y_look (enc := Value.bool) Try.underlying130 Try.underlying9 Zv4 (mo_at a8) rfl rfl) ?_
     refine pl_val (.bool (!((mget s2328.2.2.2 r2511).getD false))) (y_not rfl) ?_
     refine c_nil ?_
     rcases bif_some hs with ⟨l5, hs⟩ | ⟨l5, hs⟩
     ·refine c_condT (congrArg Value.bool l5) ?_
      refine c_sr ?_
      refine pl_val (.map (some c4)) (y_move rfl) ?_
      refine pl_val (.string r2511) (y_move rfl) ?_
      have hO := hO.fr2
      obtain ⟨l6, x4, e8, b5⟩ := mo_put (P := Try.prog) (t := 130) (key := r2511) (x := true) Try.underlying130 Try.underlying9 a8
      refine pl_skip (w' := l6) (ys_put rfl rfl rfl x4) ?_
      have h0 := h0.mt e8 hO same_
      have a6 := a6.ma e8 hO same_ (fun _ e => (mem_r (mem_r (mem_r (mem_r (mem_l (e)))))))
      have a0 := a0.ap e8 hO same_ (mem_r (mem_r (mem_r (mem_l (List.mem_singleton.2 rfl)))))
      have a1 := a1.mt e8 hO same_
      have a2 := a2.ap e8 hO same_ (mem_r (mem_r (mem_l (List.mem_singleton.2 rfl))))
      have a3 := a3.mt e8 hO same_
      have a4 := a4.ma e8 hO same_ (fun _ e => (mem_r (mem_l (e))))
      have g1 := g1.ma e8 hO same_ (fun _ e => (mem_l (e)))
      have hC := hC.st e8 hO same_
      have hO := hO.ext e8
      refine c_nil ?_
      refine x_start [16, 18] Mx rfl ?_
      have d4 := Chg.drew l6
      generalize World.drew l6 = l7 at d4 ⊢
      have h0 := h0.ext d4
      have a6 := a6.ext d4
      have a0 := a0.cn d4
      have a1 := a1.ext d4
      have a2 := a2.cn d4
      have a3 := a3.ext d4
      have b5 := b5.ext d4
      have a4 := a4.ext d4
      have g1 := g1.ext d4
      have hC := hC.ext d4
      have hO := hO.ext d4
      have hS := Chg.refl [] l7
      refine x_p 0 (.pointer (some ⟨a7, 0, none⟩)) rfl (by kernel_rfl)  (fun _ => y_move rfl) (fun _ => hS) ?_
      refine x_p 1 (.pointer (some ⟨a7, 0, none⟩)) rfl (by kernel_rfl)  (fun _ => y_nilc rfl) (fun _ => hS) ?_
      refine x_p 2 (.pointer (some ⟨a7, 2, none⟩)) rfl (by kernel_rfl)  (fun _ => y_faddr rfl Fa129x2) (fun _ => hS) ?_
      refine x_p 4 (.int .i64 s2452.1) rfl (by kernel_rfl)  (fun _ => y_move rfl) (fun _ => hS) ?_
      refine x_p 5 (.pointer (some ⟨a7, 0, none⟩)) rfl (by kernel_rfl)  (fun _ => y_move rfl) (fun _ => hS) ?_
      refine x_p 6 (.pointer (some ⟨a7, 0, none⟩)) rfl (by kernel_rfl)  (fun _ => y_nilc rfl) (fun _ => hS) ?_
      refine x_p 7 (.pointer (some ⟨a7, 2, none⟩)) rfl (by kernel_rfl)  (fun _ => y_faddr rfl Fa129x2) (fun _ => hS) ?_
      refine x_l 8 (.slice b0 b1 b2) rfl (by kernel_rfl)  (fun w' hw' => y_load rfl ((box_load Ag127 Sz127 a0 [(.int .i64 n), (.int .i64 k)] [(.slice b0 b1 b2)] [] rfl rfl (fun _ => rfl)) w' hw')) hS ?_
      refine x_p 9 (.int .i64 s2452.1) rfl (by kernel_rfl)  (fun _ => y_move rfl) (fun _ => hS) ?_
      obtain ⟨x2515, h1, hs⟩ := bind_some hs
      obtain ⟨x5, F1, l8, F2, x6, x7, x8⟩ := os_idx Sl127 Sz133 a6 h1
      have x9 := own_row (Frz.os (Frz.pr (Frz.rs Frz.int) Frz.mr)) x7 x8
      refine x_p 10 (.pointer (some ⟨x5, 0 + Int.toNat s2452.1 * 1, none⟩)) rfl (by kernel_rfl)  (fun _ => x6 _ _ _ _ _ _ _ _ _ rfl rfl) (fun _ => hS) ?_
      obtain ⟨F3, y0, hrow2517, g2⟩ := at_load1 Ag133 Sz133 rfl rfl x9
      obtain ⟨h2, h3, h4, rfl⟩ := rs_sl g2
      refine x_l 11 (.slice h2 h3 h4) rfl (by kernel_rfl)  (fun w' hw' => y_load rfl (y0 w' hw')) hS ?_
      refine x_p 12 (.slice c0 c1 c2) rfl (by kernel_rfl)  (fun _ => y_move rfl) (fun _ => hS) ?_
      refine x_p 13 (.map (some c3)) rfl (by kernel_rfl)  (fun _ => y_move rfl) (fun _ => hS) ?_
      refine x_p 14 (.agg #[(.slice c0 c1 c2), (.map (some c3))]) rfl (by kernel_rfl)  (fun _ => y_build rfl (by kernel_rfl)) (fun _ => hS) ?_
      refine x_two (i := 3) (j := 15) (by kernel_rfl) ?_ ?_
      ·skip
       refine xk_val (b := false) (.slice b0 b1 b2) rfl  (y_load rfl ((box_load Ag127 Sz127 a0 [(.int .i64 n), (.int .i64 k)] [(.slice b0 b1 b2)] [] rfl rfl (fun _ => rfl)) _ (Chg.refl _ _))) rfl (fun _ => hS) ?_
       refine x_one (i := 15) (by kernel_rfl) ?_
       have hO := hO.fr1
       obtain ⟨d7, F4, h5, y1, hO, h6⟩ := frzF_own (Frz.os Frz.int) g1 hO
       have h0 := h0.sub (M' := d7) h5
       have a6 := a6.sub (M' := d7) h5
       have a1 := a1.sub (M' := d7) h5
       have a3 := a3.sub (M' := d7) h5
       have b5 := b5.sub (M' := d7) h5
       have a4 := a4.sub (M' := d7) h5
       have g2 := g2.sub (M' := (Less d7 c7)) (fun g hg => (h5 g hg.1).imp (fun h => ⟨h, hg.2⟩) id)
       have hK := hK.trans y1
       obtain ⟨l9, m0, y2, n2, c9, n3⟩ := new_block l7 [(.slice c0 c1 c2), (.map (some c3))] 135
       refine xk_val (w' := l9) (b := false) (.slice (some ⟨m0, 0, none⟩) 1 1) rfl  (y_bslice rfl (by rw [y2, n2]; kernel_rfl)) rfl (fun _ => hS.ext c9) ?_
       have h0 := h0.ext c9
       have a6 := a6.ext c9
       have a0 := a0.cn c9
       have a1 := a1.ext c9
       have a2 := a2.cn c9
       have a3 := a3.ext c9
       have b5 := b5.ext c9
       have a4 := a4.ext c9
       have h6 := h6.ext c9
       have g2 := g2.ext c9
       have hrow2517 := hrow2517.cn c9
       have hC := hC.ext c9
       have hO := hO.new1 c9 n2 n3.lt
       have m1 := os_of_box (r := (RT.pr (RT.rs (RT.int .i64)) (RT.mr Value.bool))) (M := d7) (css := [[(.slice c0 c1 c2), (.map (some c3))]]) (fps := [([] : List Nat)]) (xs := ([(s2452.2, s2328.2.2.1)] : List ((List Int) × (List (ByteArray × Bool))))) n3 ⟨⟨_, _, _, _, rfl, rfl, (rs_unval h6), (mr_unval a3)⟩, trivial⟩ (Nat.le_of_ble_eq_true rfl) (List.nodup_cons.2 ⟨(fun h => nomatch h), List.nodup_nil⟩)
       have m1 : (RT.os 135 (RT.pr (RT.rs (RT.int .i64)) (RT.mr Value.bool))).val d7 l9 (.slice (some ⟨m0, 0, none⟩) 1 1) [(s2452.2, s2328.2.2.1)] [m0] := m1
       have hS := hS.ext c9
       refine x_one (i := 16) (by kernel_rfl) ?_
       have hO := hO.fr5
       obtain ⟨y3, y4, y6, F5, y7, i4⟩ := oh_take (c := [(.slice h2 h3 h4)]) l8 (os_hole a6) (idx_map_some h1) hrow2517 rfl
       have hO := hO.split y7
       have n4 : (RT.os 135 (RT.pr (RT.rs (RT.int .i64)) (RT.mr Value.bool))).val d7 l9 (.slice h2 h3 h4) x2515 y3 := ⟨[_], rfl, y6⟩
       obtain ⟨y2524, j0, hs⟩ := bind_some hs
       have hO := hO.fr2
       have hO := hO.fr1
       obtain ⟨n5, n6, n7, y8, F6, y9, d8, z0, k3⟩ := app_os Rw133 j0 n4 m1 hO.inM (fun g hg hq => hO.apart g hq (mem_l hg))
       have e9 := os_block n4
       refine xk_val (w' := y8) (b := true) (.slice n5 n6 n7) rfl  (y_append rfl rfl (y9 _)) rfl (fun h => nomatch h) ?_
       have hO := hO.fr1
       have hO := hO.fr1
       have h0 := h0.mt d8 hO e9
       have i4 := i4.ma d8 hO e9 (fun _ e => (mem_r (mem_l (e))))
       have a0 := a0.ap d8 hO e9 (mem_r (mem_r (mem_r (mem_r (mem_r (mem_l (List.mem_singleton.2 rfl)))))))
       have a1 := a1.mt d8 hO e9
       have a2 := a2.ap d8 hO e9 (mem_r (mem_r (mem_r (mem_r (mem_l (List.mem_singleton.2 rfl))))))
       have a3 := a3.mt d8 hO e9
       have b5 := b5.ma d8 hO e9 (fun _ e => (mem_r (mem_r (mem_l (e)))))
       have a4 := a4.ma d8 hO e9 (fun _ e => (mem_r (mem_r (mem_r (mem_l (e))))))
       have h6 := h6.mt d8 hO e9
       have hC := hC.st d8 hO e9
       have hO := hO.eat d8 z0 (os_nodup k3) k3.fpl
       obtain ⟨n8, F7, n9, z1, z2, F8, F9⟩ := os_idx Sl127 Sz133 i4 (idx_hole h1)
       refine x_p 17 (.pointer (some ⟨n8, 0 + Int.toNat s2452.1 * 1, none⟩)) rfl (by kernel_rfl)  (fun _ => z2 _ _ _ _ _ _ _ _ _ rfl rfl) (fun h => nomatch h) ?_
       refine x_one (i := 18) (by kernel_rfl) ?_
       have hO := hO.fr1
       obtain ⟨z3, z4, z5, f0, z6, j1⟩ := os_store (P := Try.prog) (y := some y2524) (c' := [(.slice n5 n6 n7)]) n9 i4 z1 (fun g hg => hO.inM g (os_block i4 g (by simpa using hg))) (show (RT.hole (RT.os 135 (RT.pr (RT.rs (RT.int .i64)) (RT.mr Value.bool)))).rel _ _ _ (some _) _ from os_unval k3) (os_nodup k3) (fun g hg hq => hO.apart g hq (mem_l hg)) (fun _ h => .inl h)
       have g3 : ∀ q ∈ [n8], q ∈ y4 := fun q hq => os_block i4 q (by rw [n9]; exact hq)
       have j1 := os_fill j1
       refine xk_skip (w' := z3) (b := true) rfl (ys_store rfl rfl (z5 _ _ rfl Sz133)) rfl (fun h => nomatch h) ?_
       have hO := hO.fr1
       have hO := hO.fr1
       have h0 := h0.mt f0 hO g3
       have a0 := a0.ap f0 hO g3 (mem_r (mem_r (mem_r (mem_r (mem_l (List.mem_singleton.2 rfl))))))
       have a1 := a1.mt f0 hO g3
       have a2 := a2.ap f0 hO g3 (mem_r (mem_r (mem_r (mem_l (List.mem_singleton.2 rfl)))))
       have a3 := a3.mt f0 hO g3
       have b5 := b5.ma f0 hO g3 (fun _ e => (mem_r (mem_l (e))))
       have a4 := a4.ma f0 hO g3 (fun _ e => (mem_r (mem_r (mem_l (e)))))
       have h6 := h6.mt f0 hO g3
       have hC := hC.st f0 hO g3
       have hO := hO.eat f0 (fun q hq => (z6 q hq).elim .inl (fun h => .inr (.inl h))) (os_nodup j1) j1.fpl
       refine x_end (by kernel_rfl) ?_
       clear hS
       refine c_region ?_
       refine pl_val (.int .i64 s2328.1) (y_move rfl) ?_
       refine pl_val (.int .i64 (w64 (s2328.1 + 1))) (y_add rfl rfl) ?_
       refine pl_val (.int .i64 (w64 (s2328.1 + 1))) (y_assign rfl) ?_
       refine c_nil ?_
       cases hs
       have hO := hO.fr2
       have hO := hO.drop
       have hO := hO.fr3
       have hO := hO.fr3
       have hO := hO.fr3
       exact ⟨_, d7, z4, c5, fr_ovl 120 ⟨rfl, rfl, rfl, rfl, rfl, rfl, rfl, rfl, rfl, rfl, trivial⟩, hC, hO, hK, h0, j1, a0, a1, a2, a3, b5⟩
      ·skip
       have hO := hO.fr1
       obtain ⟨d2, G0, h7, z7, hO, d9⟩ := frzF_own (Frz.os Frz.int) g1 hO
       have h0 := h0.sub (M' := d2) h7
       have a6 := a6.sub (M' := d2) h7
       have a1 := a1.sub (M' := d2) h7
       have a3 := a3.sub (M' := d2) h7
       have b5 := b5.sub (M' := d2) h7
       have a4 := a4.sub (M' := d2) h7
       have g2 := g2.sub (M' := (Less d2 c7)) (fun g hg => (h7 g hg.1).imp (fun h => ⟨h, hg.2⟩) id)
       have hK := hK.trans z7
       obtain ⟨k4, m2, z8, o0, d0, o1⟩ := new_block l7 [(.slice c0 c1 c2), (.map (some c3))] 135
       refine xk_val (w' := k4) (b := false) (.slice (some ⟨m2, 0, none⟩) 1 1) rfl  (y_bslice rfl (by rw [z8, o0]; kernel_rfl)) rfl (fun _ => hS.ext d0) ?_
       have h0 := h0.ext d0
       have a6 := a6.ext d0
       have a0 := a0.cn d0
       have a1 := a1.ext d0
       have a2 := a2.cn d0
       have a3 := a3.ext d0
       have b5 := b5.ext d0
       have a4 := a4.ext d0
       have d9 := d9.ext d0
       have g2 := g2.ext d0
       have hrow2517 := hrow2517.cn d0
       have hC := hC.ext d0
       have hO := hO.new1 d0 o0 o1.lt
       have k5 := os_of_box (r := (RT.pr (RT.rs (RT.int .i64)) (RT.mr Value.bool))) (M := d2) (css := [[(.slice c0 c1 c2), (.map (some c3))]]) (fps := [([] : List Nat)]) (xs := ([(s2452.2, s2328.2.2.1)] : List ((List Int) × (List (ByteArray × Bool))))) o1 ⟨⟨_, _, _, _, rfl, rfl, (rs_unval d9), (mr_unval a3)⟩, trivial⟩ (Nat.le_of_ble_eq_true rfl) (List.nodup_cons.2 ⟨(fun h => nomatch h), List.nodup_nil⟩)
       have k5 : (RT.os 135 (RT.pr (RT.rs (RT.int .i64)) (RT.mr Value.bool))).val d2 k4 (.slice (some ⟨m2, 0, none⟩) 1 1) [(s2452.2, s2328.2.2.1)] [m2] := k5
       have hS := hS.ext d0
       refine x_two (i := 3) (j := 16) (by kernel_rfl) ?_ ?_
       ·skip
        refine xk_val (b := false) (.slice b0 b1 b2) rfl  (y_load rfl ((box_load Ag127 Sz127 a0 [(.int .i64 n), (.int .i64 k)] [(.slice b0 b1 b2)] [] rfl rfl (fun _ => rfl)) _ (Chg.refl _ _))) rfl (fun _ => hS) ?_
        refine x_one (i := 16) (by kernel_rfl) ?_
        have hO := hO.fr5
        obtain ⟨z9, A0, A1, G1, A2, i5⟩ := oh_take (c := [(.slice h2 h3 h4)]) l8 (os_hole a6) (idx_map_some h1) hrow2517 rfl
        have hO := hO.split A2
        have o2 : (RT.os 135 (RT.pr (RT.rs (RT.int .i64)) (RT.mr Value.bool))).val d2 k4 (.slice h2 h3 h4) x2515 z9 := ⟨[_], rfl, A1⟩
        obtain ⟨y2524, j0, hs⟩ := bind_some hs
        have hO := hO.fr2
        have hO := hO.fr1
        obtain ⟨o3, o4, o5, A3, G2, A4, e0, A5, k6⟩ := app_os Rw133 j0 o2 k5 hO.inM (fun g hg hq => hO.apart g hq (mem_l hg))
        have f1 := os_block o2
        refine xk_val (w' := A3) (b := true) (.slice o3 o4 o5) rfl  (y_append rfl rfl (A4 _)) rfl (fun h => nomatch h) ?_
        have hO := hO.fr1
        have hO := hO.fr1
        have h0 := h0.mt e0 hO f1
        have i5 := i5.ma e0 hO f1 (fun _ e => (mem_r (mem_l (e))))
        have a0 := a0.ap e0 hO f1 (mem_r (mem_r (mem_r (mem_r (mem_r (mem_l (List.mem_singleton.2 rfl)))))))
        have a1 := a1.mt e0 hO f1
        have a2 := a2.ap e0 hO f1 (mem_r (mem_r (mem_r (mem_r (mem_l (List.mem_singleton.2 rfl))))))
        have a3 := a3.mt e0 hO f1
        have b5 := b5.ma e0 hO f1 (fun _ e => (mem_r (mem_r (mem_l (e)))))
        have a4 := a4.ma e0 hO f1 (fun _ e => (mem_r (mem_r (mem_r (mem_l (e))))))
        have d9 := d9.mt e0 hO f1
        have hC := hC.st e0 hO f1
        have hO := hO.eat e0 A5 (os_nodup k6) k6.fpl
        obtain ⟨o6, G3, o7, A6, A7, G4, G5⟩ := os_idx Sl127 Sz133 i5 (idx_hole h1)
        refine x_p 17 (.pointer (some ⟨o6, 0 + Int.toNat s2452.1 * 1, none⟩)) rfl (by kernel_rfl)  (fun _ => A7 _ _ _ _ _ _ _ _ _ rfl rfl) (fun h => nomatch h) ?_
        refine x_one (i := 18) (by kernel_rfl) ?_
        have hO := hO.fr1
        obtain ⟨A8, A9, B0, f2, B1, j2⟩ := os_store (P := Try.prog) (y := some y2524) (c' := [(.slice o3 o4 o5)]) o7 i5 A6 (fun g hg => hO.inM g (os_block i5 g (by simpa using hg))) (show (RT.hole (RT.os 135 (RT.pr (RT.rs (RT.int .i64)) (RT.mr Value.bool)))).rel _ _ _ (some _) _ from os_unval k6) (os_nodup k6) (fun g hg hq => hO.apart g hq (mem_l hg)) (fun _ h => .inl h)
        have g4 : ∀ q ∈ [o6], q ∈ A0 := fun q hq => os_block i5 q (by rw [o7]; exact hq)
        have j2 := os_fill j2
        refine xk_skip (w' := A8) (b := true) rfl (ys_store rfl rfl (B0 _ _ rfl Sz133)) rfl (fun h => nomatch h) ?_
        have hO := hO.fr1
        have hO := hO.fr1
        have h0 := h0.mt f2 hO g4
        have a0 := a0.ap f2 hO g4 (mem_r (mem_r (mem_r (mem_r (mem_l (List.mem_singleton.2 rfl))))))
        have a1 := a1.mt f2 hO g4
        have a2 := a2.ap f2 hO g4 (mem_r (mem_r (mem_r (mem_l (List.mem_singleton.2 rfl)))))
        have a3 := a3.mt f2 hO g4
        have b5 := b5.ma f2 hO g4 (fun _ e => (mem_r (mem_l (e))))
        have a4 := a4.ma f2 hO g4 (fun _ e => (mem_r (mem_r (mem_l (e)))))
        have d9 := d9.mt f2 hO g4
        have hC := hC.st f2 hO g4
        have hO := hO.eat f2 (fun q hq => (B1 q hq).elim .inl (fun h => .inr (.inl h))) (os_nodup j2) j2.fpl
        refine x_end (by kernel_rfl) ?_
        clear hS
        refine c_region ?_
        refine pl_val (.int .i64 s2328.1) (y_move rfl) ?_
        refine pl_val (.int .i64 (w64 (s2328.1 + 1))) (y_add rfl rfl) ?_
        refine pl_val (.int .i64 (w64 (s2328.1 + 1))) (y_assign rfl) ?_
        refine c_nil ?_
        cases hs
        have hO := hO.fr2
        have hO := hO.drop
        have hO := hO.fr3
        have hO := hO.fr3
        have hO := hO.fr3
        exact ⟨_, d2, A9, c5, fr_ovl 120 ⟨rfl, rfl, rfl, rfl, rfl, rfl, rfl, rfl, rfl, rfl, trivial⟩, hC, hO, hK, h0, j2, a0, a1, a2, a3, b5⟩
       ·skip
        have hO := hO.fr5
        obtain ⟨B2, B3, B4, G6, B5, i6⟩ := oh_take (c := [(.slice h2 h3 h4)]) l8 (os_hole a6) (idx_map_some h1) hrow2517 rfl
        have hO := hO.split B5
        have o8 : (RT.os 135 (RT.pr (RT.rs (RT.int .i64)) (RT.mr Value.bool))).val d2 k4 (.slice h2 h3 h4) x2515 B2 := ⟨[_], rfl, B4⟩
        obtain ⟨y2524, j0, hs⟩ := bind_some hs
        have hO := hO.fr2
        have hO := hO.fr1
        obtain ⟨o9, p0, p1, B6, G7, B7, e1, B8, k7⟩ := app_os Rw133 j0 o8 k5 hO.inM (fun g hg hq => hO.apart g hq (mem_l hg))
        have f3 := os_block o8
        refine xk_val (w' := B6) (b := true) (.slice o9 p0 p1) rfl  (y_append rfl rfl (B7 _)) rfl (fun h => nomatch h) ?_
        have hO := hO.fr1
        have hO := hO.fr1
        have h0 := h0.mt e1 hO f3
        have i6 := i6.ma e1 hO f3 (fun _ e => (mem_r (mem_l (e))))
        have a0 := a0.ap e1 hO f3 (mem_r (mem_r (mem_r (mem_r (mem_r (mem_l (List.mem_singleton.2 rfl)))))))
        have a1 := a1.mt e1 hO f3
        have a2 := a2.ap e1 hO f3 (mem_r (mem_r (mem_r (mem_r (mem_l (List.mem_singleton.2 rfl))))))
        have a3 := a3.mt e1 hO f3
        have b5 := b5.ma e1 hO f3 (fun _ e => (mem_r (mem_r (mem_l (e)))))
        have a4 := a4.ma e1 hO f3 (fun _ e => (mem_r (mem_r (mem_r (mem_l (e))))))
        have d9 := d9.mt e1 hO f3
        have hC := hC.st e1 hO f3
        have hO := hO.eat e1 B8 (os_nodup k7) k7.fpl
        refine x_one (i := 3) (by kernel_rfl) ?_
        refine xk_val (b := true) (.slice b0 b1 b2) rfl  (y_load rfl ((box_load Ag127 Sz127 a0 [(.int .i64 n), (.int .i64 k)] [(.slice b0 b1 b2)] [] rfl rfl (fun _ => rfl)) _ (Chg.refl _ _))) rfl (fun h => nomatch h) ?_
        obtain ⟨p2, G8, p3, B9, C0, G9, H0⟩ := os_idx Sl127 Sz133 i6 (idx_hole h1)
        refine x_p 17 (.pointer (some ⟨p2, 0 + Int.toNat s2452.1 * 1, none⟩)) rfl (by kernel_rfl)  (fun _ => C0 _ _ _ _ _ _ _ _ _ rfl rfl) (fun h => nomatch h) ?_
        refine x_one (i := 18) (by kernel_rfl) ?_
        have hO := hO.fr1
        obtain ⟨C1, C2, C3, f4, C4, j3⟩ := os_store (P := Try.prog) (y := some y2524) (c' := [(.slice o9 p0 p1)]) p3 i6 B9 (fun g hg => hO.inM g (os_block i6 g (by simpa using hg))) (show (RT.hole (RT.os 135 (RT.pr (RT.rs (RT.int .i64)) (RT.mr Value.bool)))).rel _ _ _ (some _) _ from os_unval k7) (os_nodup k7) (fun g hg hq => hO.apart g hq (mem_l hg)) (fun _ h => .inl h)
        have g5 : ∀ q ∈ [p2], q ∈ B3 := fun q hq => os_block i6 q (by rw [p3]; exact hq)
        have j3 := os_fill j3
        refine xk_skip (w' := C1) (b := true) rfl (ys_store rfl rfl (C3 _ _ rfl Sz133)) rfl (fun h => nomatch h) ?_
        have hO := hO.fr1
        have hO := hO.fr1
        have h0 := h0.mt f4 hO g5
        have a0 := a0.ap f4 hO g5 (mem_r (mem_r (mem_r (mem_r (mem_l (List.mem_singleton.2 rfl))))))
        have a1 := a1.mt f4 hO g5
        have a2 := a2.ap f4 hO g5 (mem_r (mem_r (mem_r (mem_l (List.mem_singleton.2 rfl)))))
        have a3 := a3.mt f4 hO g5
        have b5 := b5.ma f4 hO g5 (fun _ e => (mem_r (mem_l (e))))
        have a4 := a4.ma f4 hO g5 (fun _ e => (mem_r (mem_r (mem_l (e)))))
        have d9 := d9.mt f4 hO g5
        have hC := hC.st f4 hO g5
        have hO := hO.eat f4 (fun q hq => (C4 q hq).elim .inl (fun h => .inr (.inl h))) (os_nodup j3) j3.fpl
        refine x_end (by kernel_rfl) ?_
        clear hS
        refine c_region ?_
        refine pl_val (.int .i64 s2328.1) (y_move rfl) ?_
        refine pl_val (.int .i64 (w64 (s2328.1 + 1))) (y_add rfl rfl) ?_
        refine pl_val (.int .i64 (w64 (s2328.1 + 1))) (y_assign rfl) ?_
        refine c_nil ?_
        cases hs
        have hO := hO.fr2
        have hO := hO.drop
        have hO := hO.fr3
        have hO := hO.fr3
        have hO := hO.fr3
        exact ⟨_, d2, C2, c5, fr_ovl 120 ⟨rfl, rfl, rfl, rfl, rfl, rfl, rfl, rfl, rfl, rfl, trivial⟩, hC, hO, hK, h0, j3, a0, a1, a2, a3, b5⟩
     refine c_condF (congrArg Value.bool l5) ?_
     refine wp_skip ?_
     refine c_region ?_
     refine pl_val (.int .i64 s2328.1) (y_move rfl) ?_
     refine pl_val (.int .i64 (w64 (s2328.1 + 1))) (y_add rfl rfl) ?_
     refine pl_val (.int .i64 (w64 (s2328.1 + 1))) (y_assign rfl) ?_
     refine c_nil ?_
     cases hs
     have hO := hO.drop
     have hO := hO.drop
     have hO := hO.fr3
     have hO := hO.fr3
     have hO := hO.fr3
     have hO := hO.fr3
     exact ⟨_, a5, c7, c5, fr_ovl 120 ⟨rfl, rfl, rfl, rfl, rfl, rfl, rfl, rfl, rfl, rfl, trivial⟩, hC, hO, hK, h0, a6, a0, a1, a2, a3, a8⟩
   refine c_condF (congrArg Value.bool l2) ?_
   refine wp_exit ?_
   cases hs
   have hO := hO.fr3
   have hO := hO.fr3
   have hO := hO.fr3
   have hO := hO.fr3
   exact ⟨rfl, _, a5, c7, c5, fr_ovl 120 ⟨rfl, rfl, rfl, rfl, rfl, rfl, trivial⟩, hC, hO, hK, h0, a6, a0, a1, a2, a3, a8⟩
  ·skip
   have hO := hO.fr3
   have hO := hO.fr3
   have hO := hO.fr3
   have hO := hO.fr3
   exact ⟨_, i9, g7, [c4], fr_ovl 120 ⟨rfl, rfl, rfl, rfl, rfl, rfl, rfl, rfl, rfl, rfl, trivial⟩, hC, hO, hK, h0, d1, a0, a1, a2, s4, j6⟩
  cases o2332 with
  | nx _ => exact True.intro
  | rt r_ =>
   have hs := after_rt hs
   intro g9 j4 hK
   cases hs
   exact hK
  | br s2328 =>
   have hs := after_br hs
   rintro g9 b9 ⟨σ, f6, j8, l1, rfl, hC, hO, hK, h0, C5, a0, a1, a2, H1, H2⟩
   refine c_region ?_
   refine pl_val (.int .i64 (w64 ((c8 : Int) + 1))) (y_add rfl rfl) ?_
   refine pl_val (.int .i64 (w64 ((c8 : Int) + 1))) (y_move rfl) ?_
   refine c_nil ?_
   cases hs
   have hO := hO.drop
   have hO := hO.drop
   have hO := hO.fr1
   have hO := hO.fr1
   exact ⟨_, rfl, drop_cons_next hd, _, f6, j8, fr_ovl 120 ⟨rfl, rfl, rfl, rfl, rfl, congrArg (Value.int .i64) (w64_succ hlt (Int.natCast_nonneg _) (rs_max h0)), trivial⟩, hC, hO, hK, h0, C5, a0⟩
 ·skip
  have hO := hO.fr1
  have hO := hO.fr1
  exact ⟨0, rfl, rfl, _, M, p7, fr_ovl 120 ⟨rfl, rfl, rfl, rfl, rfl, rfl, trivial⟩, hC, hO, KeepsF.refl, h0, i7, a0⟩
 cases o1696 with
 | nx _ => exact True.intro
 | rt r_ =>
  have hs := after_rt hs
  intro g9 j4 hK
  cases hs
  exact hK
 | br s1692 =>
  have hs := after_br hs
  rintro g9 c6 ⟨σ, h8, h9, rfl, hC, hO, hK, h0, C6, a0⟩
  refine c_sr ?_
  refine pl_val (.pointer (some ⟨a7, 0, none⟩)) (y_move rfl) ?_
  refine pl_val (.pointer (some ⟨a7, 0, none⟩)) (y_assign rfl) ?_
  refine c_nil ?_
  refine wp_ret ?_
  have hO := hO.fr1
  have hO := hO.fr1
  have hO := hO.perm (R := (a7 :: (([] : List Nat) ++ (([] : List Nat) ++ h9))) ++ ([])) (by simp)
  have C7 : (RT.po 129 (RT.pr (RT.int .i64) (RT.pr (RT.int .i64) (RT.os 133 (RT.os 135 (RT.pr (RT.rs (RT.int .i64)) (RT.mr Value.bool))))))).val h8 c6 (.pointer (some ⟨a7, 0, none⟩)) (n, k, s1692) (a7 :: (([] : List Nat) ++ (([] : List Nat) ++ h9))) := po_shut a0 ⟨_, _, _, _, rfl, rfl, ⟨rfl, rfl⟩, ⟨_, _, _, _, rfl, rfl, ⟨rfl, rfl⟩, (os_unval C6)⟩⟩ hO.nd
  cases hs
  exact ⟨_, (.pointer (some ⟨a7, 0, none⟩)), (a7 :: (([] : List Nat) ++ (([] : List Nat) ++ h9))), fr_ovl 120 ⟨rfl, trivial⟩, hC, (KeepsF.out hK hO.allM (op_some C7)), hO.top⟩

def k_impl_clone (M : Nat → Prop) (w0 : World) (r : (List Int)) (a : Act) (w : World) : Prop :=
  ∃ (σ : Nat → Value) (ra0 : Option Addr) (rn0 rc0 : Nat) (rf0 : List Nat), a = fr 6 (ovl σ [(2, (.slice ra0 rn0 rc0))]) ∧ Chg [] w0 w ∧ (RT.os 3 (RT.int .i64)).val M w (.slice ra0 rn0 rc0) r rf0 ∧ Option.isNone ra0 = false ∧ Own (Nw w0 []) (fun _ => True) w (rf0 ++ ([]))
def s_impl_clone (list : List Int) : Option ((List Int)) :=
  (app ([]) list).bind fun y5 =>
  some y5
set_option maxHeartbeats 4000000 in
theorem c_impl_clone {M : Nat → Prop} {w : World} {pa0 : Option Addr} {pn0 pc0 : Nat} (list : List Int) (h0 : (RT.rs (RT.int .i64)).val M w (.slice pa0 pn0 pc0) list ([])) (hM : ∀ g, w.heap.size ≤ g → M g) {r : (List Int)} (hs : s_impl_clone list = some r) :
    Gives Try.prog 86 [(.slice pa0 pn0 pc0)] w (fun v w' => ∃ (ra0 : Option Addr) (rn0 rc0 : Nat) (rf0 : List Nat), v = (.slice ra0 rn0 rc0) ∧ Chg [] w w' ∧ (RT.os 3 (RT.int .i64)).val M w' (.slice ra0 rn0 rc0) r rf0 ∧ Option.isNone ra0 = false ∧ Own (Nw w []) (fun _ => True) w' (rf0 ++ ([]))) := by
 refine calls_fr Try.func86 rfl Try.ntmps86 (Nat.le_of_ble_eq_true rfl) ?_
 have hO := Own.start (N := Nw w []) hM Nw.fut
 have hC := Chg.refl [] w
 unfold s_impl_clone at hs
 refine wp_mono (Q := KPost (k_impl_clone M w r)) ?_ (fun e a b9 h => ?_)
 rotate_left
 ·cases e
  case ret =>
   obtain ⟨σ, ra0, rn0, rc0, rf0, rfl, hrest⟩ := h
   exact ret1x Try.results86 (res_tmp rfl) ⟨ra0, rn0, rc0, rf0, rfl, hrest⟩
  all_goals exact (h : False).elim
 refine c_sr ?_
 refine pl_val (.slice none 0 0) (y_assign rfl) ?_
 refine c_nil ?_
 refine c_sr ?_
 obtain ⟨a8, a1, b2, a9, a2, b0⟩ := new_block w [] 3
 refine pl_val (w' := a8) (.slice (some ⟨a1, 0, none⟩) 0 0) (y_bslice rfl (by rw [b2, a9]; kernel_rfl)) ?_
 have h0 := h0.ext a2
 have hC := hC.ext a2
 have hO := hO.new1 a2 a9 b0.lt
 have a0 := os_of_box (r := (RT.int .i64)) (M := M) (css := []) (fps := []) (xs := ([] : List Int)) b0 trivial (Nat.zero_le _) (List.nodup_cons.2 ⟨(fun h => nomatch h), List.nodup_nil⟩)
 have a0 : (RT.os 3 (RT.int .i64)).val M a8 (.slice (some ⟨a1, 0, none⟩) 0 0) [] [a1] := a0
 refine pl_val (.slice pa0 pn0 pc0) (y_move rfl) ?_
 obtain ⟨y5, b3, hs⟩ := bind_some hs
 obtain ⟨a3, a4, a5, b4, b5, b6, a6, b7, a7, b8⟩ := app_rs_nn Rw41 b3 a0 h0 hO.inM
 have b1 := os_block a0
 refine pl_val (w' := b4) (.slice a3 a4 a5) (y_append rfl rfl (b6 _)) ?_
 have h0 := h0.mt a6 hO b1
 have hC := hC.st a6 hO b1
 have hO := hO.grow a6 b7 (os_nodup a7) a7.fpl
 refine pl_val (.slice a3 a4 a5) (y_assign rfl) ?_
 refine c_nil ?_
 refine wp_ret ?_
 cases hs
 exact ⟨_, a3, a4, a5, b5, fr_ovl 6 ⟨rfl, trivial⟩, hC, a7, b8, hO.top⟩

def k_impl_compose (M : Nat → Prop) (w0 : World) (r : (List Int)) (a : Act) (w : World) : Prop :=
  ∃ (σ : Nat → Value) (ra0 : Option Addr) (rn0 rc0 : Nat) (rf0 : List Nat), a = fr 27 (ovl σ [(4, (.slice ra0 rn0 rc0))]) ∧ Chg [] w0 w ∧ (RT.os 3 (RT.int .i64)).val M w (.slice ra0 rn0 rc0) r rf0 ∧ Own (Nw w0 []) (fun _ => True) w (rf0 ++ ([]))
def s_impl_compose (f : List Int) (g : List Int) : Option ((List Int)) :=
  (mks (f.length : Int) (0 : Int)).bind fun y4 =>
  (forC (S := (List Int)) (R := (List Int)) (fun k23 s21 =>
  (idx f k23).bind fun x29 =>
  (idx g x29).bind fun x31 =>
  (idx s21 k23).bind fun x33 =>
  some (.nx (List.set s21 (Int.toNat k23) x31))) 0 (f.length : Int) y4).bind fun o25 => after o25 (fun r_ => some r_) (fun s21 =>
  some s21)
set_option maxHeartbeats 4000000 in
theorem c_impl_compose {M : Nat → Prop} {w : World} {pa0 : Option Addr} {pn0 pc0 : Nat} {pa1 : Option Addr} {pn1 pc1 : Nat} (f : List Int) (g : List Int) (h0 : (RT.rs (RT.int .i64)).val M w (.slice pa0 pn0 pc0) f ([])) (h1 : (RT.rs (RT.int .i64)).val M w (.slice pa1 pn1 pc1) g ([])) (hM : ∀ g, w.heap.size ≤ g → M g) {r : (List Int)} (hs : s_impl_compose f g = some r) :
    Gives Try.prog 81 [(.slice pa0 pn0 pc0), (.slice pa1 pn1 pc1)] w (fun v w' => ∃ (ra0 : Option Addr) (rn0 rc0 : Nat) (rf0 : List Nat), v = (.slice ra0 rn0 rc0) ∧ Chg [] w w' ∧ (RT.os 3 (RT.int .i64)).val M w' (.slice ra0 rn0 rc0) r rf0 ∧ Own (Nw w []) (fun _ => True) w' (rf0 ++ ([]))) := by
 refine calls_fr Try.func81 rfl Try.ntmps81 (Nat.le_of_ble_eq_true rfl) ?_
 have hO := Own.start (N := Nw w []) hM Nw.fut
 have hC := Chg.refl [] w
 unfold s_impl_compose at hs
 refine wp_mono (Q := KPost (k_impl_compose M w r)) ?_ (fun e a b4 h => ?_)
 rotate_left
 ·cases e
  case ret =>
   obtain ⟨σ, ra0, rn0, rc0, rf0, rfl, hrest⟩ := h
   exact ret1x Try.results81 (res_tmp rfl) ⟨ra0, rn0, rc0, rf0, rfl, hrest⟩
  all_goals exact (h : False).elim
 refine c_sr ?_
 refine pl_val (.slice none 0 0) (y_assign rfl) ?_
 refine c_nil ?_
 refine c_sr ?_
 refine pl_val (.slice pa0 pn0 pc0) (y_move rfl) ?_
 refine pl_val (.int .i64 (f.length : Int)) (y_len' Sl41 (rs_len h0) rfl) ?_
 obtain ⟨y4, b5, hs⟩ := bind_some hs
 obtain ⟨a1, a2, a3, b6, b7, b8, a6, b9, a9⟩ := mk_os (M := M) (w := w) (r := (RT.int .i64)) Rw41 b5 (fun _ _ => ⟨rfl, rfl⟩)
 refine pl_val (w' := b6) (.slice a1 a2 a3) (y_make rfl rfl b8) ?_
 have h0 := h0.ext a6
 have h1 := h1.ext a6
 have hC := hC.ext a6
 have hO := hO.new a6 b9 (os_nodup a9) a9.fpl
 refine pl_val (.slice a1 a2 a3) (y_assign rfl) ?_
 refine c_nil ?_
 refine c_seq ?_
 refine c_sr ?_
 refine pl_val (.slice pa0 pn0 pc0) (y_move rfl) ?_
 refine pl_val (.int .i64 (f.length : Int)) (y_len' Sl41 (rs_len h0) rfl) ?_
 refine pl_val (.int .i64 0) (y_move rfl) ?_
 refine c_nil ?_
 obtain ⟨o25, c0, hs⟩ := bind_some hs
 refine wp_block ?_
 refine wp_forC (id := 0) (f.length : Int) (I := fun k23 s21 a a0 => ∃ (σ : Nat → Value) (a4 : List Nat), a = fr 27 (ovl σ [(1, (.slice pa1 pn1 pc1)), (5, (.slice a1 a2 a3)), (11, (.slice pa0 pn0 pc0)), (12, (.int .i64 (f.length : Int))), (13, (.int .i64 k23))]) ∧ Chg [] w a0 ∧ Own (Nw w []) M a0 (a4 ++ []) ∧ (RT.rs (RT.int .i64)).val M a0 (.slice pa0 pn0 pc0) f ([]) ∧ (RT.rs (RT.int .i64)).val M a0 (.slice pa1 pn1 pc1) g ([]) ∧ (RT.os 3 (RT.int .i64)).val M a0 (.slice a1 a2 a3) s21 a4) (J := fun s21 a a0 => ∃ (σ : Nat → Value) (a7 : List Nat), a = fr 27 (ovl σ [(5, (.slice a1 a2 a3))]) ∧ Chg [] w a0 ∧ Own (Nw w []) M a0 (a7 ++ []) ∧ (RT.rs (RT.int .i64)).val M a0 (.slice pa0 pn0 pc0) f ([]) ∧ (RT.rs (RT.int .i64)).val M a0 (.slice pa1 pn1 pc1) g ([]) ∧ (RT.os 3 (RT.int .i64)).val M a0 (.slice a1 a2 a3) s21 a7) (K := (k_impl_compose M w)) ?_ ?_ 0 y4 o25 _ _ ?_ c0 ?_
 ·rintro k23 s21 a a0 ⟨σ, a4, rfl, hC, hO, h0, h1, a5⟩ hlt
  refine c_sr ?_
  refine pl_val (.bool (decide (k23 < (f.length : Int)))) (y_lss rfl rfl) ?_
  refine c_nil ?_
  refine c_seq ?_
  refine c_condF (congrArg Value.bool (decide_eq_false hlt)) ?_
  refine wp_exit ?_
  exact ⟨rfl, _, a4, fr_ovl 27 ⟨rfl, trivial⟩, hC, hO, h0, h1, a5⟩
 ·rintro k23 s21 o25 a a0 ⟨σ, a4, rfl, hC, hO, h0, h1, a5⟩ hlt hw hs
  refine c_sr ?_
  refine pl_val (.bool (decide (k23 < (f.length : Int)))) (y_lss rfl rfl) ?_
  refine c_nil ?_
  refine c_seq ?_
  refine c_condT (congrArg Value.bool (decide_eq_true hlt)) ?_
  refine wp_skip ?_
  refine c_seq ?_
  refine wp_block ?_
  refine c_sr ?_
  refine pl_val (.int .i64 k23) (y_move rfl) ?_
  obtain ⟨x29, c1, hs⟩ := bind_some hs
  obtain ⟨c2, c3, c4, c5⟩ := rs_idx Sl41 Sz3 h0 c1
  refine pl_val (.pointer (some ⟨c2, c3, none⟩)) (c4 _ _ _ _ _ _ _ _ _ rfl rfl) ?_
  refine pl_val (.int .i64 x29) (y_load rfl ((at_load_int Ag3 Sz3 c5) _ (Chg.refl _ _))) ?_
  refine pl_val (.int .i64 k23) (y_assign rfl) ?_
  refine pl_val (.int .i64 x29) (y_assign rfl) ?_
  refine c_nil ?_
  refine c_region ?_
  refine pl_val (.slice a1 a2 a3) (y_move rfl) ?_
  refine pl_val (.int .i64 k23) (y_move rfl) ?_
  refine pl_val (.slice pa1 pn1 pc1) (y_move rfl) ?_
  refine pl_val (.int .i64 x29) (y_move rfl) ?_
  obtain ⟨x31, c6, hs⟩ := bind_some hs
  obtain ⟨c7, c8, c9, d0⟩ := rs_idx Sl41 Sz3 h1 c6
  refine pl_val (.pointer (some ⟨c7, c8, none⟩)) (c9 _ _ _ _ _ _ _ _ _ rfl rfl) ?_
  refine pl_val (.int .i64 x31) (y_load rfl ((at_load_int Ag3 Sz3 d0) _ (Chg.refl _ _))) ?_
  obtain ⟨x33, d1, hs⟩ := bind_some hs
  obtain ⟨b2, e0, b3, d2, d3, e1, e2⟩ := os_idx Sl41 Sz3 a5 d1
  refine pl_val (.pointer (some ⟨b2, 0 + Int.toNat k23 * 1, none⟩)) (d3 _ _ _ _ _ _ _ _ _ rfl rfl) ?_
  obtain ⟨d4, d5, d6, a8, d7, b0⟩ := os_store (P := Try.prog) (c' := [(.int .i64 x31)]) b3 a5 d2 (fun g hg => hO.inM g (os_block a5 g (by simpa using hg))) ⟨rfl, rfl⟩ List.nodup_nil (fun _ h => nomatch h) (fun _ h => .inl h)
  have b1 : ∀ q ∈ [b2], q ∈ a4 := fun q hq => os_block a5 q (by rw [b3]; exact hq)
  refine pl_skip (w' := d4) (ys_store rfl rfl (d6 _ _ rfl Sz3)) ?_
  have h0 := h0.mt a8 hO b1
  have h1 := h1.mt a8 hO b1
  have hC := hC.st a8 hO b1
  have hO := hO.grow a8 (fun q hq => .inl ((d7 q hq).resolve_right (fun h => nomatch h))) (os_nodup b0) b0.fpl
  refine c_nil ?_
  refine c_region ?_
  refine pl_val (.int .i64 (w64 (k23 + 1))) (y_add rfl rfl) ?_
  refine pl_val (.int .i64 (w64 (k23 + 1))) (y_move rfl) ?_
  refine c_nil ?_
  cases hs
  exact ⟨_, d5, fr_ovl 27 ⟨rfl, rfl, rfl, rfl, congrArg (Value.int .i64) hw, trivial⟩, hC, hO, h0, h1, b0⟩
 ·skip
  exact ⟨_, b7, fr_ovl 27 ⟨rfl, rfl, rfl, rfl, rfl, trivial⟩, hC, hO, h0, h1, a9⟩
 cases o25 with
 | nx _ => exact True.intro
 | rt r_ =>
  have hs := after_rt hs
  intro d8 b4 hK
  cases hs
  exact hK
 | br s21 =>
  have hs := after_br hs
  rintro d8 a0 ⟨σ, a7, rfl, hC, hO, h0, h1, d9⟩
  refine c_sr ?_
  refine pl_val (.slice a1 a2 a3) (y_move rfl) ?_
  refine pl_val (.slice a1 a2 a3) (y_assign rfl) ?_
  refine c_nil ?_
  refine wp_ret ?_
  cases hs
  exact ⟨_, a1, a2, a3, a7, fr_ovl 27 ⟨rfl, trivial⟩, hC, d9, hO.top⟩

theorem Sl133 : SlT Try.prog 133 135 := Try.underlying133

theorem Sz135 : SzT Try.prog 135 2 := ⟨_, rfl, rfl⟩

theorem Ag135 : AggT Try.prog 135 true := fun _ => by kernel_rfl

theorem Fa135x1 : ∀ (a : Addr) (w : World), (Instr.fieldAt 135 (.pointer (some a)) 1).run Try.prog w = .ok (.pointer (some (a.add 1))) w := fun _ _ => by kernel_rfl

theorem Ag130 : AggT Try.prog 130 false := fun _ => by kernel_rfl

theorem Sz130 : SzT Try.prog 130 1 := ⟨_, rfl, rfl⟩

theorem Fa135x0 : ∀ (a : Addr) (w : World), (Instr.fieldAt 135 (.pointer (some a)) 0).run Try.prog w = .ok (.pointer (some (a.add 0))) w := fun _ _ => by kernel_rfl

theorem Bd81 : Bodied Try.prog 81 := bodied Try.func81 (by kernel_rfl) rfl

def k_impl_polySearch__fits (M : Nat → Prop) (w0 : World) (r : Bool) (a : Act) (w : World) : Prop :=
  ∃ (σ : Nat → Value) , a = fr 31 (ovl σ [(6, (.bool r))]) ∧ Chg [] w0 w
def s_impl_polySearch__fits (table : List Int) (at_ : Int) (b0 : Int × Int × (List (List ((List Int) × (List (ByteArray × Bool)))))) : Option (Bool) :=
  (idx b0.2.2 at_).bind fun x4 =>
  (forR (S := Unit) (R := Bool) (fun _ x24 s21 =>
  (s_impl_compose x24.1 table).bind fun r35 =>
  (s_impl_keyOf r35).bind fun r38 =>
  (bif (!((mget x24.2 r38).getD false)) then some (.rt false) else some (.nx ()))) 0 x4 ()).bind fun o25 => after o25 (fun r_ => some r_) (fun s21 =>
  some true)
set_option maxHeartbeats 4000000 in
theorem c_impl_polySearch__fits {M : Nat → Prop} {w : World} {vg0 : Nat} {pa0 : Option Addr} {pn0 pc0 : Nat} {va0x2 : Option Addr} {vn0x2 vc0x2 : Nat} (table : List Int) (at_ : Int) (b0 : Int × Int × (List (List ((List Int) × (List (ByteArray × Bool)))))) (h0 : (RT.rs (RT.int .i64)).val M w (.slice pa0 pn0 pc0) table ([])) (hb0 : RBox M w vg0 129 [(.int .i64 b0.1), (.int .i64 b0.2.1), (.slice va0x2 vn0x2 vc0x2)]) (hl0x2 : (RT.rs (RT.rs (RT.pr (RT.rs (RT.int .i64)) (RT.mr Value.bool)))).val M w (.slice va0x2 vn0x2 vc0x2) b0.2.2 ([])) (hM : ∀ g, w.heap.size ≤ g → M g) {r : Bool} (hs : s_impl_polySearch__fits table at_ b0 = some r) :
    Gives Try.prog 114 [(.pointer (some ⟨vg0, 0, none⟩)), (.slice pa0 pn0 pc0), (.int .i64 at_)] w (fun v w' => v = (.bool r) ∧ Chg [] w w') := by
 refine calls_fr Try.func114 rfl Try.ntmps114 (Nat.le_of_ble_eq_true rfl) ?_
 have hO := Own.start (N := Nw w []) hM Nw.fut
 have hC := Chg.refl [] w
 unfold s_impl_polySearch__fits at hs
 refine wp_mono (Q := KPost (k_impl_polySearch__fits M w r)) ?_ (fun e a c7 h => ?_)
 rotate_left
 ·cases e
  case ret =>
   obtain ⟨σ, rfl, hrest⟩ := h
   exact ret1x Try.results114 (res_tmp rfl) ⟨rfl, hrest⟩
  all_goals exact (h : False).elim
 refine c_sr ?_
 refine pl_val (.bool false) (y_assign rfl) ?_
 refine c_nil ?_
 refine c_seq ?_
 refine c_sr ?_
 refine pl_val (.pointer (some ⟨vg0, 0, none⟩)) (y_move rfl) ?_
 refine pl_val (.pointer (some ⟨vg0, 0, none⟩)) (y_nilc rfl) ?_
 refine pl_val (.pointer (some ⟨vg0, 2, none⟩)) (y_faddr rfl Fa129x2) ?_
 refine pl_val (.slice va0x2 vn0x2 vc0x2) (y_load rfl ((box_load Ag127 Sz127 hb0.1 [(.int .i64 b0.1), (.int .i64 b0.2.1)] [(.slice va0x2 vn0x2 vc0x2)] [] rfl rfl (fun _ => rfl)) _ (Chg.refl _ _))) ?_
 refine pl_val (.int .i64 at_) (y_move rfl) ?_
 obtain ⟨x4, c8, hs⟩ := bind_some hs
 obtain ⟨c9, d0, d1, d2⟩ := rs_idx Sl127 Sz133 hl0x2 c8
 refine pl_val (.pointer (some ⟨c9, d0, none⟩)) (d1 _ _ _ _ _ _ _ _ _ rfl rfl) ?_
 obtain ⟨f5, d3, a0⟩ := at_load Ag133 Sz133 (fun _ => rfl) d2
 obtain ⟨b7, b8, b9, rfl⟩ := rs_sl a0
 refine pl_val (.slice b7 b8 b9) (y_load rfl (d3 _ (Chg.refl _ _))) ?_
 refine pl_val (.int .i64 (x4.length : Int)) (y_len' Sl133 (rs_len a0) rfl) ?_
 refine pl_val (.int .i64 0) (y_move rfl) ?_
 refine c_nil ?_
 obtain ⟨o25, d4, hs⟩ := bind_some hs
 refine wp_block ?_
 refine wp_forR (id := 0) (I := fun i_ xs_ s21 a a1 => ∃ a7 : Nat, i_ = (a7 : Int) ∧ List.drop a7 x4 = xs_ ∧ (∃ (σ : Nat → Value), a = fr 31 (ovl σ [(1, (.slice pa0 pn0 pc0)), (15, (.slice b7 b8 b9)), (16, (.int .i64 (x4.length : Int))), (17, (.int .i64 (a7 : Int)))]) ∧ Chg [] w a1 ∧ Own (Nw w []) M a1 ([]) ∧ (RT.rs (RT.int .i64)).val M a1 (.slice pa0 pn0 pc0) table ([]) ∧ (RT.rs (RT.rs (RT.pr (RT.rs (RT.int .i64)) (RT.mr Value.bool)))).val M a1 (.slice va0x2 vn0x2 vc0x2) b0.2.2 ([]) ∧ (RT.rs (RT.pr (RT.rs (RT.int .i64)) (RT.mr Value.bool))).val M a1 (.slice b7 b8 b9) x4 ([]))) (J := fun s21 a a1 => ∃ (σ : Nat → Value), a = fr 31 (ovl σ []) ∧ Chg [] w a1 ∧ Own (Nw w []) M a1 ([]) ∧ (RT.rs (RT.int .i64)).val M a1 (.slice pa0 pn0 pc0) table ([]) ∧ (RT.rs (RT.rs (RT.pr (RT.rs (RT.int .i64)) (RT.mr Value.bool)))).val M a1 (.slice va0x2 vn0x2 vc0x2) b0.2.2 ([]) ∧ (RT.rs (RT.pr (RT.rs (RT.int .i64)) (RT.mr Value.bool))).val M a1 (.slice b7 b8 b9) x4 ([])) (K := (k_impl_polySearch__fits M w)) ?_ ?_ x4 0 () o25 _ _ ?_ d4 ?_
 ·rintro _ s21 a a1 ⟨a7, rfl, hd, σ, rfl, hC, hO, h0, hl0x2, a0⟩
  have hlt := drop_nil_ge hd
  refine c_sr ?_
  refine pl_val (.bool (decide ((a7 : Int) < (x4.length : Int)))) (y_lss rfl rfl) ?_
  refine c_nil ?_
  refine c_seq ?_
  refine c_condF (congrArg Value.bool (decide_eq_false hlt)) ?_
  refine wp_exit ?_
  exact ⟨rfl, _, fr_ovl 31 trivial, hC, hO, h0, hl0x2, a0⟩
 ·rintro _ x24 xs_ s21 o25 a a1 ⟨a7, rfl, hd, σ, rfl, hC, hO, h0, hl0x2, a0⟩ hs
  have hlt := drop_cons_lt hd
  have d5 := drop_cons_idx hd
  refine c_sr ?_
  refine pl_val (.bool (decide ((a7 : Int) < (x4.length : Int)))) (y_lss rfl rfl) ?_
  refine c_nil ?_
  refine c_seq ?_
  refine c_condT (congrArg Value.bool (decide_eq_true hlt)) ?_
  refine wp_skip ?_
  refine c_seq ?_
  refine wp_block ?_
  refine c_sr ?_
  obtain ⟨d6, d7, d8, d9⟩ := rs_idx Sl133 Sz135 a0 d5
  refine pl_val (.pointer (some ⟨d6, d7, none⟩)) (d8 _ _ _ _ _ _ _ _ _ rfl rfl) ?_
  obtain ⟨f6, e0, e1⟩ := at_load Ag135 Sz135 (by intro h; cases h) d9
  obtain ⟨f7, rfl, e2⟩ := e1
  obtain ⟨f8, f9, rfl, e3, e4⟩ := pr_open e2
  obtain ⟨b2, b3, b4, rfl, a3⟩ := rs_rel e3
  obtain ⟨b5, rfl, a4⟩ := mr_rel e4
  refine pl_val (.agg #[(.slice b2 b3 b4), (.map (some b5))]) (y_load rfl (e0 _ (Chg.refl _ _))) ?_
  obtain ⟨e5, b6, e6, c4, a9, c5⟩ := new_block a1 [(.slice none 0 0), (.map none)] 135
  refine pl_val (w' := e5) (.pointer (some ⟨b6, 0, none⟩)) (y_alloc (by rw [e6, c4]; kernel_rfl)) ?_
  have h0 := h0.ext a9
  have hl0x2 := hl0x2.ext a9
  have a0 := a0.ext a9
  have a3 := a3.ext a9
  have a4 := a4.ext a9
  have hC := hC.ext a9
  have hO := hO.new1 a9 c4 c5.lt
  obtain ⟨c0, e7, b1, a6⟩ := box_store (P := Try.prog) c5 [] [(.slice none 0 0), (.map none)] [] [(.slice b2 b3 b4), (.map (some b5))] rfl rfl (by intro u hu; simp only [List.mem_cons, List.not_mem_nil, or_false] at hu; rcases hu with rfl | rfl <;> rfl)
  refine pl_skip (w' := c0) (ys_store rfl rfl (e7 _ _ rfl Sz135)) ?_
  have h0 := h0.mt b1 hO same_
  have hl0x2 := hl0x2.mt b1 hO same_
  have a0 := a0.mt b1 hO same_
  have a3 := a3.mt b1 hO same_
  have a4 := a4.mt b1 hO same_
  have hC := hC.st b1 hO same_
  have hO := hO.ext b1
  have a6 : BoxV c0 b6 135 [(.slice b2 b3 b4), (.map (some b5))] := a6
  refine c_nil ?_
  refine c_seq ?_
  refine x_start [] Mx rfl ?_
  have a8 := Chg.drew c0
  generalize World.drew c0 = e8 at a8 ⊢
  have h0 := h0.ext a8
  have hl0x2 := hl0x2.ext a8
  have a0 := a0.ext a8
  have a3 := a3.ext a8
  have a4 := a4.ext a8
  have a6 := a6.cn a8
  have hC := hC.ext a8
  have hO := hO.ext a8
  have hS := Chg.refl [] e8
  refine x_p 0 (.pointer (some ⟨b6, 1, none⟩)) rfl (by kernel_rfl)  (fun _ => y_faddr rfl Fa135x1) (fun _ => hS) ?_
  refine x_l 1 (.map (some b5)) rfl (by kernel_rfl)  (fun w' hw' => y_load rfl ((box_load Ag130 Sz130 a6 [(.slice b2 b3 b4)] [(.map (some b5))] [] rfl rfl (fun _ => rfl)) w' hw')) hS ?_
  refine x_p 2 (.pointer (some ⟨b6, 0, none⟩)) rfl (by kernel_rfl)  (fun _ => y_faddr rfl Fa135x0) (fun _ => hS) ?_
  refine x_l 3 (.slice b2 b3 b4) rfl (by kernel_rfl)  (fun w' hw' => y_load rfl ((box_load Ag41 Sz41 a6 [] [(.slice b2 b3 b4)] [(.map (some b5))] rfl rfl (fun _ => rfl)) w' hw')) hS ?_
  refine x_p 4 (.slice pa0 pn0 pc0) rfl (by kernel_rfl)  (fun _ => y_move rfl) (fun _ => hS) ?_
  refine x_one (i := 5) (by kernel_rfl) ?_
  obtain ⟨r35, e9, hs⟩ := bind_some hs
  refine xk_call (b := false) rfl  Bd81 rfl (c_impl_compose (M := M) x24.1 table a3 h0 hO.fut e9) rfl (by rintro _ _ _ ⟨f0, f1, f2, c2, rfl, a5, c1, c6⟩; exact hS.ext a5) ?_
  rintro _ g0 ⟨f0, f1, f2, c2, rfl, a5, c1, c6⟩
  have h0 := h0.ext a5
  have hl0x2 := hl0x2.ext a5
  have a0 := a0.ext a5
  have a3 := a3.ext a5
  have a4 := a4.ext a5
  have a6 := a6.cn a5
  have hC := hC.ext a5
  have hO := Own.join0 hO a5 c6
  have hO := hO.perm (R := c2 ++ (([b6]) ++ ([]))) (by simp)
  have hS := hS.ext a5
  refine x_one (i := 6) (by kernel_rfl) ?_
  obtain ⟨r38, f3, hs⟩ := bind_some hs
  refine xk_call (b := false) rfl  Bd112 rfl (c_impl_keyOf (M := (Less M c2)) r35 (((Frz.os Frz.int)).val c1 Less.sub Less.not) hO.less.fut f3) rfl (by rintro _ _ _ ⟨rfl, a2⟩; exact hS.ext a2) ?_
  rintro _ g1 ⟨rfl, a2⟩
  have h0 := h0.ext a2
  have hl0x2 := hl0x2.ext a2
  have a0 := a0.ext a2
  have a3 := a3.ext a2
  have a4 := a4.ext a2
  have a6 := a6.cn a2
  have c1 := c1.ext a2
  have hC := hC.ext a2
  have hO := hO.ext a2
  have hS := hS.ext a2
  refine x_one (i := 7) (by kernel_rfl) ?_
  refine xk_val (b := false) (.bool ((mget x24.2 r38).getD false)) rfl  (y_look (enc := Value.bool) Try.underlying130 Try.underlying9 Zv4 (mr_at a4) rfl rfl) rfl (fun _ => hS) ?_
  refine x_p 8 (.bool (!((mget x24.2 r38).getD false))) rfl (by kernel_rfl)  (fun _ => y_not rfl) (fun _ => hS) ?_
  refine x_end (by kernel_rfl) ?_
  clear hS
  rcases bif_some hs with ⟨c3, hs⟩ | ⟨c3, hs⟩
  ·refine c_condT (congrArg Value.bool c3) ?_
   refine c_sr ?_
   refine pl_val (.bool false) (y_assign rfl) ?_
   refine c_nil ?_
   refine wp_ret ?_
   cases hs
   exact ⟨_, fr_ovl 31 ⟨rfl, trivial⟩, hC⟩
  refine c_condF (congrArg Value.bool c3) ?_
  refine wp_skip ?_
  refine c_region ?_
  refine pl_val (.int .i64 (w64 ((a7 : Int) + 1))) (y_add rfl rfl) ?_
  refine pl_val (.int .i64 (w64 ((a7 : Int) + 1))) (y_move rfl) ?_
  refine c_nil ?_
  cases hs
  have hO := hO.drop
  have hO := hO.drop
  exact ⟨_, rfl, drop_cons_next hd, _, fr_ovl 31 ⟨rfl, rfl, rfl, congrArg (Value.int .i64) (w64_succ hlt (Int.natCast_nonneg _) (rs_max a0)), trivial⟩, hC, hO, h0, hl0x2, a0⟩
 ·skip
  exact ⟨0, rfl, rfl, _, fr_ovl 31 ⟨rfl, rfl, rfl, rfl, trivial⟩, hC, hO, h0, hl0x2, a0⟩
 cases o25 with
 | nx _ => exact True.intro
 | rt r_ =>
  have hs := after_rt hs
  intro f4 c7 hK
  cases hs
  exact hK
 | br s21 =>
  have hs := after_br hs
  rintro f4 a1 ⟨σ, rfl, hC, hO, h0, hl0x2, a0⟩
  refine c_sr ?_
  refine pl_val (.bool true) (y_assign rfl) ?_
  refine c_nil ?_
  refine wp_ret ?_
  cases hs
  exact ⟨_, fr_ovl 31 ⟨rfl, trivial⟩, hC⟩

theorem Bd60 : Bodied Try.prog 60 := bodied Try.func60 (by kernel_rfl) rfl

theorem Bd64 : Bodied Try.prog 64 := bodied Try.func64 (by kernel_rfl) rfl

theorem Ag111 : AggT Try.prog 111 true := fun _ => by kernel_rfl

theorem Sz111 : SzT Try.prog 111 2 := ⟨_, rfl, rfl⟩

theorem Bd62 : Bodied Try.prog 62 := bodied Try.func62 (by kernel_rfl) rfl

theorem Sz119 : SzT Try.prog 119 1 := ⟨_, rfl, rfl⟩

theorem Ag119 : AggT Try.prog 119 false := fun _ => by kernel_rfl

theorem Ag81 : AggT Try.prog 81 false := fun _ => by kernel_rfl

theorem Sz81 : SzT Try.prog 81 1 := ⟨_, rfl, rfl⟩

theorem Bd99 : Bodied Try.prog 99 := bodied Try.func99 (by kernel_rfl) rfl

def k_impl_IsCore_1__g (M : Nat → Prop) (w0 : World) (r : Bool) (a : Act) (w : World) : Prop :=
  ∃ (σ : Nat → Value) , a = fr 10 (ovl σ [(3, (.bool r))]) ∧ Chg [] w0 w
def s_impl_IsCore_1__g (table : List Int) (b0 : Int) : Option (Bool) :=
  (s_impl_imagesOf table b0).bind fun r5 =>
  some (decide ((r5.length : Int) < b0))
set_option maxHeartbeats 4000000 in
theorem c_impl_IsCore_1__g {M : Nat → Prop} {w : World} {vg0 : Nat} {pa0 : Option Addr} {pn0 pc0 : Nat} (table : List Int) (b0 : Int) (h0 : (RT.rs (RT.int .i64)).val M w (.slice pa0 pn0 pc0) table ([])) (hb0 : RBox M w vg0 3 [(.int .i64 b0)]) (hM : ∀ g, w.heap.size ≤ g → M g) {r : Bool} (hs : s_impl_IsCore_1__g table b0 = some r) :
    Gives Try.prog 98 [(.slice pa0 pn0 pc0), (.pointer (some ⟨vg0, 0, none⟩))] w (fun v w' => v = (.bool r) ∧ Chg [] w w') := by
 refine calls_fr Try.func98 rfl Try.ntmps98 (Nat.le_of_ble_eq_true rfl) ?_
 have hO := Own.start (N := Nw w []) hM Nw.fut
 have hC := Chg.refl [] w
 unfold s_impl_IsCore_1__g at hs
 refine wp_mono (Q := KPost (k_impl_IsCore_1__g M w r)) ?_ (fun e a b1 h => ?_)
 rotate_left
 ·cases e
  case ret =>
   obtain ⟨σ, rfl, hrest⟩ := h
   exact ret1x Try.results98 (res_tmp rfl) ⟨rfl, hrest⟩
  all_goals exact (h : False).elim
 refine c_sr ?_
 refine pl_val (.bool false) (y_assign rfl) ?_
 refine c_nil ?_
 refine c_seq ?_
 refine x_start [] Mx rfl ?_
 have a1 := Chg.drew w
 generalize World.drew w = a5 at a1 ⊢
 have h0 := h0.ext a1
 have hb0 := hb0.ext a1
 have hC := hC.ext a1
 have hO := hO.ext a1
 have hS := Chg.refl [] a5
 refine x_p 0 (.slice pa0 pn0 pc0) rfl (by kernel_rfl)  (fun _ => y_move rfl) (fun _ => hS) ?_
 refine x_l 1 (.int .i64 b0) rfl (by kernel_rfl)  (fun w' hw' => y_load rfl ((box_load Ag3 Sz3 hb0.1 [] [(.int .i64 b0)] [] rfl rfl (fun _ => rfl)) w' hw')) hS ?_
 refine x_l 4 (.int .i64 b0) rfl (by kernel_rfl)  (fun w' hw' => y_load rfl ((box_load Ag3 Sz3 hb0.1 [] [(.int .i64 b0)] [] rfl rfl (fun _ => rfl)) w' hw')) hS ?_
 refine x_one (i := 2) (by kernel_rfl) ?_
 obtain ⟨r5, a6, hs⟩ := bind_some hs
 refine xk_call (b := false) rfl  Bd99 rfl (c_impl_imagesOf (M := M) table b0 h0 hO.fut a6) rfl (by rintro _ _ _ ⟨a7, a8, a9, a2, rfl, a0, a3, a4⟩; exact hS.ext a0) ?_
 rintro _ b2 ⟨a7, a8, a9, a2, rfl, a0, a3, a4⟩
 have h0 := h0.ext a0
 have hb0 := hb0.ext a0
 have hC := hC.ext a0
 have hO := Own.join0 hO a0 a4
 have hO := hO.perm (R := a2 ++ ([])) (by simp)
 have hS := hS.ext a0
 refine x_p 3 (.int .i64 (r5.length : Int)) rfl (by kernel_rfl)  (fun _ => y_len' Sl41 (os_len a3) rfl) (fun _ => hS) ?_
 refine x_p 5 (.bool (decide ((r5.length : Int) < b0))) rfl (by kernel_rfl)  (fun _ => y_lss rfl rfl) (fun _ => hS) ?_
 refine x_p 6 (.bool (decide ((r5.length : Int) < b0))) rfl (by kernel_rfl)  (fun _ => y_assign rfl) (fun _ => hS) ?_
 refine x_end (by kernel_rfl) ?_
 clear hS
 refine wp_ret ?_
 cases hs
 exact ⟨_, fr_ovl 10 ⟨rfl, trivial⟩, hC⟩

theorem Bd98 : Bodied Try.prog 98 := bodied Try.func98 (by kernel_rfl) rfl

theorem Bd86 : Bodied Try.prog 86 := bodied Try.func86 (by kernel_rfl) rfl

def k_impl_firstPoly_1__IsCore_1 (M : Nat → Prop) (w0 : World) (vg0 : Nat) (vg1 : Nat) (vg2 : Nat) (vg3 : Nat) (vg4 : Nat) (pa0 : Option Addr) (pn0 pc0 : Nat) (va3x1 : Option Addr) (vn3x1 vc3x1 : Nat) (vf3x1 : List Nat) (table : List Int) (b1 : Int) (b2 : Int) (b3 : Int × (List Int)) (b4 : Bool) (r : Bool × Int × (List Int) × Bool) (a : Act) (w : World) : Prop :=
  ∃ (σ : Nat → Value) (oa3x1 : Option Addr) (on3x1 : Nat) (oc3x1 : Nat) (of3x1 : List Nat), a = fr 16 (ovl σ [(6, (.bool r.1))]) ∧ Chg ([vg3] ++ (vf3x1 ++ ([vg4] ++ ([])))) w0 w ∧ BoxV w vg3 111 [(.int .i64 r.2.1), (.slice oa3x1 on3x1 oc3x1)] ∧ (RT.os 3 (RT.int .i64)).val M w (.slice oa3x1 on3x1 oc3x1) r.2.2.1 of3x1 ∧ BoxV w vg4 4 [(.bool r.2.2.2)] ∧ Own (Nw w0 ([vg3] ++ (vf3x1 ++ ([vg4] ++ ([]))))) (fun _ => True) w ([vg3] ++ (of3x1 ++ ([vg4] ++ ([]))))
def s_impl_firstPoly_1__IsCore_1 (table : List Int) (b1 : Int) (b2 : Int) (b3 : Int × (List Int)) (b4 : Bool) : Option (Bool × Int × (List Int) × Bool) :=
  (s_impl_IsCore_1__g table b1).bind fun r9 =>
  (bif r9 then (s_impl_clone table).bind fun r13 =>
  some ((!true), b2, r13, true) else some ((!b4), b3.1, b3.2, b4))
set_option maxHeartbeats 4000000 in
theorem c_impl_firstPoly_1__IsCore_1 {M : Nat → Prop} {w : World} {vg0 : Nat} {vg1 : Nat} {vg2 : Nat} {vg3 : Nat} {vg4 : Nat} {pa0 : Option Addr} {pn0 pc0 : Nat} {va3x1 : Option Addr} {vn3x1 vc3x1 : Nat} {vf3x1 : List Nat} (table : List Int) (b1 : Int) (b2 : Int) (b3 : Int × (List Int)) (b4 : Bool) (h0 : (RT.rs (RT.int .i64)).val M w (.slice pa0 pn0 pc0) table ([])) (hb0 : RBox M w vg0 81 [(.func (.func 98) #[] #[(.pointer (some ⟨vg1, 0, none⟩))])]) (hb1 : RBox M w vg1 3 [(.int .i64 b1)]) (hb2 : RBox M w vg2 3 [(.int .i64 b2)]) (hb3 : BoxV w vg3 111 [(.int .i64 b3.1), (.slice va3x1 vn3x1 vc3x1)]) (hl3x1 : (RT.os 3 (RT.int .i64)).val M w (.slice va3x1 vn3x1 vc3x1) b3.2 vf3x1) (hb4 : BoxV w vg4 4 [(.bool b4)]) (hI : Own (Nw w ([vg3] ++ (vf3x1 ++ ([vg4] ++ ([]))))) M w ([vg3] ++ (vf3x1 ++ ([vg4] ++ ([]))))) (hM : ∀ g, w.heap.size ≤ g → M g) {r : Bool × Int × (List Int) × Bool} (hs : s_impl_firstPoly_1__IsCore_1 table b1 b2 b3 b4 = some r) :
    Gives Try.prog 127 [(.slice pa0 pn0 pc0), (.pointer (some ⟨vg0, 0, none⟩)), (.pointer (some ⟨vg2, 0, none⟩)), (.pointer (some ⟨vg3, 0, none⟩)), (.pointer (some ⟨vg4, 0, none⟩))] w (fun v w' => ∃ (oa3x1 : Option Addr) (on3x1 : Nat) (oc3x1 : Nat) (of3x1 : List Nat), v = (.bool r.1) ∧ Chg ([vg3] ++ (vf3x1 ++ ([vg4] ++ ([])))) w w' ∧ BoxV w' vg3 111 [(.int .i64 r.2.1), (.slice oa3x1 on3x1 oc3x1)] ∧ (RT.os 3 (RT.int .i64)).val M w' (.slice oa3x1 on3x1 oc3x1) r.2.2.1 of3x1 ∧ BoxV w' vg4 4 [(.bool r.2.2.2)] ∧ Own (Nw w ([vg3] ++ (vf3x1 ++ ([vg4] ++ ([]))))) (fun _ => True) w' ([vg3] ++ (of3x1 ++ ([vg4] ++ ([]))))) := by
 refine calls_fr Try.func127 rfl Try.ntmps127 (Nat.le_of_ble_eq_true rfl) ?_
 have hO := hI
 have hC := Chg.refl ([vg3] ++ (vf3x1 ++ ([vg4] ++ ([])))) w
 unfold s_impl_firstPoly_1__IsCore_1 at hs
 refine wp_mono (Q := KPost (k_impl_firstPoly_1__IsCore_1 M w vg0 vg1 vg2 vg3 vg4 pa0 pn0 pc0 va3x1 vn3x1 vc3x1 vf3x1 table b1 b2 b3 b4 r)) ?_ (fun e a c7 h => ?_)
 rotate_left
 ·cases e
  case ret =>
   obtain ⟨σ, oa3x1, on3x1, oc3x1, of3x1, rfl, hrest⟩ := h
   exact ret1x Try.results127 (res_tmp rfl) ⟨oa3x1, on3x1, oc3x1, of3x1, rfl, hrest⟩
  all_goals exact (h : False).elim
 refine c_sr ?_
 refine pl_val (.bool false) (y_assign rfl) ?_
 refine c_nil ?_
 refine c_seq ?_
 refine c_sr ?_
 refine pl_val (.func (.func 98) #[] #[(.pointer (some ⟨vg1, 0, none⟩))]) (y_load rfl ((box_load Ag81 Sz81 hb0.1 [] [(.func (.func 98) #[] #[(.pointer (some ⟨vg1, 0, none⟩))])] [] rfl rfl (fun _ => rfl)) _ (Chg.refl _ _))) ?_
 refine pl_val (.slice pa0 pn0 pc0) (y_move rfl) ?_
 obtain ⟨r9, c1, hs⟩ := bind_some hs
 refine pl_callb rfl Bd98 rfl (c_impl_IsCore_1__g (M := M) table b1 h0 (show RBox M _ vg1 3 [(.int .i64 b1)] from hb1) hO.fut c1) ?_
 rintro _ b7 ⟨rfl, a1⟩
 have hO := hO.perm (R := [] ++ (([vg3]) ++ (vf3x1 ++ (([vg4]) ++ ([]))))) (by simp)
 have h0 := h0.ext a1
 have hb0 := hb0.ext a1
 have hb1 := hb1.ext a1
 have hb2 := hb2.ext a1
 have hl3x1 := hl3x1.ext a1
 have hb3 := hb3.cn a1
 have hb4 := hb4.cn a1
 have hC := hC.ext a1
 have hO := hO.ext a1
 have hO := hO.perm (R := ([vg3]) ++ (vf3x1 ++ (([vg4]) ++ ([])))) (by simp)
 refine c_nil ?_
 rcases bif_some hs with ⟨b5, hs⟩ | ⟨b5, hs⟩
 ·refine c_condT (congrArg Value.bool b5) ?_
  refine x_start [4, 5] Mx rfl ?_
  have a2 := Chg.drew b7
  generalize World.drew b7 = c2 at a2 ⊢
  have h0 := h0.ext a2
  have hb2 := hb2.ext a2
  have hl3x1 := hl3x1.ext a2
  have hb3 := hb3.cn a2
  have hb4 := hb4.cn a2
  have hC := hC.ext a2
  have hO := hO.ext a2
  have hS := Chg.refl [] c2
  refine x_l 0 (.int .i64 b2) rfl (by kernel_rfl)  (fun w' hw' => y_load rfl ((box_load Ag3 Sz3 hb2.1 [] [(.int .i64 b2)] [] rfl rfl (fun _ => rfl)) w' hw')) hS ?_
  refine x_p 1 (.slice pa0 pn0 pc0) rfl (by kernel_rfl)  (fun _ => y_move rfl) (fun _ => hS) ?_
  refine x_one (i := 2) (by kernel_rfl) ?_
  obtain ⟨r13, c3, hs⟩ := bind_some hs
  refine xk_call (b := false) rfl  Bd86 rfl (c_impl_clone (M := M) table h0 hO.fut c3) rfl (by rintro _ _ _ ⟨a6, a7, a8, b6, rfl, a0, a5, c4, b8⟩; exact hS.ext a0) ?_
  rintro _ c8 ⟨a6, a7, a8, b6, rfl, a0, a5, c4, b8⟩
  have h0 := h0.ext a0
  have hb2 := hb2.ext a0
  have hl3x1 := hl3x1.ext a0
  have hb3 := hb3.cn a0
  have hb4 := hb4.cn a0
  have hC := hC.ext a0
  have hO := Own.join0 hO a0 b8
  have hO := hO.perm (R := b6 ++ (([vg3]) ++ (vf3x1 ++ (([vg4]) ++ ([]))))) (by simp)
  have hS := hS.ext a0
  refine x_p 3 (.agg #[(.int .i64 b2), (.slice a6 a7 a8)]) rfl (by kernel_rfl)  (fun _ => y_build rfl (by kernel_rfl)) (fun _ => hS) ?_
  refine x_one (i := 4) (by kernel_rfl) ?_
  obtain ⟨b9, c5, a3, a9⟩ := box_store (P := Try.prog) hb3 [] [(.int .i64 b3.1), (.slice va3x1 vn3x1 vc3x1)] [] [(.int .i64 b2), (.slice a6 a7 a8)] rfl rfl (by intro u hu; simp only [List.mem_cons, List.not_mem_nil, or_false] at hu; rcases hu with rfl | rfl <;> rfl)
  refine xk_skip (w' := b9) (b := true) rfl (ys_store rfl rfl (c5 _ _ rfl Sz111)) rfl (fun h => nomatch h) ?_
  have hO := hO.fr1
  have h0 := h0.mt a3 hO same_
  have hb2 := hb2.mut a3 (fun q hq => hO.inM q ((fun _ h => h) q hq))
  have hl3x1 := hl3x1.ma a3 hO same_ (fun _ e => (mem_r (mem_l (e))))
  have hb4 := hb4.ap a3 hO same_ (mem_r (mem_r (mem_l (List.mem_singleton.2 rfl))))
  have a5 := a5.ma a3 hO same_ (fun _ e => (mem_l (e)))
  have hC := hC.st a3 hO same_
  have hO := hO.ext a3
  have a9 : BoxV b9 vg3 111 [(.int .i64 b2), (.slice a6 a7 a8)] := a9
  refine x_one (i := 5) (by kernel_rfl) ?_
  obtain ⟨c0, c6, a4, b0⟩ := box_store (P := Try.prog) hb4 [] [(.bool b4)] [] [(.bool true)] rfl rfl (by intro u hu; simp only [List.mem_cons, List.not_mem_nil, or_false] at hu; rcases hu with rfl <;> rfl)
  refine xk_skip (w' := c0) (b := true) rfl (ys_store rfl rfl (c6 _ _ rfl Sz4)) rfl (fun h => nomatch h) ?_
  have hO := hO.fr3
  have h0 := h0.mt a4 hO same_
  have hb2 := hb2.mut a4 (fun q hq => hO.inM q ((fun _ h => h) q hq))
  have hl3x1 := hl3x1.ma a4 hO same_ (fun _ e => (mem_r (mem_r (mem_l (e)))))
  have a9 := a9.ap a4 hO same_ (mem_l (List.mem_singleton.2 rfl))
  have a5 := a5.ma a4 hO same_ (fun _ e => (mem_r (mem_l (e))))
  have hC := hC.st a4 hO same_
  have hO := hO.ext a4
  have b0 : BoxV c0 vg4 4 [(.bool true)] := b0
  refine x_end (by kernel_rfl) ?_
  clear hS
  refine c_sr ?_
  refine pl_val (.bool true) (y_load rfl ((box_load Ag4 Sz4 b0 [] [(.bool true)] [] rfl rfl (fun _ => rfl)) _ (Chg.refl _ _))) ?_
  refine pl_val (.bool (!true)) (y_not rfl) ?_
  refine pl_val (.bool (!true)) (y_assign rfl) ?_
  refine c_nil ?_
  refine wp_ret ?_
  cases hs
  have hO := hO.fr3
  have hO := hO.drop
  have hO := hO.fr2
  have hO := hO.fr2
  exact ⟨_, a6, a7, a8, b6, fr_ovl 16 ⟨rfl, trivial⟩, hC, a9, a5, b0, hO.top⟩
 refine c_condF (congrArg Value.bool b5) ?_
 refine wp_skip ?_
 refine c_sr ?_
 refine pl_val (.bool b4) (y_load rfl ((box_load Ag4 Sz4 hb4 [] [(.bool b4)] [] rfl rfl (fun _ => rfl)) _ (Chg.refl _ _))) ?_
 refine pl_val (.bool (!b4)) (y_not rfl) ?_
 refine pl_val (.bool (!b4)) (y_assign rfl) ?_
 refine c_nil ?_
 refine wp_ret ?_
 cases hs
 have hO := hO.fr2
 have hO := hO.fr2
 have hO := hO.fr2
 exact ⟨_, va3x1, vn3x1, vc3x1, vf3x1, fr_ovl 16 ⟨rfl, trivial⟩, hC, hb3, hl3x1, hb4, hO.top⟩

theorem Bd127 : Bodied Try.prog 127 := bodied Try.func127 (by kernel_rfl) rfl

theorem Ag91 : AggT Try.prog 91 false := fun _ => by kernel_rfl

theorem Sz91 : SzT Try.prog 91 1 := ⟨_, rfl, rfl⟩

theorem Fa129x0 : ∀ (a : Addr) (w : World), (Instr.fieldAt 129 (.pointer (some a)) 0).run Try.prog w = .ok (.pointer (some (a.add 0))) w := fun _ _ => by kernel_rfl

theorem Bd114 : Bodied Try.prog 114 := bodied Try.func114 (by kernel_rfl) rfl

theorem Bd113 : Bodied Try.prog 113 := bodied Try.func113 (by kernel_rfl) rfl

def k_impl_polySearch__each_1__firstPoly_1_IsCore_1 (M : Nat → Prop) (w0 : World) (vg0 : Nat) (vg1 : Nat) (vg2 : Nat) (vg3 : Nat) (vg4 : Nat) (vg5 : Nat) (vg6 : Nat) (vg7 : Nat) (vg8 : Nat) (vg9 : Nat) (vg10 : Nat) (va0x0 : Option Addr) (vn0x0 vc0x0 : Nat) (vf0x0 : List Nat) (va5x1 : Option Addr) (vn5x1 vc5x1 : Nat) (vf5x1 : List Nat) (va8x2 : Option Addr) (vn8x2 vc8x2 : Nat) (va9x0 : Option Addr) (vn9x0 vc9x0 : Nat) (at_ : Int) (b0 : (List Int)) (b3 : Int) (b4 : Int) (b5 : Int × (List Int)) (b6 : Bool) (b8 : Int × Int × (List (List ((List Int) × (List (ByteArray × Bool)))))) (b9 : (List Int)) (r : Bool × (List Int) × Int × (List Int) × Bool) (a : Act) (w : World) : Prop :=
  ∃ (σ : Nat → Value) (oa0x0 : Option Addr) (on0x0 : Nat) (oc0x0 : Nat) (of0x0 : List Nat) (oa5x1 : Option Addr) (on5x1 : Nat) (oc5x1 : Nat) (of5x1 : List Nat), a = fr 52 (ovl σ [(7, (.bool r.1))]) ∧ Chg ([vg0] ++ (vf0x0 ++ ([vg5] ++ (vf5x1 ++ ([vg6] ++ ([])))))) w0 w ∧ BoxV w vg0 41 [(.slice oa0x0 on0x0 oc0x0)] ∧ (RT.os 3 (RT.int .i64)).val M w (.slice oa0x0 on0x0 oc0x0) r.2.1 of0x0 ∧ BoxV w vg5 111 [(.int .i64 r.2.2.1), (.slice oa5x1 on5x1 oc5x1)] ∧ (RT.os 3 (RT.int .i64)).val M w (.slice oa5x1 on5x1 oc5x1) r.2.2.2.1 of5x1 ∧ BoxV w vg6 4 [(.bool r.2.2.2.2)] ∧ Own (Nw w0 ([vg0] ++ (vf0x0 ++ ([vg5] ++ (vf5x1 ++ ([vg6] ++ ([]))))))) (fun _ => True) w ([vg0] ++ (of0x0 ++ ([vg5] ++ (of5x1 ++ ([vg6] ++ ([]))))))
def s_impl_polySearch__each_1__firstPoly_1_IsCore_1 : Nat → (Int) → ((List Int)) → (Int) → (Int) → (Int × (List Int)) → (Bool) → (Int × Int × (List (List ((List Int) × (List (ByteArray × Bool)))))) → ((List Int)) → Option (Bool × (List Int) × Int × (List Int) × Bool)
  | 0, _, _, _, _, _, _, _, _ => none
  | fu_ + 1, at_, b0, b3, b4, b5, b6, b8, b9 =>
  (bif (at_ == (b0.length : Int)) then (s_impl_firstPoly_1__IsCore_1 b0 b3 b4 (b5.1, b5.2) b6).bind fun r18 =>
  some (r18.1, b0, r18.2.1, r18.2.2.1, r18.2.2.2) else (forC (S := (List Int) × Int × (List Int) × Bool) (R := Bool × (List Int) × Int × (List Int) × Bool) (fun k66 s64 =>
  ((idx b9 at_).bind fun x81 =>
  (bif (decide (0 ≤ x81)) then (idx b9 at_).bind fun x84 =>
  some (x84 != k66) else some false)).bind fun s78 =>
  (bif s78 then some (.nx (s64.1, s64.2.1, s64.2.2.1, s64.2.2.2)) else (idx s64.1 at_).bind fun x87 =>
  (s_impl_polySearch__fits (List.set s64.1 (Int.toNat at_) k66) at_ (b8.1, b8.2.1, b8.2.2)).bind fun r91 =>
  (bif r91 then (s_impl_polySearch__each_1__firstPoly_1_IsCore_1 fu_ (w64 (at_ + 1)) (List.set s64.1 (Int.toNat at_) k66) b3 b4 (s64.2.1, s64.2.2.1) s64.2.2.2 (b8.1, b8.2.1, b8.2.2) b9).bind fun r94 =>
  (bif (!r94.1) then some (.rt (false, r94.2.1, r94.2.2.1, r94.2.2.2.1, r94.2.2.2.2)) else some (.nx (r94.2.1, r94.2.2.1, r94.2.2.2.1, r94.2.2.2.2))) else some (.nx (List.set s64.1 (Int.toNat at_) k66, s64.2.1, s64.2.2.1, s64.2.2.2))))) 0 b8.1 (b0, b5.1, b5.2, b6)).bind fun o68 => after o68 (fun r_ => some r_) (fun s64 =>
  some (true, s64.1, s64.2.1, s64.2.2.1, s64.2.2.2)))
set_option maxHeartbeats 4000000 in
theorem c_impl_polySearch__each_1__firstPoly_1_IsCore_1 : ∀ (fu_ : Nat) {M : Nat → Prop} {w : World} {vg0 : Nat} {vg1 : Nat} {vg2 : Nat} {vg3 : Nat} {vg4 : Nat} {vg5 : Nat} {vg6 : Nat} {vg7 : Nat} {vg8 : Nat} {vg9 : Nat} {vg10 : Nat} {va0x0 : Option Addr} {vn0x0 vc0x0 : Nat} {vf0x0 : List Nat} {va5x1 : Option Addr} {vn5x1 vc5x1 : Nat} {vf5x1 : List Nat} {va8x2 : Option Addr} {vn8x2 vc8x2 : Nat} {va9x0 : Option Addr} {vn9x0 vc9x0 : Nat} (at_ : Int) (b0 : (List Int)) (b3 : Int) (b4 : Int) (b5 : Int × (List Int)) (b6 : Bool) (b8 : Int × Int × (List (List ((List Int) × (List (ByteArray × Bool)))))) (b9 : (List Int)) (hb0 : BoxV w vg0 41 [(.slice va0x0 vn0x0 vc0x0)]) (hl0x0 : (RT.os 3 (RT.int .i64)).val M w (.slice va0x0 vn0x0 vc0x0) b0 vf0x0) (hb1 : RBox M w vg1 81 [(.func (.func 127) #[] #[(.pointer (some ⟨vg2, 0, none⟩)), (.pointer (some ⟨vg4, 0, none⟩)), (.pointer (some ⟨vg5, 0, none⟩)), (.pointer (some ⟨vg6, 0, none⟩))])]) (hb2 : RBox M w vg2 81 [(.func (.func 98) #[] #[(.pointer (some ⟨vg3, 0, none⟩))])]) (hb3 : RBox M w vg3 3 [(.int .i64 b3)]) (hb4 : RBox M w vg4 3 [(.int .i64 b4)]) (hb5 : BoxV w vg5 111 [(.int .i64 b5.1), (.slice va5x1 vn5x1 vc5x1)]) (hl5x1 : (RT.os 3 (RT.int .i64)).val M w (.slice va5x1 vn5x1 vc5x1) b5.2 vf5x1) (hb6 : BoxV w vg6 4 [(.bool b6)]) (hb7 : RBox M w vg7 91 [(.pointer (some ⟨vg8, 0, none⟩))]) (hb8 : RBox M w vg8 129 [(.int .i64 b8.1), (.int .i64 b8.2.1), (.slice va8x2 vn8x2 vc8x2)]) (hl8x2 : (RT.rs (RT.rs (RT.pr (RT.rs (RT.int .i64)) (RT.mr Value.bool)))).val M w (.slice va8x2 vn8x2 vc8x2) b8.2.2 ([])) (hb9 : RBox M w vg9 41 [(.slice va9x0 vn9x0 vc9x0)]) (hl9x0 : (RT.rs (RT.int .i64)).val M w (.slice va9x0 vn9x0 vc9x0) b9 ([])) (hb10 : RBox M w vg10 119 [(.func (.func 113) #[] #[(.pointer (some ⟨vg0, 0, none⟩)), (.pointer (some ⟨vg1, 0, none⟩)), (.pointer (some ⟨vg7, 0, none⟩)), (.pointer (some ⟨vg9, 0, none⟩)), (.pointer (some ⟨vg10, 0, none⟩))])]) (hI : Own (Nw w ([vg0] ++ (vf0x0 ++ ([vg5] ++ (vf5x1 ++ ([vg6] ++ ([]))))))) M w ([vg0] ++ (vf0x0 ++ ([vg5] ++ (vf5x1 ++ ([vg6] ++ ([]))))))) (hM : ∀ g, w.heap.size ≤ g → M g) {r : Bool × (List Int) × Int × (List Int) × Bool} (hs : s_impl_polySearch__each_1__firstPoly_1_IsCore_1 fu_ at_ b0 b3 b4 b5 b6 b8 b9 = some r), Gives Try.prog 113 [(.int .i64 at_), (.pointer (some ⟨vg0, 0, none⟩)), (.pointer (some ⟨vg1, 0, none⟩)), (.pointer (some ⟨vg7, 0, none⟩)), (.pointer (some ⟨vg9, 0, none⟩)), (.pointer (some ⟨vg10, 0, none⟩))] w (fun v w' => ∃ (oa0x0 : Option Addr) (on0x0 : Nat) (oc0x0 : Nat) (of0x0 : List Nat) (oa5x1 : Option Addr) (on5x1 : Nat) (oc5x1 : Nat) (of5x1 : List Nat), v = (.bool r.1) ∧ Chg ([vg0] ++ (vf0x0 ++ ([vg5] ++ (vf5x1 ++ ([vg6] ++ ([])))))) w w' ∧ BoxV w' vg0 41 [(.slice oa0x0 on0x0 oc0x0)] ∧ (RT.os 3 (RT.int .i64)).val M w' (.slice oa0x0 on0x0 oc0x0) r.2.1 of0x0 ∧ BoxV w' vg5 111 [(.int .i64 r.2.2.1), (.slice oa5x1 on5x1 oc5x1)] ∧ (RT.os 3 (RT.int .i64)).val M w' (.slice oa5x1 on5x1 oc5x1) r.2.2.2.1 of5x1 ∧ BoxV w' vg6 4 [(.bool r.2.2.2.2)] ∧ Own (Nw w ([vg0] ++ (vf0x0 ++ ([vg5] ++ (vf5x1 ++ ([vg6] ++ ([]))))))) (fun _ => True) w' ([vg0] ++ (of0x0 ++ ([vg5] ++ (of5x1 ++ ([vg6] ++ ([]))))))) := by
 intro fu_
 induction fu_ with
 | zero => intro M w vg0 vg1 vg2 vg3 vg4 vg5 vg6 vg7 vg8 vg9 vg10 va0x0 vn0x0 vc0x0 vf0x0 va5x1 vn5x1 vc5x1 vf5x1 va8x2 vn8x2 vc8x2 va9x0 vn9x0 vc9x0 at_ b0 b3 b4 b5 b6 b8 b9 hb0 hl0x0 hb1 hb2 hb3 hb4 hb5 hl5x1 hb6 hb7 hb8 hl8x2 hb9 hl9x0 hb10 hI hM r hs; exact (nomatch hs)
 | succ fu_ c_ih =>
 intro M w vg0 vg1 vg2 vg3 vg4 vg5 vg6 vg7 vg8 vg9 vg10 va0x0 vn0x0 vc0x0 vf0x0 va5x1 vn5x1 vc5x1 vf5x1 va8x2 vn8x2 vc8x2 va9x0 vn9x0 vc9x0 at_ b0 b3 b4 b5 b6 b8 b9 hb0 hl0x0 hb1 hb2 hb3 hb4 hb5 hl5x1 hb6 hb7 hb8 hl8x2 hb9 hl9x0 hb10 hI hM r hs
 refine calls_fr Try.func113 rfl Try.ntmps113 (Nat.le_of_ble_eq_true rfl) ?_
 have hO := hI
 have hC := Chg.refl ([vg0] ++ (vf0x0 ++ ([vg5] ++ (vf5x1 ++ ([vg6] ++ ([])))))) w
 rw [s_impl_polySearch__each_1__firstPoly_1_IsCore_1] at hs
 refine wp_mono (Q := KPost (k_impl_polySearch__each_1__firstPoly_1_IsCore_1 M w vg0 vg1 vg2 vg3 vg4 vg5 vg6 vg7 vg8 vg9 vg10 va0x0 vn0x0 vc0x0 vf0x0 va5x1 vn5x1 vc5x1 vf5x1 va8x2 vn8x2 vc8x2 va9x0 vn9x0 vc9x0 at_ b0 b3 b4 b5 b6 b8 b9 r)) ?_ (fun e a g8 h => ?_)
 rotate_left
 ·cases e
  case ret =>
   obtain ⟨σ, oa0x0, on0x0, oc0x0, of0x0, oa5x1, on5x1, oc5x1, of5x1, rfl, hrest⟩ := h
   exact ret1x Try.results113 (res_tmp rfl) ⟨oa0x0, on0x0, oc0x0, of0x0, oa5x1, on5x1, oc5x1, of5x1, rfl, hrest⟩
  all_goals exact (h : False).elim
 refine c_sr ?_
 refine pl_val (.bool false) (y_assign rfl) ?_
 refine c_nil ?_
 refine c_seq ?_
 refine c_sr ?_
 refine pl_val (.int .i64 at_) (y_move rfl) ?_
 refine pl_val (.slice va0x0 vn0x0 vc0x0) (y_load rfl ((box_load Ag41 Sz41 hb0 [] [(.slice va0x0 vn0x0 vc0x0)] [] rfl rfl (fun _ => rfl)) _ (Chg.refl _ _))) ?_
 refine pl_val (.int .i64 (b0.length : Int)) (y_len' Sl41 (os_len hl0x0) rfl) ?_
 refine pl_val (.bool (at_ == (b0.length : Int))) (y_eql rfl rfl) ?_
 refine c_nil ?_
 rcases bif_some hs with ⟨d9, hs⟩ | ⟨d9, hs⟩
 ·refine c_condT (congrArg Value.bool d9) ?_
  refine c_sr ?_
  refine pl_val (.func (.func 127) #[] #[(.pointer (some ⟨vg2, 0, none⟩)), (.pointer (some ⟨vg4, 0, none⟩)), (.pointer (some ⟨vg5, 0, none⟩)), (.pointer (some ⟨vg6, 0, none⟩))]) (y_load rfl ((box_load Ag81 Sz81 hb1.1 [] [(.func (.func 127) #[] #[(.pointer (some ⟨vg2, 0, none⟩)), (.pointer (some ⟨vg4, 0, none⟩)), (.pointer (some ⟨vg5, 0, none⟩)), (.pointer (some ⟨vg6, 0, none⟩))])] [] rfl rfl (fun _ => rfl)) _ (Chg.refl _ _))) ?_
  refine pl_val (.slice va0x0 vn0x0 vc0x0) (y_load rfl ((box_load Ag41 Sz41 hb0 [] [(.slice va0x0 vn0x0 vc0x0)] [] rfl rfl (fun _ => rfl)) _ (Chg.refl _ _))) ?_
  have hO := hO.fr1
  have hO := hO.fr4
  have hO := hO.fr4
  have hO := hO.fr4
  have e0 := hO
  have e0 := e0.fr3
  have f5 := Own.lend (F := (([vg5]) ++ (vf5x1 ++ (([vg6]) ++ ([]))))) (R := ([vg0]) ++ ([])) (Own.perm (e0.less) (by simp))
  obtain ⟨r18, g9, hs⟩ := bind_some hs
  refine pl_callb rfl Bd127 rfl (c_impl_firstPoly_1__IsCore_1 (M := (Less M vf0x0)) b0 b3 b4 (b5.1, b5.2) b6 (((Frz.os Frz.int)).val hl0x0 Less.sub Less.not) (show RBox (Less M vf0x0) _ vg2 81 [(.func (.func 98) #[] #[(.pointer (some ⟨vg3, 0, none⟩))])] from (hb2.sub Less.sub)) (show RBox (Less M vf0x0) _ vg3 3 [(.int .i64 b3)] from (hb3.sub Less.sub)) (show RBox (Less M vf0x0) _ vg4 3 [(.int .i64 b4)] from (hb4.sub Less.sub)) (show BoxV _ vg5 111 [(.int .i64 b5.1), (.slice va5x1 vn5x1 vc5x1)] from hb5) (hl5x1.sub Less.sub) (show BoxV _ vg6 4 [(.bool b6)] from hb6) f5 f5.fut g9) ?_
  rintro _ f6 ⟨f7, f8, f9, g0, rfl, a6, e1, e2, e3, h0⟩
  have hO := hO.fr3
  have hO := hO.fr3
  have hO := hO.fr3
  have hO := hO.fr3
  have hO := hO.perm (R := (([vg5]) ++ (vf5x1 ++ (([vg6]) ++ ([])))) ++ (vf0x0 ++ (([vg0]) ++ ([])))) (by simp)
  have hl0x0 := hl0x0.ma a6 hO same_ (fun _ e => (mem_l (e)))
  have hb0 := hb0.ap a6 hO same_ (mem_r (mem_l (List.mem_singleton.2 rfl)))
  have hb1 := hb1.mut a6 (fun q hq => hO.inM q ((fun _ h => h) q hq))
  have hb2 := hb2.mut a6 (fun q hq => hO.inM q ((fun _ h => h) q hq))
  have hb3 := hb3.mut a6 (fun q hq => hO.inM q ((fun _ h => h) q hq))
  have hb4 := hb4.mut a6 (fun q hq => hO.inM q ((fun _ h => h) q hq))
  have hb7 := hb7.mut a6 (fun q hq => hO.inM q ((fun _ h => h) q hq))
  have hl8x2 := hl8x2.mt a6 hO same_
  have hb8 := hb8.mut a6 (fun q hq => hO.inM q ((fun _ h => h) q hq))
  have hl9x0 := hl9x0.mt a6 hO same_
  have hb9 := hb9.mut a6 (fun q hq => hO.inM q ((fun _ h => h) q hq))
  have hb10 := hb10.mut a6 (fun q hq => hO.inM q ((fun _ h => h) q hq))
  have hC := hC.st a6 hO same_
  have hO := Own.join hO a6 h0
  have hO := hO.perm (R := [vg5] ++ (g0 ++ ([vg6] ++ (vf0x0 ++ (([vg0]) ++ ([])))))) (by simp)
  have e2 := e2.free (M' := M) (Free.os Free.int)
  have e1 : BoxV f6 vg5 111 [(.int .i64 r18.2.1), (.slice f7 f8 f9)] := e1
  have e3 : BoxV f6 vg6 4 [(.bool r18.2.2.2)] := e3
  refine pl_val (.bool r18.1) (y_assign rfl) ?_
  refine c_nil ?_
  refine wp_ret ?_
  cases hs
  have hO := hO.fr2
  have hO := hO.fr2
  have hO := hO.fr2
  have hO := hO.fr3
  have hO := hO.fr4
  exact ⟨_, va0x0, vn0x0, vc0x0, vf0x0, f7, f8, f9, g0, fr_ovl 52 ⟨rfl, trivial⟩, hC, hb0, hl0x0, e1, e2, e3, hO.top⟩
 refine c_condF (congrArg Value.bool d9) ?_
 refine wp_skip ?_
 refine c_seq ?_
 refine c_sr ?_
 refine pl_val (.int .i64 0) (y_assign rfl) ?_
 refine c_nil ?_
 obtain ⟨o68, h1, hs⟩ := bind_some hs
 refine wp_block ?_
 refine wp_forC (id := 0) b8.1 (I := fun k66 s64 a a0 => ∃ (σ : Nat → Value) (a8 : Option Addr) (a9 : Nat) (b1 : Nat) (c5 : List Nat) (c2 : Option Addr) (c3 : Nat) (c4 : Nat) (b7 : List Nat), a = fr 52 (ovl σ [(0, (.int .i64 at_)), (1, (.pointer (some ⟨vg0, 0, none⟩))), (3, (.pointer (some ⟨vg7, 0, none⟩))), (4, (.pointer (some ⟨vg9, 0, none⟩))), (5, (.pointer (some ⟨vg10, 0, none⟩))), (8, (.int .i64 k66))]) ∧ Chg ([vg0] ++ (vf0x0 ++ ([vg5] ++ (vf5x1 ++ ([vg6] ++ ([])))))) w a0 ∧ Own (Nw w ([vg0] ++ (vf0x0 ++ ([vg5] ++ (vf5x1 ++ ([vg6] ++ ([]))))))) M a0 (c5 ++ (b7 ++ (([vg0]) ++ (([vg5]) ++ (([vg6]) ++ []))))) ∧ BoxV a0 vg0 41 [(.slice a8 a9 b1)] ∧ RBox M a0 vg1 81 [(.func (.func 127) #[] #[(.pointer (some ⟨vg2, 0, none⟩)), (.pointer (some ⟨vg4, 0, none⟩)), (.pointer (some ⟨vg5, 0, none⟩)), (.pointer (some ⟨vg6, 0, none⟩))])] ∧ RBox M a0 vg2 81 [(.func (.func 98) #[] #[(.pointer (some ⟨vg3, 0, none⟩))])] ∧ RBox M a0 vg3 3 [(.int .i64 b3)] ∧ RBox M a0 vg4 3 [(.int .i64 b4)] ∧ BoxV a0 vg5 111 [(.int .i64 s64.2.1), (.slice c2 c3 c4)] ∧ BoxV a0 vg6 4 [(.bool s64.2.2.2)] ∧ RBox M a0 vg7 91 [(.pointer (some ⟨vg8, 0, none⟩))] ∧ (RT.rs (RT.rs (RT.pr (RT.rs (RT.int .i64)) (RT.mr Value.bool)))).val M a0 (.slice va8x2 vn8x2 vc8x2) b8.2.2 ([]) ∧ RBox M a0 vg8 129 [(.int .i64 b8.1), (.int .i64 b8.2.1), (.slice va8x2 vn8x2 vc8x2)] ∧ (RT.rs (RT.int .i64)).val M a0 (.slice va9x0 vn9x0 vc9x0) b9 ([]) ∧ RBox M a0 vg9 41 [(.slice va9x0 vn9x0 vc9x0)] ∧ RBox M a0 vg10 119 [(.func (.func 113) #[] #[(.pointer (some ⟨vg0, 0, none⟩)), (.pointer (some ⟨vg1, 0, none⟩)), (.pointer (some ⟨vg7, 0, none⟩)), (.pointer (some ⟨vg9, 0, none⟩)), (.pointer (some ⟨vg10, 0, none⟩))])] ∧ (RT.os 3 (RT.int .i64)).val M a0 (.slice a8 a9 b1) s64.1 c5 ∧ (RT.os 3 (RT.int .i64)).val M a0 (.slice c2 c3 c4) s64.2.2.1 b7) (J := fun s64 a a0 => ∃ (σ : Nat → Value) (c8 : Option Addr) (c9 : Nat) (d0 : Nat) (d1 : List Nat) (d2 : Option Addr) (d3 : Nat) (d4 : Nat) (d5 : List Nat), a = fr 52 (ovl σ []) ∧ Chg ([vg0] ++ (vf0x0 ++ ([vg5] ++ (vf5x1 ++ ([vg6] ++ ([])))))) w a0 ∧ Own (Nw w ([vg0] ++ (vf0x0 ++ ([vg5] ++ (vf5x1 ++ ([vg6] ++ ([]))))))) M a0 (d1 ++ (d5 ++ (([vg0]) ++ (([vg5]) ++ (([vg6]) ++ []))))) ∧ BoxV a0 vg0 41 [(.slice c8 c9 d0)] ∧ RBox M a0 vg1 81 [(.func (.func 127) #[] #[(.pointer (some ⟨vg2, 0, none⟩)), (.pointer (some ⟨vg4, 0, none⟩)), (.pointer (some ⟨vg5, 0, none⟩)), (.pointer (some ⟨vg6, 0, none⟩))])] ∧ RBox M a0 vg2 81 [(.func (.func 98) #[] #[(.pointer (some ⟨vg3, 0, none⟩))])] ∧ RBox M a0 vg3 3 [(.int .i64 b3)] ∧ RBox M a0 vg4 3 [(.int .i64 b4)] ∧ BoxV a0 vg5 111 [(.int .i64 s64.2.1), (.slice d2 d3 d4)] ∧ BoxV a0 vg6 4 [(.bool s64.2.2.2)] ∧ RBox M a0 vg7 91 [(.pointer (some ⟨vg8, 0, none⟩))] ∧ (RT.rs (RT.rs (RT.pr (RT.rs (RT.int .i64)) (RT.mr Value.bool)))).val M a0 (.slice va8x2 vn8x2 vc8x2) b8.2.2 ([]) ∧ RBox M a0 vg8 129 [(.int .i64 b8.1), (.int .i64 b8.2.1), (.slice va8x2 vn8x2 vc8x2)] ∧ (RT.rs (RT.int .i64)).val M a0 (.slice va9x0 vn9x0 vc9x0) b9 ([]) ∧ RBox M a0 vg9 41 [(.slice va9x0 vn9x0 vc9x0)] ∧ RBox M a0 vg10 119 [(.func (.func 113) #[] #[(.pointer (some ⟨vg0, 0, none⟩)), (.pointer (some ⟨vg1, 0, none⟩)), (.pointer (some ⟨vg7, 0, none⟩)), (.pointer (some ⟨vg9, 0, none⟩)), (.pointer (some ⟨vg10, 0, none⟩))])] ∧ (RT.os 3 (RT.int .i64)).val M a0 (.slice c8 c9 d0) s64.1 d1 ∧ (RT.os 3 (RT.int .i64)).val M a0 (.slice d2 d3 d4) s64.2.2.1 d5) (K := (k_impl_polySearch__each_1__firstPoly_1_IsCore_1 M w vg0 vg1 vg2 vg3 vg4 vg5 vg6 vg7 vg8 vg9 vg10 va0x0 vn0x0 vc0x0 vf0x0 va5x1 vn5x1 vc5x1 vf5x1 va8x2 vn8x2 vc8x2 va9x0 vn9x0 vc9x0 at_ b0 b3 b4 b5 b6 b8 b9)) ?_ ?_ 0 (b0, b5.1, b5.2, b6) o68 _ _ ?_ h1 ?_
 ·rintro k66 s64 a a0 ⟨σ, a8, a9, b1, c5, c2, c3, c4, b7, rfl, hC, hO, hb0, hb1, hb2, hb3, hb4, hb5, hb6, hb7, hl8x2, hb8, hl9x0, hb9, hb10, c1, c0⟩ hlt
  refine c_seq ?_
  refine c_sr ?_
  refine pl_val (.int .i64 k66) (y_move rfl) ?_
  refine pl_val (.pointer (some ⟨vg8, 0, none⟩)) (y_load rfl ((box_load Ag91 Sz91 hb7.1 [] [(.pointer (some ⟨vg8, 0, none⟩))] [] rfl rfl (fun _ => rfl)) _ (Chg.refl _ _))) ?_
  refine pl_val (.pointer (some ⟨vg8, 0, none⟩)) (y_nilc rfl) ?_
  refine pl_val (.pointer (some ⟨vg8, 0, none⟩)) (y_faddr rfl Fa129x0) ?_
  refine pl_val (.int .i64 b8.1) (y_load rfl ((box_load Ag3 Sz3 hb8.1 [] [(.int .i64 b8.1)] [(.int .i64 b8.2.1), (.slice va8x2 vn8x2 vc8x2)] rfl rfl (fun _ => rfl)) _ (Chg.refl _ _))) ?_
  refine pl_val (.bool (decide (k66 < b8.1))) (y_lss rfl rfl) ?_
  refine c_nil ?_
  refine c_condF (congrArg Value.bool (decide_eq_false hlt)) ?_
  refine wp_exit ?_
  have hO := hO.fr4
  have hO := hO.fr4
  have hO := hO.fr4
  have hO := hO.fr4
  have hO := hO.fr4
  exact ⟨rfl, _, a8, a9, b1, c5, c2, c3, c4, b7, fr_ovl 52 trivial, hC, hO, hb0, hb1, hb2, hb3, hb4, hb5, hb6, hb7, hl8x2, hb8, hl9x0, hb9, hb10, c1, c0⟩
 ·rintro k66 s64 o68 a a0 ⟨σ, a8, a9, b1, c5, c2, c3, c4, b7, rfl, hC, hO, hb0, hb1, hb2, hb3, hb4, hb5, hb6, hb7, hl8x2, hb8, hl9x0, hb9, hb10, c1, c0⟩ hlt hw hs
  refine c_seq ?_
  refine c_sr ?_
  refine pl_val (.int .i64 k66) (y_move rfl) ?_
  refine pl_val (.pointer (some ⟨vg8, 0, none⟩)) (y_load rfl ((box_load Ag91 Sz91 hb7.1 [] [(.pointer (some ⟨vg8, 0, none⟩))] [] rfl rfl (fun _ => rfl)) _ (Chg.refl _ _))) ?_
  refine pl_val (.pointer (some ⟨vg8, 0, none⟩)) (y_nilc rfl) ?_
  refine pl_val (.pointer (some ⟨vg8, 0, none⟩)) (y_faddr rfl Fa129x0) ?_
  refine pl_val (.int .i64 b8.1) (y_load rfl ((box_load Ag3 Sz3 hb8.1 [] [(.int .i64 b8.1)] [(.int .i64 b8.2.1), (.slice va8x2 vn8x2 vc8x2)] rfl rfl (fun _ => rfl)) _ (Chg.refl _ _))) ?_
  refine pl_val (.bool (decide (k66 < b8.1))) (y_lss rfl rfl) ?_
  refine c_nil ?_
  refine c_condT (congrArg Value.bool (decide_eq_true hlt)) ?_
  refine wp_skip ?_
  refine c_seq ?_
  refine wp_block ?_
  refine c_seq ?_
  refine c_seq ?_
  obtain ⟨s78, h2, hs⟩ := bind_some hs
  refine c_mid (I := fun a g1 => ∃ (σ : Nat → Value), a = fr 52 (ovl σ [(0, (.int .i64 at_)), (1, (.pointer (some ⟨vg0, 0, none⟩))), (3, (.pointer (some ⟨vg7, 0, none⟩))), (4, (.pointer (some ⟨vg9, 0, none⟩))), (5, (.pointer (some ⟨vg10, 0, none⟩))), (8, (.int .i64 k66)), (36, (.bool s78))]) ∧ Chg [] a0 g1) ?_ ?_
  ·replace hs := h2
   have hMid := Chg.refl [] a0
   refine c_region ?_
   refine pl_val (.slice va9x0 vn9x0 vc9x0) (y_load rfl ((box_load Ag41 Sz41 hb9.1 [] [(.slice va9x0 vn9x0 vc9x0)] [] rfl rfl (fun _ => rfl)) _ (Chg.refl _ _))) ?_
   refine pl_val (.int .i64 at_) (y_move rfl) ?_
   obtain ⟨x81, h3, hs⟩ := bind_some hs
   obtain ⟨h4, h5, h6, h7⟩ := rs_idx Sl41 Sz3 hl9x0 h3
   refine pl_val (.pointer (some ⟨h4, h5, none⟩)) (h6 _ _ _ _ _ _ _ _ _ rfl rfl) ?_
   refine pl_val (.int .i64 x81) (y_load rfl ((at_load_int Ag3 Sz3 h7) _ (Chg.refl _ _))) ?_
   refine pl_val (.bool (decide (0 ≤ x81))) (y_geq rfl rfl) ?_
   refine pl_val (.bool (decide (0 ≤ x81))) (y_move rfl) ?_
   rcases bif_some hs with ⟨a4, hs⟩ | ⟨a4, hs⟩
   ·skip
    refine pl_yes (.slice va9x0 vn9x0 vc9x0) (tg := 29) (by kernel_rfl) (congrArg Value.bool a4) (y_load rfl ((box_load Ag41 Sz41 hb9.1 [] [(.slice va9x0 vn9x0 vc9x0)] [] rfl rfl (fun _ => rfl)) _ (Chg.refl _ _))) ?_
    refine pl_yes (.int .i64 at_) (tg := 29) (by kernel_rfl) (congrArg Value.bool a4) (y_move rfl) ?_
    obtain ⟨x84, h8, hs⟩ := bind_some hs
    obtain ⟨h9, i0, i1, i2⟩ := rs_idx Sl41 Sz3 hl9x0 h8
    refine pl_yes (.pointer (some ⟨h9, i0, none⟩)) (tg := 29) (by kernel_rfl) (congrArg Value.bool a4) (i1 _ _ _ _ _ _ _ _ _ rfl rfl) ?_
    refine pl_yes (.int .i64 x84) (tg := 29) (by kernel_rfl) (congrArg Value.bool a4) (y_load rfl ((at_load_int Ag3 Sz3 i2) _ (Chg.refl _ _))) ?_
    refine pl_yes (.int .i64 k66) (tg := 29) (by kernel_rfl) (congrArg Value.bool a4) (y_move rfl) ?_
    refine pl_yes (.bool (x84 != k66)) (tg := 29) (by kernel_rfl) (congrArg Value.bool a4) (y_neq rfl rfl) ?_
    refine pl_val (.bool (x84 != k66)) (y_pick_t (congrArg Value.bool a4) rfl) ?_
    refine c_nil ?_
    cases hs
    exact ⟨_, fr_ovl 52 ⟨rfl, rfl, rfl, rfl, rfl, rfl, rfl, trivial⟩, hMid⟩
   refine pl_not (tg := 29) (by kernel_rfl) (congrArg Value.bool a4) ?_
   refine pl_not (tg := 29) (by kernel_rfl) (congrArg Value.bool a4) ?_
   refine pl_not (tg := 29) (by kernel_rfl) (congrArg Value.bool a4) ?_
   refine pl_not (tg := 29) (by kernel_rfl) (congrArg Value.bool a4) ?_
   refine pl_not (tg := 29) (by kernel_rfl) (congrArg Value.bool a4) ?_
   refine pl_not (tg := 29) (by kernel_rfl) (congrArg Value.bool a4) ?_
   refine pl_val (.bool false) (y_pick_f (congrArg Value.bool a4) rfl) ?_
   refine c_nil ?_
   cases hs
   exact ⟨_, fr_ovl 52 ⟨rfl, rfl, rfl, rfl, rfl, rfl, rfl, trivial⟩, hMid⟩
  rintro g2 g1 ⟨σ, rfl, a1⟩
  have hb0 := hb0.cn a1
  have hb1 := hb1.ext a1
  have hb2 := hb2.ext a1
  have hb3 := hb3.ext a1
  have hb4 := hb4.ext a1
  have hb5 := hb5.cn a1
  have hb6 := hb6.cn a1
  have hb7 := hb7.ext a1
  have hl8x2 := hl8x2.ext a1
  have hb8 := hb8.ext a1
  have hl9x0 := hl9x0.ext a1
  have hb9 := hb9.ext a1
  have hb10 := hb10.ext a1
  have c1 := c1.ext a1
  have c0 := c0.ext a1
  have hC := hC.ext a1
  have hO := hO.ext a1
  rcases bif_some hs with ⟨e4, hs⟩ | ⟨e4, hs⟩
  ·refine c_condT (congrArg Value.bool e4) ?_
   refine wp_exit ?_
   refine c_region ?_
   refine pl_val (.int .i64 k66) (y_move rfl) ?_
   refine pl_val (.int .i64 (w64 (k66 + 1))) (y_add rfl rfl) ?_
   refine pl_val (.int .i64 (w64 (k66 + 1))) (y_assign rfl) ?_
   refine c_nil ?_
   cases hs
   have hO := hO.fr4
   have hO := hO.fr4
   have hO := hO.fr4
   have hO := hO.fr4
   have hO := hO.fr4
   exact ⟨_, a8, a9, b1, c5, c2, c3, c4, b7, fr_ovl 52 ⟨rfl, rfl, rfl, rfl, rfl, congrArg (Value.int .i64) hw, trivial⟩, hC, hO, hb0, hb1, hb2, hb3, hb4, hb5, hb6, hb7, hl8x2, hb8, hl9x0, hb9, hb10, c1, c0⟩
  refine c_condF (congrArg Value.bool e4) ?_
  refine wp_skip ?_
  refine c_sr ?_
  refine pl_val (.slice a8 a9 b1) (y_load rfl ((box_load Ag41 Sz41 hb0 [] [(.slice a8 a9 b1)] [] rfl rfl (fun _ => rfl)) _ (Chg.refl _ _))) ?_
  refine pl_val (.int .i64 at_) (y_move rfl) ?_
  refine pl_val (.int .i64 k66) (y_move rfl) ?_
  obtain ⟨x87, i3, hs⟩ := bind_some hs
  obtain ⟨g3, j6, g4, i4, i5, j7, j8⟩ := os_idx Sl41 Sz3 c1 i3
  refine pl_val (.pointer (some ⟨g3, 0 + Int.toNat at_ * 1, none⟩)) (i5 _ _ _ _ _ _ _ _ _ rfl rfl) ?_
  obtain ⟨i6, c6, i7, a3, i9, c7⟩ := os_store (P := Try.prog) (c' := [(.int .i64 k66)]) g4 c1 i4 (fun g hg => hO.inM g (os_block c1 g (by simpa using hg))) ⟨rfl, rfl⟩ List.nodup_nil (fun _ h => nomatch h) (fun _ h => .inl h)
  have a5 : ∀ q ∈ [g3], q ∈ c5 := fun q hq => os_block c1 q (by rw [g4]; exact hq)
  refine pl_skip (w' := i6) (ys_store rfl rfl (i7 _ _ rfl Sz3)) ?_
  have hb0 := hb0.ap a3 hO a5 (mem_r (mem_l (List.mem_singleton.2 rfl)))
  have hb1 := hb1.mut a3 (fun q hq => hO.inM q (a5 q hq))
  have hb2 := hb2.mut a3 (fun q hq => hO.inM q (a5 q hq))
  have hb3 := hb3.mut a3 (fun q hq => hO.inM q (a5 q hq))
  have hb4 := hb4.mut a3 (fun q hq => hO.inM q (a5 q hq))
  have hb5 := hb5.ap a3 hO a5 (mem_r (mem_r (mem_l (List.mem_singleton.2 rfl))))
  have hb6 := hb6.ap a3 hO a5 (mem_r (mem_r (mem_r (mem_l (List.mem_singleton.2 rfl)))))
  have hb7 := hb7.mut a3 (fun q hq => hO.inM q (a5 q hq))
  have hl8x2 := hl8x2.mt a3 hO a5
  have hb8 := hb8.mut a3 (fun q hq => hO.inM q (a5 q hq))
  have hl9x0 := hl9x0.mt a3 hO a5
  have hb9 := hb9.mut a3 (fun q hq => hO.inM q (a5 q hq))
  have hb10 := hb10.mut a3 (fun q hq => hO.inM q (a5 q hq))
  have c0 := c0.ma a3 hO a5 (fun _ e => (mem_l (e)))
  have hC := hC.st a3 hO a5
  have hO := hO.grow a3 (fun q hq => .inl ((i9 q hq).resolve_right (fun h => nomatch h))) (os_nodup c7) c7.fpl
  refine c_nil ?_
  refine c_sr ?_
  refine pl_val (.pointer (some ⟨vg8, 0, none⟩)) (y_load rfl ((box_load Ag91 Sz91 hb7.1 [] [(.pointer (some ⟨vg8, 0, none⟩))] [] rfl rfl (fun _ => rfl)) _ (Chg.refl _ _))) ?_
  refine pl_val (.slice a8 a9 b1) (y_load rfl ((box_load Ag41 Sz41 hb0 [] [(.slice a8 a9 b1)] [] rfl rfl (fun _ => rfl)) _ (Chg.refl _ _))) ?_
  refine pl_val (.int .i64 at_) (y_move rfl) ?_
  obtain ⟨r91, j0, hs⟩ := bind_some hs
  refine pl_call Bd114 rfl (c_impl_polySearch__fits (M := (Less M c6)) (List.set s64.1 (Int.toNat at_) k66) at_ (b8.1, b8.2.1, b8.2.2) (((Frz.os Frz.int)).val c7 Less.sub Less.not) (show RBox (Less M c6) _ vg8 129 [(.int .i64 b8.1), (.int .i64 b8.2.1), (.slice va8x2 vn8x2 vc8x2)] from (hb8.sub Less.sub)) (hl8x2.sub Less.sub) hO.less.fut j0) ?_
  rintro _ j9 ⟨rfl, a2⟩
  have hO := hO.perm (R := [] ++ (c6 ++ (b7 ++ (([vg0]) ++ (([vg5]) ++ (([vg6]) ++ ([]))))))) (by simp)
  have hb0 := hb0.cn a2
  have hb1 := hb1.ext a2
  have hb2 := hb2.ext a2
  have hb3 := hb3.ext a2
  have hb4 := hb4.ext a2
  have hb5 := hb5.cn a2
  have hb6 := hb6.cn a2
  have hb7 := hb7.ext a2
  have hl8x2 := hl8x2.ext a2
  have hb8 := hb8.ext a2
  have hl9x0 := hl9x0.ext a2
  have hb9 := hb9.ext a2
  have hb10 := hb10.ext a2
  have c7 := c7.ext a2
  have c0 := c0.ext a2
  have hC := hC.ext a2
  have hO := hO.ext a2
  have hO := hO.perm (R := c6 ++ (b7 ++ (([vg0]) ++ (([vg5]) ++ (([vg6]) ++ ([])))))) (by simp)
  refine pl_val (.bool r91) (y_move rfl) ?_
  rcases bif_some hs with ⟨a7, hs⟩ | ⟨a7, hs⟩
  ·skip
   refine pl_yes (.func (.func 113) #[] #[(.pointer (some ⟨vg0, 0, none⟩)), (.pointer (some ⟨vg1, 0, none⟩)), (.pointer (some ⟨vg7, 0, none⟩)), (.pointer (some ⟨vg9, 0, none⟩)), (.pointer (some ⟨vg10, 0, none⟩))]) (tg := 45) (by kernel_rfl) (congrArg Value.bool a7) (y_load rfl ((box_load Ag119 Sz119 hb10.1 [] [(.func (.func 113) #[] #[(.pointer (some ⟨vg0, 0, none⟩)), (.pointer (some ⟨vg1, 0, none⟩)), (.pointer (some ⟨vg7, 0, none⟩)), (.pointer (some ⟨vg9, 0, none⟩)), (.pointer (some ⟨vg10, 0, none⟩))])] [] rfl rfl (fun _ => rfl)) _ (Chg.refl _ _))) ?_
   refine pl_yes (.int .i64 at_) (tg := 45) (by kernel_rfl) (congrArg Value.bool a7) (y_move rfl) ?_
   refine pl_yes (.int .i64 (w64 (at_ + 1))) (tg := 45) (by kernel_rfl) (congrArg Value.bool a7) (y_add rfl rfl) ?_
   have hO := hO.fr4
   have hO := hO.fr2
   have hO := hO.fr4
   have hO := hO.fr3
   have hO := hO.fr4
   have j1 := hO
   have g5 := Own.lend (F := (([vg0]) ++ (c6 ++ (([vg5]) ++ (b7 ++ (([vg6]) ++ ([]))))))) (R := []) (Own.perm (j1) (by simp))
   obtain ⟨r94, j2, hs⟩ := bind_some hs
   refine pl_callby (tg := 45) (by kernel_rfl) (congrArg Value.bool a7) rfl Bd113 rfl (c_ih (M := M) (w64 (at_ + 1)) (List.set s64.1 (Int.toNat at_) k66) b3 b4 (s64.2.1, s64.2.2.1) s64.2.2.2 (b8.1, b8.2.1, b8.2.2) b9 (show BoxV _ vg0 41 [(.slice a8 a9 b1)] from hb0) c7 (show RBox M _ vg1 81 [(.func (.func 127) #[] #[(.pointer (some ⟨vg2, 0, none⟩)), (.pointer (some ⟨vg4, 0, none⟩)), (.pointer (some ⟨vg5, 0, none⟩)), (.pointer (some ⟨vg6, 0, none⟩))])] from hb1) (show RBox M _ vg2 81 [(.func (.func 98) #[] #[(.pointer (some ⟨vg3, 0, none⟩))])] from hb2) (show RBox M _ vg3 3 [(.int .i64 b3)] from hb3) (show RBox M _ vg4 3 [(.int .i64 b4)] from hb4) (show BoxV _ vg5 111 [(.int .i64 s64.2.1), (.slice c2 c3 c4)] from hb5) c0 (show BoxV _ vg6 4 [(.bool s64.2.2.2)] from hb6) (show RBox M _ vg7 91 [(.pointer (some ⟨vg8, 0, none⟩))] from hb7) (show RBox M _ vg8 129 [(.int .i64 b8.1), (.int .i64 b8.2.1), (.slice va8x2 vn8x2 vc8x2)] from hb8) hl8x2 (show RBox M _ vg9 41 [(.slice va9x0 vn9x0 vc9x0)] from hb9) hl9x0 (show RBox M _ vg10 119 [(.func (.func 113) #[] #[(.pointer (some ⟨vg0, 0, none⟩)), (.pointer (some ⟨vg1, 0, none⟩)), (.pointer (some ⟨vg7, 0, none⟩)), (.pointer (some ⟨vg9, 0, none⟩)), (.pointer (some ⟨vg10, 0, none⟩))])] from hb10) g5 g5.fut j2) ?_
   rintro _ e5 ⟨e6, e7, e8, e9, f0, f1, f2, f3, rfl, b2, d6, g6, d7, g7, d8, j3⟩
   have hO := hO.fr4
   have hO := hO.fr4
   have hO := hO.fr4
   have hO := hO.fr4
   have hO := hO.fr4
   have hO := hO.perm (R := (([vg0]) ++ (c6 ++ (([vg5]) ++ (b7 ++ (([vg6]) ++ ([])))))) ++ ([])) (by simp)
   have hb1 := hb1.mut b2 (fun q hq => hO.inM q ((fun _ h => h) q hq))
   have hb2 := hb2.mut b2 (fun q hq => hO.inM q ((fun _ h => h) q hq))
   have hb3 := hb3.mut b2 (fun q hq => hO.inM q ((fun _ h => h) q hq))
   have hb4 := hb4.mut b2 (fun q hq => hO.inM q ((fun _ h => h) q hq))
   have hb7 := hb7.mut b2 (fun q hq => hO.inM q ((fun _ h => h) q hq))
   have hl8x2 := hl8x2.mt b2 hO same_
   have hb8 := hb8.mut b2 (fun q hq => hO.inM q ((fun _ h => h) q hq))
   have hl9x0 := hl9x0.mt b2 hO same_
   have hb9 := hb9.mut b2 (fun q hq => hO.inM q ((fun _ h => h) q hq))
   have hb10 := hb10.mut b2 (fun q hq => hO.inM q ((fun _ h => h) q hq))
   have hC := hC.st b2 hO same_
   have hO := Own.join hO b2 j3
   have hO := hO.perm (R := [vg0] ++ (e9 ++ ([vg5] ++ (f3 ++ ([vg6] ++ ([])))))) (by simp)
   have d6 : BoxV e5 vg0 41 [(.slice e6 e7 e8)] := d6
   have d7 : BoxV e5 vg5 111 [(.int .i64 r94.2.2.1), (.slice f0 f1 f2)] := d7
   have d8 : BoxV e5 vg6 4 [(.bool r94.2.2.2.2)] := d8
   refine pl_yes (.bool (!r94.1)) (tg := 45) (by kernel_rfl) (congrArg Value.bool a7) (y_not rfl) ?_
   refine pl_val (.bool (!r94.1)) (y_pick_t (congrArg Value.bool a7) rfl) ?_
   refine c_nil ?_
   rcases bif_some hs with ⟨f4, hs⟩ | ⟨f4, hs⟩
   ·refine c_condT (congrArg Value.bool f4) ?_
    refine c_sr ?_
    refine pl_val (.bool false) (y_assign rfl) ?_
    refine c_nil ?_
    refine wp_ret ?_
    cases hs
    have hO := hO.fr4
    have hO := hO.fr4
    have hO := hO.fr4
    have hO := hO.fr4
    have hO := hO.fr4
    exact ⟨_, e6, e7, e8, e9, f0, f1, f2, f3, fr_ovl 52 ⟨rfl, trivial⟩, hC, d6, g6, d7, g7, d8, hO.top⟩
   refine c_condF (congrArg Value.bool f4) ?_
   refine wp_skip ?_
   refine c_region ?_
   refine pl_val (.int .i64 k66) (y_move rfl) ?_
   refine pl_val (.int .i64 (w64 (k66 + 1))) (y_add rfl rfl) ?_
   refine pl_val (.int .i64 (w64 (k66 + 1))) (y_assign rfl) ?_
   refine c_nil ?_
   cases hs
   have hO := hO.fr4
   have hO := hO.fr3
   have hO := hO.fr2
   have hO := hO.fr4
   have hO := hO.fr4
   exact ⟨_, e6, e7, e8, e9, f0, f1, f2, f3, fr_ovl 52 ⟨rfl, rfl, rfl, rfl, rfl, congrArg (Value.int .i64) hw, trivial⟩, hC, hO, d6, hb1, hb2, hb3, hb4, d7, d8, hb7, hl8x2, hb8, hl9x0, hb9, hb10, g6, g7⟩
  refine pl_not (tg := 45) (by kernel_rfl) (congrArg Value.bool a7) ?_
  refine pl_not (tg := 45) (by kernel_rfl) (congrArg Value.bool a7) ?_
  refine pl_not (tg := 45) (by kernel_rfl) (congrArg Value.bool a7) ?_
  refine pl_not (tg := 45) (by kernel_rfl) (congrArg Value.bool a7) ?_
  refine pl_not (tg := 45) (by kernel_rfl) (congrArg Value.bool a7) ?_
  refine pl_val (.bool false) (y_pick_f (congrArg Value.bool a7) rfl) ?_
  refine c_nil ?_
  refine c_condF (by rfl) ?_
  refine wp_skip ?_
  refine c_region ?_
  refine pl_val (.int .i64 k66) (y_move rfl) ?_
  refine pl_val (.int .i64 (w64 (k66 + 1))) (y_add rfl rfl) ?_
  refine pl_val (.int .i64 (w64 (k66 + 1))) (y_assign rfl) ?_
  refine c_nil ?_
  cases hs
  have hO := hO.fr4
  have hO := hO.fr4
  have hO := hO.fr4
  have hO := hO.fr4
  have hO := hO.fr4
  exact ⟨_, a8, a9, b1, c6, c2, c3, c4, b7, fr_ovl 52 ⟨rfl, rfl, rfl, rfl, rfl, congrArg (Value.int .i64) hw, trivial⟩, hC, hO, hb0, hb1, hb2, hb3, hb4, hb5, hb6, hb7, hl8x2, hb8, hl9x0, hb9, hb10, c7, c0⟩
 ·skip
  have hO := hO.fr4
  have hO := hO.fr3
  have hO := hO.fr2
  have hO := hO.fr4
  have hO := hO.fr4
  exact ⟨_, va0x0, vn0x0, vc0x0, vf0x0, va5x1, vn5x1, vc5x1, vf5x1, fr_ovl 52 ⟨rfl, rfl, rfl, rfl, rfl, rfl, trivial⟩, hC, hO, hb0, hb1, hb2, hb3, hb4, hb5, hb6, hb7, hl8x2, hb8, hl9x0, hb9, hb10, hl0x0, hl5x1⟩
 cases o68 with
 | nx _ => exact True.intro
 | rt r_ =>
  have hs := after_rt hs
  intro g2 g8 hK
  cases hs
  exact hK
 | br s64 =>
  have hs := after_br hs
  rintro g2 a0 ⟨σ, c8, c9, d0, d1, d2, d3, d4, d5, rfl, hC, hO, hb0, hb1, hb2, hb3, hb4, hb5, hb6, hb7, hl8x2, hb8, hl9x0, hb9, hb10, j4, j5⟩
  refine c_sr ?_
  refine pl_val (.bool true) (y_assign rfl) ?_
  refine c_nil ?_
  refine wp_ret ?_
  cases hs
  have hO := hO.fr4
  have hO := hO.fr2
  have hO := hO.fr4
  have hO := hO.fr3
  have hO := hO.fr4
  exact ⟨_, c8, c9, d0, d1, d2, d3, d4, d5, fr_ovl 52 ⟨rfl, trivial⟩, hC, hb0, j4, hb5, j5, hb6, hO.top⟩

def k_impl_polySearch__each__firstPoly_1_IsCore_1 (M : Nat → Prop) (w0 : World) (vg0 : Nat) (vg1 : Nat) (vg2 : Nat) (vg3 : Nat) (vg4 : Nat) (vg5 : Nat) (pa0 : Option Addr) (pn0 pc0 : Nat) (va0x2 : Option Addr) (vn0x2 vc0x2 : Nat) (va4x1 : Option Addr) (vn4x1 vc4x1 : Nat) (vf4x1 : List Nat) (given : List Int) (b0 : Int × Int × (List (List ((List Int) × (List (ByteArray × Bool)))))) (b2 : Int) (b3 : Int) (b4 : Int × (List Int)) (b5 : Bool) (r : Int × (List Int) × Bool) (a : Act) (w : World) : Prop :=
  ∃ (σ : Nat → Value) (oa4x1 : Option Addr) (on4x1 : Nat) (oc4x1 : Nat) (of4x1 : List Nat), a = fr 14 (ovl σ []) ∧ Chg ([vg4] ++ (vf4x1 ++ ([vg5] ++ ([])))) w0 w ∧ BoxV w vg4 111 [(.int .i64 r.1), (.slice oa4x1 on4x1 oc4x1)] ∧ (RT.os 3 (RT.int .i64)).val M w (.slice oa4x1 on4x1 oc4x1) r.2.1 of4x1 ∧ BoxV w vg5 4 [(.bool r.2.2)] ∧ Own (Nw w0 ([vg4] ++ (vf4x1 ++ ([vg5] ++ ([]))))) (fun _ => True) w ([vg4] ++ (of4x1 ++ ([vg5] ++ ([]))))
def s_impl_polySearch__each__firstPoly_1_IsCore_1 (given : List Int) (b0 : Int × Int × (List (List ((List Int) × (List (ByteArray × Bool)))))) (b2 : Int) (b3 : Int) (b4 : Int × (List Int)) (b5 : Bool) : Option (Int × (List Int) × Bool) :=
  (mks (given.length : Int) (0 : Int)).bind fun y14 =>
  (s_impl_polySearch__each_1__firstPoly_1_IsCore_1 FU 0 y14 b2 b3 (b4.1, b4.2) b5 (b0.1, b0.2.1, b0.2.2) given).bind fun r21 =>
  some (r21.2.2.1, r21.2.2.2.1, r21.2.2.2.2)
set_option maxHeartbeats 4000000 in
theorem c_impl_polySearch__each__firstPoly_1_IsCore_1 {M : Nat → Prop} {w : World} {vg0 : Nat} {vg1 : Nat} {vg2 : Nat} {vg3 : Nat} {vg4 : Nat} {vg5 : Nat} {pa0 : Option Addr} {pn0 pc0 : Nat} {va0x2 : Option Addr} {vn0x2 vc0x2 : Nat} {va4x1 : Option Addr} {vn4x1 vc4x1 : Nat} {vf4x1 : List Nat} (given : List Int) (b0 : Int × Int × (List (List ((List Int) × (List (ByteArray × Bool)))))) (b2 : Int) (b3 : Int) (b4 : Int × (List Int)) (b5 : Bool) (h0 : (RT.rs (RT.int .i64)).val M w (.slice pa0 pn0 pc0) given ([])) (hb0 : RBox M w vg0 129 [(.int .i64 b0.1), (.int .i64 b0.2.1), (.slice va0x2 vn0x2 vc0x2)]) (hl0x2 : (RT.rs (RT.rs (RT.pr (RT.rs (RT.int .i64)) (RT.mr Value.bool)))).val M w (.slice va0x2 vn0x2 vc0x2) b0.2.2 ([])) (hb1 : RBox M w vg1 81 [(.func (.func 98) #[] #[(.pointer (some ⟨vg2, 0, none⟩))])]) (hb2 : RBox M w vg2 3 [(.int .i64 b2)]) (hb3 : RBox M w vg3 3 [(.int .i64 b3)]) (hb4 : BoxV w vg4 111 [(.int .i64 b4.1), (.slice va4x1 vn4x1 vc4x1)]) (hl4x1 : (RT.os 3 (RT.int .i64)).val M w (.slice va4x1 vn4x1 vc4x1) b4.2 vf4x1) (hb5 : BoxV w vg5 4 [(.bool b5)]) (hI : Own (Nw w ([vg4] ++ (vf4x1 ++ ([vg5] ++ ([]))))) M w ([vg4] ++ (vf4x1 ++ ([vg5] ++ ([]))))) (hM : ∀ g, w.heap.size ≤ g → M g) {r : Int × (List Int) × Bool} (hs : s_impl_polySearch__each__firstPoly_1_IsCore_1 given b0 b2 b3 b4 b5 = some r) :
    Gives Try.prog 63 [(.pointer (some ⟨vg0, 0, none⟩)), (.slice pa0 pn0 pc0), (.func (.func 127) #[] #[(.pointer (some ⟨vg1, 0, none⟩)), (.pointer (some ⟨vg3, 0, none⟩)), (.pointer (some ⟨vg4, 0, none⟩)), (.pointer (some ⟨vg5, 0, none⟩))])] w (fun v w' => ∃ (oa4x1 : Option Addr) (on4x1 : Nat) (oc4x1 : Nat) (of4x1 : List Nat), v = (.tuple #[]) ∧ Chg ([vg4] ++ (vf4x1 ++ ([vg5] ++ ([])))) w w' ∧ BoxV w' vg4 111 [(.int .i64 r.1), (.slice oa4x1 on4x1 oc4x1)] ∧ (RT.os 3 (RT.int .i64)).val M w' (.slice oa4x1 on4x1 oc4x1) r.2.1 of4x1 ∧ BoxV w' vg5 4 [(.bool r.2.2)] ∧ Own (Nw w ([vg4] ++ (vf4x1 ++ ([vg5] ++ ([]))))) (fun _ => True) w' ([vg4] ++ (of4x1 ++ ([vg5] ++ ([]))))) := by
 refine calls_fr Try.func63 rfl Try.ntmps63 (Nat.le_of_ble_eq_true rfl) ?_
 have hO := hI
 have hC := Chg.refl ([vg4] ++ (vf4x1 ++ ([vg5] ++ ([])))) w
 unfold s_impl_polySearch__each__firstPoly_1_IsCore_1 at hs
 refine wp_mono (Q := KPostN (k_impl_polySearch__each__firstPoly_1_IsCore_1 M w vg0 vg1 vg2 vg3 vg4 vg5 pa0 pn0 pc0 va0x2 vn0x2 vc0x2 va4x1 vn4x1 vc4x1 vf4x1 given b0 b2 b3 b4 b5 r)) ?_ (fun e a h3 h => ?_)
 rotate_left
 ·cases e
  case ret =>
   obtain ⟨σ, oa4x1, on4x1, oc4x1, of4x1, rfl, hrest⟩ := h
   exact ret0x Try.results63  ⟨oa4x1, on4x1, oc4x1, of4x1, rfl, hrest⟩
  case normal =>
   obtain ⟨σ, oa4x1, on4x1, oc4x1, of4x1, rfl, hrest⟩ := h
   exact ret0n Try.results63  ⟨oa4x1, on4x1, oc4x1, of4x1, rfl, hrest⟩
  all_goals exact (h : False).elim
 refine c_sr ?_
 obtain ⟨d4, a1, f4, d5, c1, a4⟩ := new_block w [(.pointer (some ⟨vg0, 0, none⟩))] 91
 refine pl_val (w' := d4) (.pointer (some ⟨a1, 0, none⟩)) (y_box rfl (by rw [f4, d5]; kernel_rfl)) ?_
 have h0 := h0.ext c1
 have hl0x2 := hl0x2.ext c1
 have hb0 := hb0.ext c1
 have hb1 := hb1.ext c1
 have hb2 := hb2.ext c1
 have hb3 := hb3.ext c1
 have hl4x1 := hl4x1.ext c1
 have hb4 := hb4.cn c1
 have hb5 := hb5.cn c1
 have hC := hC.ext c1
 have hO := hO.new1 c1 d5 a4.lt
 obtain ⟨d6, a2, f5, d7, b9, a5⟩ := new_block d4 [(.slice pa0 pn0 pc0)] 41
 refine pl_val (w' := d6) (.pointer (some ⟨a2, 0, none⟩)) (y_box rfl (by rw [f5, d7]; kernel_rfl)) ?_
 have h0 := h0.ext b9
 have hl0x2 := hl0x2.ext b9
 have hb0 := hb0.ext b9
 have hb1 := hb1.ext b9
 have hb2 := hb2.ext b9
 have hb3 := hb3.ext b9
 have hl4x1 := hl4x1.ext b9
 have hb4 := hb4.cn b9
 have hb5 := hb5.cn b9
 have a4 := a4.cn b9
 have hC := hC.ext b9
 have hO := hO.new1 b9 d7 a5.lt
 obtain ⟨d8, a3, f6, d9, b7, b1⟩ := new_block d6 [(.func (.func 127) #[] #[(.pointer (some ⟨vg1, 0, none⟩)), (.pointer (some ⟨vg3, 0, none⟩)), (.pointer (some ⟨vg4, 0, none⟩)), (.pointer (some ⟨vg5, 0, none⟩))])] 81
 refine pl_val (w' := d8) (.pointer (some ⟨a3, 0, none⟩)) (y_box rfl (by rw [f6, d9]; kernel_rfl)) ?_
 have h0 := h0.ext b7
 have hl0x2 := hl0x2.ext b7
 have hb0 := hb0.ext b7
 have hb1 := hb1.ext b7
 have hb2 := hb2.ext b7
 have hb3 := hb3.ext b7
 have hl4x1 := hl4x1.ext b7
 have hb4 := hb4.cn b7
 have hb5 := hb5.cn b7
 have a4 := a4.cn b7
 have a5 := a5.cn b7
 have hC := hC.ext b7
 have hO := hO.new1 b7 d9 b1.lt
 refine c_nil ?_
 refine c_sr ?_
 refine pl_val (.slice pa0 pn0 pc0) (y_load rfl ((box_load Ag41 Sz41 a5 [] [(.slice pa0 pn0 pc0)] [] rfl rfl (fun _ => rfl)) _ (Chg.refl _ _))) ?_
 refine pl_val (.int .i64 (given.length : Int)) (y_len' Sl41 (rs_len h0) rfl) ?_
 obtain ⟨y14, f7, hs⟩ := bind_some hs
 obtain ⟨c6, c7, c8, e0, e1, f8, b6, f9, c2⟩ := mk_os (M := M) (w := d8) (r := (RT.int .i64)) Rw41 f7 (fun _ _ => ⟨rfl, rfl⟩)
 refine pl_val (w' := e0) (.slice c6 c7 c8) (y_make rfl rfl f8) ?_
 have h0 := h0.ext b6
 have hl0x2 := hl0x2.ext b6
 have hb0 := hb0.ext b6
 have hb1 := hb1.ext b6
 have hb2 := hb2.ext b6
 have hb3 := hb3.ext b6
 have hl4x1 := hl4x1.ext b6
 have hb4 := hb4.cn b6
 have hb5 := hb5.cn b6
 have a4 := a4.cn b6
 have a5 := a5.cn b6
 have b1 := b1.cn b6
 have hC := hC.ext b6
 have hO := hO.new b6 f9 (os_nodup c2) c2.fpl
 obtain ⟨g0, b8, g1, e2, a8, e3⟩ := new_block e0 [(.slice none 0 0)] 41
 refine pl_val (w' := g0) (.pointer (some ⟨b8, 0, none⟩)) (y_alloc (by rw [g1, e2]; kernel_rfl)) ?_
 have h0 := h0.ext a8
 have hl0x2 := hl0x2.ext a8
 have hb0 := hb0.ext a8
 have hb1 := hb1.ext a8
 have hb2 := hb2.ext a8
 have hb3 := hb3.ext a8
 have hl4x1 := hl4x1.ext a8
 have hb4 := hb4.cn a8
 have hb5 := hb5.cn a8
 have a4 := a4.cn a8
 have a5 := a5.cn a8
 have b1 := b1.cn a8
 have c2 := c2.ext a8
 have hC := hC.ext a8
 have hO := hO.new1 a8 e2 e3.lt
 obtain ⟨c9, g2, a9, c4⟩ := box_store (P := Try.prog) e3 [] [(.slice none 0 0)] [] [(.slice c6 c7 c8)] rfl rfl (by intro u hu; simp only [List.mem_cons, List.not_mem_nil, or_false] at hu; rcases hu with rfl <;> rfl)
 refine pl_skip (w' := c9) (ys_store rfl rfl (g2 _ _ rfl Sz41)) ?_
 have h0 := h0.mt a9 hO same_
 have hl0x2 := hl0x2.mt a9 hO same_
 have hb0 := hb0.mut a9 (fun q hq => hO.inM q ((fun _ h => h) q hq))
 have hb1 := hb1.mut a9 (fun q hq => hO.inM q ((fun _ h => h) q hq))
 have hb2 := hb2.mut a9 (fun q hq => hO.inM q ((fun _ h => h) q hq))
 have hb3 := hb3.mut a9 (fun q hq => hO.inM q ((fun _ h => h) q hq))
 have hl4x1 := hl4x1.ma a9 hO same_ (fun _ e => (mem_r (mem_r (mem_r (mem_r (mem_r (mem_l (e))))))))
 have hb4 := hb4.ap a9 hO same_ (mem_r (mem_r (mem_r (mem_r (mem_l (List.mem_singleton.2 rfl))))))
 have hb5 := hb5.ap a9 hO same_ (mem_r (mem_r (mem_r (mem_r (mem_r (mem_r (mem_l (List.mem_singleton.2 rfl))))))))
 have a4 := a4.ap a9 hO same_ (mem_r (mem_r (mem_r (mem_l (List.mem_singleton.2 rfl)))))
 have a5 := a5.ap a9 hO same_ (mem_r (mem_r (mem_l (List.mem_singleton.2 rfl))))
 have b1 := b1.ap a9 hO same_ (mem_r (mem_l (List.mem_singleton.2 rfl)))
 have c2 := c2.ma a9 hO same_ (fun _ e => (mem_l (e)))
 have hC := hC.st a9 hO same_
 have hO := hO.ext a9
 have c4 : BoxV c9 b8 41 [(.slice c6 c7 c8)] := c4
 refine c_nil ?_
 refine c_sr ?_
 obtain ⟨g3, a0, g4, e4, a6, e5⟩ := new_block c9 [.nilFunc] 119
 refine pl_val (w' := g3) (.pointer (some ⟨a0, 0, none⟩)) (y_alloc (by rw [g4, e4]; kernel_rfl)) ?_
 have h0 := h0.ext a6
 have hl0x2 := hl0x2.ext a6
 have hb0 := hb0.ext a6
 have hb1 := hb1.ext a6
 have hb2 := hb2.ext a6
 have hb3 := hb3.ext a6
 have hl4x1 := hl4x1.ext a6
 have hb4 := hb4.cn a6
 have hb5 := hb5.cn a6
 have a4 := a4.cn a6
 have a5 := a5.cn a6
 have b1 := b1.cn a6
 have c2 := c2.ext a6
 have c4 := c4.cn a6
 have hC := hC.ext a6
 have hO := hO.new1 a6 e4 e5.lt
 refine c_nil ?_
 refine c_sr ?_
 refine pl_val (.func (.func 113) #[] #[(.pointer (some ⟨b8, 0, none⟩)), (.pointer (some ⟨a3, 0, none⟩)), (.pointer (some ⟨a1, 0, none⟩)), (.pointer (some ⟨a2, 0, none⟩)), (.pointer (some ⟨a0, 0, none⟩))]) (y_func rfl rfl) ?_
 obtain ⟨e6, g5, a7, c5⟩ := box_store (P := Try.prog) e5 [] [.nilFunc] [] [(.func (.func 113) #[] #[(.pointer (some ⟨b8, 0, none⟩)), (.pointer (some ⟨a3, 0, none⟩)), (.pointer (some ⟨a1, 0, none⟩)), (.pointer (some ⟨a2, 0, none⟩)), (.pointer (some ⟨a0, 0, none⟩))])] rfl rfl (by intro u hu; simp only [List.mem_cons, List.not_mem_nil, or_false] at hu; rcases hu with rfl <;> rfl)
 refine pl_skip (w' := e6) (ys_store rfl rfl (g5 _ _ rfl Sz119)) ?_
 have h0 := h0.mt a7 hO same_
 have hl0x2 := hl0x2.mt a7 hO same_
 have hb0 := hb0.mut a7 (fun q hq => hO.inM q ((fun _ h => h) q hq))
 have hb1 := hb1.mut a7 (fun q hq => hO.inM q ((fun _ h => h) q hq))
 have hb2 := hb2.mut a7 (fun q hq => hO.inM q ((fun _ h => h) q hq))
 have hb3 := hb3.mut a7 (fun q hq => hO.inM q ((fun _ h => h) q hq))
 have hl4x1 := hl4x1.ma a7 hO same_ (fun _ e => (mem_r (mem_r (mem_r (mem_r (mem_r (mem_r (mem_l (e)))))))))
 have hb4 := hb4.ap a7 hO same_ (mem_r (mem_r (mem_r (mem_r (mem_r (mem_l (List.mem_singleton.2 rfl)))))))
 have hb5 := hb5.ap a7 hO same_ (mem_r (mem_r (mem_r (mem_r (mem_r (mem_r (mem_r (mem_l (List.mem_singleton.2 rfl)))))))))
 have a4 := a4.ap a7 hO same_ (mem_r (mem_r (mem_r (mem_r (mem_l (List.mem_singleton.2 rfl))))))
 have a5 := a5.ap a7 hO same_ (mem_r (mem_r (mem_r (mem_l (List.mem_singleton.2 rfl)))))
 have b1 := b1.ap a7 hO same_ (mem_r (mem_r (mem_l (List.mem_singleton.2 rfl))))
 have c2 := c2.ma a7 hO same_ (fun _ e => (mem_r (mem_l (e))))
 have c4 := c4.ap a7 hO same_ (mem_l (List.mem_singleton.2 rfl))
 have hC := hC.st a7 hO same_
 have hO := hO.ext a7
 have c5 : BoxV e6 a0 119 [(.func (.func 113) #[] #[(.pointer (some ⟨b8, 0, none⟩)), (.pointer (some ⟨a3, 0, none⟩)), (.pointer (some ⟨a1, 0, none⟩)), (.pointer (some ⟨a2, 0, none⟩)), (.pointer (some ⟨a0, 0, none⟩))])] := c5
 refine c_nil ?_
 refine c_region ?_
 refine pl_val (.func (.func 113) #[] #[(.pointer (some ⟨b8, 0, none⟩)), (.pointer (some ⟨a3, 0, none⟩)), (.pointer (some ⟨a1, 0, none⟩)), (.pointer (some ⟨a2, 0, none⟩)), (.pointer (some ⟨a0, 0, none⟩))]) (y_load rfl ((box_load Ag119 Sz119 c5 [] [(.func (.func 113) #[] #[(.pointer (some ⟨b8, 0, none⟩)), (.pointer (some ⟨a3, 0, none⟩)), (.pointer (some ⟨a1, 0, none⟩)), (.pointer (some ⟨a2, 0, none⟩)), (.pointer (some ⟨a0, 0, none⟩))])] [] rfl rfl (fun _ => rfl)) _ (Chg.refl _ _))) ?_
 have hO := hO.fr4
 have hO := hO.fr5
 have hO := hO.fr5
 have hO := hO.fr8
 have hO := hO.fr8
 have hO := hO.fr8
 have hO := hO.fr8
 have hO := hO.fr8
 have c3 := hO
 have c3 := c3.fr8
 have c3 := c3.fr8
 have c3 := c3.fr8
 have c3 := c3.fr8
 have e7 := Own.lend (F := (([b8]) ++ (e1 ++ (([vg4]) ++ (vf4x1 ++ (([vg5]) ++ ([]))))))) (R := []) (Own.perm (c3.less.less.less.less) (by simp))
 obtain ⟨r21, g6, hs⟩ := bind_some hs
 refine pl_callb rfl Bd113 rfl (c_impl_polySearch__each_1__firstPoly_1_IsCore_1 FU (M := (Less (Less (Less (Less M ([a3])) ([a1])) ([a2])) ([a0]))) 0 y14 b2 b3 (b4.1, b4.2) b5 (b0.1, b0.2.1, b0.2.2) given (show BoxV _ b8 41 [(.slice c6 c7 c8)] from c4) ((((c2.sub Less.sub).sub Less.sub).sub Less.sub).sub Less.sub) (show RBox (Less (Less (Less (Less M ([a3])) ([a1])) ([a2])) ([a0])) _ a3 81 [(.func (.func 127) #[] #[(.pointer (some ⟨vg1, 0, none⟩)), (.pointer (some ⟨vg3, 0, none⟩)), (.pointer (some ⟨vg4, 0, none⟩)), (.pointer (some ⟨vg5, 0, none⟩))])] from ⟨b1, fun h => by simp [Less] at h⟩) (show RBox (Less (Less (Less (Less M ([a3])) ([a1])) ([a2])) ([a0])) _ vg1 81 [(.func (.func 98) #[] #[(.pointer (some ⟨vg2, 0, none⟩))])] from ((((hb1.sub Less.sub).sub Less.sub).sub Less.sub).sub Less.sub)) (show RBox (Less (Less (Less (Less M ([a3])) ([a1])) ([a2])) ([a0])) _ vg2 3 [(.int .i64 b2)] from ((((hb2.sub Less.sub).sub Less.sub).sub Less.sub).sub Less.sub)) (show RBox (Less (Less (Less (Less M ([a3])) ([a1])) ([a2])) ([a0])) _ vg3 3 [(.int .i64 b3)] from ((((hb3.sub Less.sub).sub Less.sub).sub Less.sub).sub Less.sub)) (show BoxV _ vg4 111 [(.int .i64 b4.1), (.slice va4x1 vn4x1 vc4x1)] from hb4) ((((hl4x1.sub Less.sub).sub Less.sub).sub Less.sub).sub Less.sub) (show BoxV _ vg5 4 [(.bool b5)] from hb5) (show RBox (Less (Less (Less (Less M ([a3])) ([a1])) ([a2])) ([a0])) _ a1 91 [(.pointer (some ⟨vg0, 0, none⟩))] from ⟨a4, fun h => by simp [Less] at h⟩) (show RBox (Less (Less (Less (Less M ([a3])) ([a1])) ([a2])) ([a0])) _ vg0 129 [(.int .i64 b0.1), (.int .i64 b0.2.1), (.slice va0x2 vn0x2 vc0x2)] from ((((hb0.sub Less.sub).sub Less.sub).sub Less.sub).sub Less.sub)) ((((hl0x2.sub Less.sub).sub Less.sub).sub Less.sub).sub Less.sub) (show RBox (Less (Less (Less (Less M ([a3])) ([a1])) ([a2])) ([a0])) _ a2 41 [(.slice pa0 pn0 pc0)] from ⟨a5, fun h => by simp [Less] at h⟩) ((((h0.sub Less.sub).sub Less.sub).sub Less.sub).sub Less.sub) (show RBox (Less (Less (Less (Less M ([a3])) ([a1])) ([a2])) ([a0])) _ a0 119 [(.func (.func 113) #[] #[(.pointer (some ⟨b8, 0, none⟩)), (.pointer (some ⟨a3, 0, none⟩)), (.pointer (some ⟨a1, 0, none⟩)), (.pointer (some ⟨a2, 0, none⟩)), (.pointer (some ⟨a0, 0, none⟩))])] from ⟨c5, fun h => by simp [Less] at h⟩) e7 e7.fut g6) ?_
 rintro _ d0 ⟨g7, g8, g9, h1, e8, e9, f0, f1, rfl, c0, f2, f3, d1, d2, d3, h2⟩
 have hO := hO.fr8
 have hO := hO.fr8
 have hO := hO.fr8
 have hO := hO.fr8
 have hO := hO.fr8
 have hO := hO.fr8
 have hO := hO.fr8
 have hO := hO.fr8
 have hO := hO.fr8
 have hO := hO.perm (R := (([b8]) ++ (e1 ++ (([vg4]) ++ (vf4x1 ++ (([vg5]) ++ ([])))))) ++ (([a3]) ++ (([a1]) ++ (([a2]) ++ (([a0]) ++ ([])))))) (by simp)
 have h0 := h0.mt c0 hO same_
 have hl0x2 := hl0x2.mt c0 hO same_
 have hb0 := hb0.mut c0 (fun q hq => hO.inM q ((fun _ h => h) q hq))
 have hb1 := hb1.mut c0 (fun q hq => hO.inM q ((fun _ h => h) q hq))
 have hb2 := hb2.mut c0 (fun q hq => hO.inM q ((fun _ h => h) q hq))
 have hb3 := hb3.mut c0 (fun q hq => hO.inM q ((fun _ h => h) q hq))
 have a4 := a4.ap c0 hO same_ (mem_r (mem_l (List.mem_singleton.2 rfl)))
 have a5 := a5.ap c0 hO same_ (mem_r (mem_r (mem_l (List.mem_singleton.2 rfl))))
 have b1 := b1.ap c0 hO same_ (mem_l (List.mem_singleton.2 rfl))
 have c5 := c5.ap c0 hO same_ (mem_r (mem_r (mem_r (mem_l (List.mem_singleton.2 rfl)))))
 have hC := hC.st c0 hO same_
 have hO := Own.join hO c0 h2
 have hO := hO.perm (R := [b8] ++ (h1 ++ ([vg4] ++ (f1 ++ ([vg5] ++ (([a3]) ++ (([a1]) ++ (([a2]) ++ (([a0]) ++ ([])))))))))) (by simp)
 have f3 := f3.free (M' := M) (Free.os Free.int)
 have f2 : BoxV d0 b8 41 [(.slice g7 g8 g9)] := f2
 have d2 := d2.free (M' := M) (Free.os Free.int)
 have d1 : BoxV d0 vg4 111 [(.int .i64 r21.2.2.1), (.slice e8 e9 f0)] := d1
 have d3 : BoxV d0 vg5 4 [(.bool r21.2.2.2.2)] := d3
 refine c_nil ?_
 cases hs
 have hO := hO.drop
 have hO := hO.drop
 have hO := hO.fr3
 have hO := hO.drop
 have hO := hO.fr3
 have hO := hO.drop
 have hO := hO.fr3
 have hO := hO.drop
 have hO := hO.fr3
 have hO := hO.drop
 have hO := hO.fr2
 have hO := hO.fr2
 have hO := hO.fr2
 exact ⟨_, e8, e9, f0, f1, fr_ovl 14 trivial, hC, d1, d2, d3, hO.top⟩

theorem Bd63 : Bodied Try.prog 63 := bodied Try.func63 (by kernel_rfl) rfl

def k_impl_firstPoly__IsCore_1 (M : Nat → Prop) (w0 : World) (r : (Int × (List Int)) × Bool) (a : Act) (w : World) : Prop :=
  ∃ (σ : Nat → Value) (rg10 : Nat) (ra0 : Option Addr) (rn0 rc0 : Nat) (rf0 : List Nat), a = fr 24 (ovl σ [(10, (.pointer (some ⟨rg10, 0, none⟩))), (11, (.bool r.2))]) ∧ BoxV w rg10 111 [(.int .i64 r.1.1), (.slice ra0 rn0 rc0)] ∧ Chg [] w0 w ∧ (RT.os 3 (RT.int .i64)).val M w (.slice ra0 rn0 rc0) r.1.2 rf0 ∧ Own (Nw w0 []) (fun _ => True) w (rf0 ++ ([]))
def s_impl_firstPoly__IsCore_1 (n : Int) (rels : List (Int × (List (List Int)))) (k : Int) (given : List Int) (b0 : Int) : Option ((Int × (List Int)) × Bool) :=
  (s_impl_newPolySearch n rels k).bind fun r12 =>
  (r12).bind fun p15 =>
  (s_impl_polySearch__each__firstPoly_1_IsCore_1 given (p15.1, p15.2.1, p15.2.2) b0 k (0, []) false).bind fun r21 =>
  some ((r21.1, r21.2.1), r21.2.2)
set_option maxHeartbeats 4000000 in
theorem c_impl_firstPoly__IsCore_1 {M : Nat → Prop} {w : World} {vg0 : Nat} {pa0 : Option Addr} {pn0 pc0 : Nat} {pa1 : Option Addr} {pn1 pc1 : Nat} (n : Int) (rels : List (Int × (List (List Int)))) (k : Int) (given : List Int) (b0 : Int) (h0 : (RT.rs (RT.pr (RT.int .i64) (RT.rs (RT.rs (RT.int .i64))))).val M w (.slice pa0 pn0 pc0) rels ([])) (h1 : (RT.rs (RT.int .i64)).val M w (.slice pa1 pn1 pc1) given ([])) (hb0 : RBox M w vg0 3 [(.int .i64 b0)]) (hM : ∀ g, w.heap.size ≤ g → M g) {r : (Int × (List Int)) × Bool} (hs : s_impl_firstPoly__IsCore_1 n rels k given b0 = some r) :
    Gives Try.prog 97 [(.int .i64 n), (.slice pa0 pn0 pc0), (.int .i64 k), (.slice pa1 pn1 pc1), (.func (.func 98) #[] #[(.pointer (some ⟨vg0, 0, none⟩))])] w (fun v w' => ∃ (ra0 : Option Addr) (rn0 rc0 : Nat) (rf0 : List Nat), v = (.tuple #[(.agg #[(.int .i64 r.1.1), (.slice ra0 rn0 rc0)]), (.bool r.2)]) ∧ Chg [] w w' ∧ (RT.os 3 (RT.int .i64)).val M w' (.slice ra0 rn0 rc0) r.1.2 rf0 ∧ Own (Nw w []) (fun _ => True) w' (rf0 ++ ([]))) := by
 refine calls_fr Try.func97 rfl Try.ntmps97 (Nat.le_of_ble_eq_true rfl) ?_
 have hO := Own.start (N := Nw w []) hM Nw.fut
 have hC := Chg.refl [] w
 unfold s_impl_firstPoly__IsCore_1 at hs
 refine wp_mono (Q := KPost (k_impl_firstPoly__IsCore_1 M w r)) ?_ (fun e a i7 h => ?_)
 rotate_left
 ·cases e
  case ret =>
   obtain ⟨σ, rg10, ra0, rn0, rc0, rf0, rfl, hbrg10, hrest⟩ := h
   exact ret2x Try.results97 (res_cell rfl (box_load Ag111 Sz111 hbrg10 [] _ [] rfl rfl (fun h => nomatch h))) (res_tmp rfl) ⟨ra0, rn0, rc0, rf0, rfl, hrest⟩
  all_goals exact (h : False).elim
 refine c_sr ?_
 obtain ⟨e3, a4, f9, e4, d5, a0⟩ := new_block w [(.int .i64 k)] 3
 refine pl_val (w' := e3) (.pointer (some ⟨a4, 0, none⟩)) (y_box rfl (by rw [f9, e4]; kernel_rfl)) ?_
 have h0 := h0.ext d5
 have h1 := h1.ext d5
 have hb0 := hb0.ext d5
 have hC := hC.ext d5
 have hO := hO.new1 d5 e4 a0.lt
 obtain ⟨e5, a5, g0, e6, d4, a1⟩ := new_block e3 [(.func (.func 98) #[] #[(.pointer (some ⟨vg0, 0, none⟩))])] 81
 refine pl_val (w' := e5) (.pointer (some ⟨a5, 0, none⟩)) (y_box rfl (by rw [g0, e6]; kernel_rfl)) ?_
 have h0 := h0.ext d4
 have h1 := h1.ext d4
 have hb0 := hb0.ext d4
 have a0 := a0.cn d4
 have hC := hC.ext d4
 have hO := hO.new1 d4 e6 a1.lt
 obtain ⟨e7, a9, g1, e8, d3, a2⟩ := new_block e5 [(.int .i64 0), (.slice none 0 0)] 111
 refine pl_val (w' := e7) (.pointer (some ⟨a9, 0, none⟩)) (y_alloc (by rw [g1, e8]; kernel_rfl)) ?_
 have h0 := h0.ext d3
 have h1 := h1.ext d3
 have hb0 := hb0.ext d3
 have a0 := a0.cn d3
 have a1 := a1.cn d3
 have hC := hC.ext d3
 have hO := hO.new1 d3 e8 a2.lt
 refine pl_val (.bool false) (y_assign rfl) ?_
 refine c_nil ?_
 refine c_sr ?_
 refine pl_val (.agg #[(.int .i64 0), (.slice none 0 0)]) (y_build rfl (by kernel_rfl)) ?_
 obtain ⟨e9, a7, g2, f0, d1, d7⟩ := new_block e7 [(.int .i64 0), (.slice none 0 0)] 111
 refine pl_val (w' := e9) (.pointer (some ⟨a7, 0, none⟩)) (y_alloc (by rw [g2, f0]; kernel_rfl)) ?_
 have h0 := h0.ext d1
 have h1 := h1.ext d1
 have hb0 := hb0.ext d1
 have a0 := a0.cn d1
 have a1 := a1.cn d1
 have a2 := a2.cn d1
 have hC := hC.ext d1
 have hO := hO.new1 d1 f0 d7.lt
 obtain ⟨g3, b1, g4, f1, b9, d8⟩ := new_block e9 [(.bool false)] 4
 refine pl_val (w' := g3) (.pointer (some ⟨b1, 0, none⟩)) (y_alloc (by rw [g4, f1]; kernel_rfl)) ?_
 have h0 := h0.ext b9
 have h1 := h1.ext b9
 have hb0 := hb0.ext b9
 have a0 := a0.cn b9
 have a1 := a1.cn b9
 have a2 := a2.cn b9
 have d7 := d7.cn b9
 have hC := hC.ext b9
 have hO := hO.new1 b9 f1 d8.lt
 obtain ⟨f2, g5, c0, c1⟩ := box_store (P := Try.prog) d7 [] [(.int .i64 0), (.slice none 0 0)] [] [(.int .i64 0), (.slice none 0 0)] rfl rfl (by intro u hu; simp only [List.mem_cons, List.not_mem_nil, or_false] at hu; rcases hu with rfl | rfl <;> rfl)
 refine pl_skip (w' := f2) (ys_store rfl rfl (g5 _ _ rfl Sz111)) ?_
 have hO := hO.fr1
 have h0 := h0.mt c0 hO same_
 have h1 := h1.mt c0 hO same_
 have hb0 := hb0.mut c0 (fun q hq => hO.inM q ((fun _ h => h) q hq))
 have a0 := a0.ap c0 hO same_ (mem_r (mem_r (mem_r (mem_l (List.mem_singleton.2 rfl)))))
 have a1 := a1.ap c0 hO same_ (mem_r (mem_r (mem_l (List.mem_singleton.2 rfl))))
 have a2 := a2.ap c0 hO same_ (mem_r (mem_l (List.mem_singleton.2 rfl)))
 have d8 := d8.ap c0 hO same_ (mem_l (List.mem_singleton.2 rfl))
 have hC := hC.st c0 hO same_
 have hO := hO.ext c0
 have c1 : BoxV f2 a7 111 [(.int .i64 0), (.slice none 0 0)] := c1
 obtain ⟨a6, g6, c2, d6⟩ := box_store (P := Try.prog) d8 [] [(.bool false)] [] [(.bool false)] rfl rfl (by intro u hu; simp only [List.mem_cons, List.not_mem_nil, or_false] at hu; rcases hu with rfl <;> rfl)
 refine pl_skip (w' := a6) (ys_store rfl rfl (g6 _ _ rfl Sz4)) ?_
 have hO := hO.fr1
 have h0 := h0.mt c2 hO same_
 have h1 := h1.mt c2 hO same_
 have hb0 := hb0.mut c2 (fun q hq => hO.inM q ((fun _ h => h) q hq))
 have a0 := a0.ap c2 hO same_ (mem_r (mem_r (mem_r (mem_l (List.mem_singleton.2 rfl)))))
 have a1 := a1.ap c2 hO same_ (mem_r (mem_r (mem_l (List.mem_singleton.2 rfl))))
 have a2 := a2.ap c2 hO same_ (mem_r (mem_l (List.mem_singleton.2 rfl)))
 have c1 := c1.ap c2 hO same_ (mem_l (List.mem_singleton.2 rfl))
 have hC := hC.st c2 hO same_
 have hO := hO.ext c2
 have d6 : BoxV a6 b1 4 [(.bool false)] := d6
 refine c_nil ?_
 refine c_sr ?_
 refine pl_val (.int .i64 n) (y_move rfl) ?_
 refine pl_val (.slice pa0 pn0 pc0) (y_move rfl) ?_
 refine pl_val (.int .i64 k) (y_load rfl ((box_load Ag3 Sz3 a0 [] [(.int .i64 k)] [] rfl rfl (fun _ => rfl)) _ (Chg.refl _ _))) ?_
 obtain ⟨r12, g7, hs⟩ := bind_some hs
 refine pl_call Bd62 rfl (c_impl_newPolySearch (M := M) n rels k h0 hO.fut g7) ?_
 rintro _ a3 ⟨i9, a8, rfl, b4, g8, g9⟩
 have hO := hO.perm (R := [] ++ (([b1]) ++ (([a7]) ++ (([a9]) ++ (([a5]) ++ (([a4]) ++ ([]))))))) (by simp)
 have h2 := Own.pastL hO b4 g9
 have hK := (show Keeps w M (PastL M [] a6 a3 (a8 ++ ([]))) from Keeps.pastL hC.size (fun g hg => (hO.inN g hg).resolve_left (fun h => nomatch h)))
 have h0 := h0.ext b4
 have h1 := h1.ext b4
 have hb0 := hb0.ext b4
 have a0 := a0.cn b4
 have a1 := a1.cn b4
 have a2 := a2.cn b4
 have c1 := c1.cn b4
 have d6 := d6.cn b4
 have hC := hC.ext b4
 have hO := h2
 have h0 := h0.sub (M' := (PastL M [] a6 a3 (a8 ++ ([])))) (fun g hg => .inl hg.1)
 have h1 := h1.sub (M' := (PastL M [] a6 a3 (a8 ++ ([])))) (fun g hg => .inl hg.1)
 have hb0 := hb0.sub (M' := (PastL M [] a6 a3 (a8 ++ ([])))) (fun g hg => .inl hg.1)
 have hO := hO.perm (R := a8 ++ (([b1]) ++ (([a7]) ++ (([a9]) ++ (([a5]) ++ (([a4]) ++ ([]))))))) (by simp)
 refine pl_val (.slice pa1 pn1 pc1) (y_move rfl) ?_
 refine pl_val (.func (.func 127) #[] #[(.pointer (some ⟨a5, 0, none⟩)), (.pointer (some ⟨a4, 0, none⟩)), (.pointer (some ⟨a7, 0, none⟩)), (.pointer (some ⟨b1, 0, none⟩))]) (y_func rfl rfl) ?_
 obtain ⟨p15, h3, hs⟩ := bind_some hs
 obtain ⟨b5, rfl, h4⟩ := op_get g8 h3
 obtain ⟨j0, j1, h5, b2, h6⟩ := po_open h4
 obtain ⟨j2, j3, j4, j5, rfl, rfl, h7, h8⟩ := h6
 obtain ⟨rfl, rfl⟩ := h7
 obtain ⟨j6, j7, j8, d2, rfl, rfl, h9, i0⟩ := h8
 obtain ⟨rfl, rfl⟩ := h9
 obtain ⟨f3, f4, f5, rfl, c3⟩ := os_rel' i0
 have b2 : BoxV a3 b5 129 [(.int .i64 p15.1), (.int .i64 p15.2.1), (.slice f3 f4 f5)] := b2
 have hO := hO.perm (R := ([b5]) ++ (d2 ++ (([b1]) ++ (([a7]) ++ (([a9]) ++ (([a5]) ++ (([a4]) ++ ([])))))))) (by rw [h5]; simp)
 have i1 : (RT.os 3 (RT.int .i64)).val (PastL M [] a6 a3 (a8 ++ ([]))) a3 (.slice none 0 0) [] [] := os_nil
 have hO := hO.nil
 have c1 : BoxV a3 a7 111 [(.int .i64 0), (.slice none 0 0)] := c1
 have hO := hO.fr7
 have hO := hO.fr7
 have hO := hO.fr4
 have hO := hO.fr4
 have hO := hO.fr5
 have hO := hO.fr5
 have hO := hO.fr6
 have c4 := hO
 have c4 := c4.fr6
 have c4 := c4.fr6
 have c4 := c4.fr6
 have c4 := c4.fr6
 have f6 := Own.lend (F := (([a7]) ++ (([]) ++ (([b1]) ++ ([]))))) (R := ([a9]) ++ ([])) (Own.perm (c4.less.less.less.less) (by simp))
 obtain ⟨r21, i2, hs⟩ := bind_some hs
 refine pl_call Bd63 rfl (c_impl_polySearch__each__firstPoly_1_IsCore_1 (M := (Less (Less (Less (Less (PastL M [] a6 a3 (a8 ++ ([]))) ([b5])) d2) ([a5])) ([a4]))) given (p15.1, p15.2.1, p15.2.2) b0 k (0, []) false ((((h1.sub Less.sub).sub Less.sub).sub Less.sub).sub Less.sub) (show RBox (Less (Less (Less (Less (PastL M [] a6 a3 (a8 ++ ([]))) ([b5])) d2) ([a5])) ([a4])) _ b5 129 [(.int .i64 p15.1), (.int .i64 p15.2.1), (.slice f3 f4 f5)] from ⟨b2, fun h => by simp [Less] at h⟩) (((((Frz.os (Frz.os (Frz.pr (Frz.rs Frz.int) Frz.mr)))).val (c3.sub Less.sub) Less.sub Less.not).sub Less.sub).sub Less.sub) (show RBox (Less (Less (Less (Less (PastL M [] a6 a3 (a8 ++ ([]))) ([b5])) d2) ([a5])) ([a4])) _ a5 81 [(.func (.func 98) #[] #[(.pointer (some ⟨vg0, 0, none⟩))])] from ⟨a1, fun h => by simp [Less] at h⟩) (show RBox (Less (Less (Less (Less (PastL M [] a6 a3 (a8 ++ ([]))) ([b5])) d2) ([a5])) ([a4])) _ vg0 3 [(.int .i64 b0)] from ((((hb0.sub Less.sub).sub Less.sub).sub Less.sub).sub Less.sub)) (show RBox (Less (Less (Less (Less (PastL M [] a6 a3 (a8 ++ ([]))) ([b5])) d2) ([a5])) ([a4])) _ a4 3 [(.int .i64 k)] from ⟨a0, fun h => by simp [Less] at h⟩) (show BoxV _ a7 111 [(.int .i64 0), (.slice none 0 0)] from c1) ((((i1.sub Less.sub).sub Less.sub).sub Less.sub).sub Less.sub) (show BoxV _ b1 4 [(.bool false)] from d6) f6 f6.fut i2) ?_
 rintro _ d9 ⟨c5, c6, c7, e0, rfl, b6, c8, b7, b8, i3⟩
 have hO := hO.fr6
 have hO := hO.fr6
 have hO := hO.fr6
 have hO := hO.fr6
 have hO := hO.fr6
 have hO := hO.fr6
 have hO := hO.fr6
 have hO := hO.perm (R := (([a7]) ++ (([]) ++ (([b1]) ++ ([])))) ++ (([b5]) ++ (d2 ++ (([a5]) ++ (([a4]) ++ (([a9]) ++ ([]))))))) (by simp)
 have h0 := h0.mt b6 hO same_
 have h1 := h1.mt b6 hO same_
 have hb0 := hb0.mut b6 (fun q hq => hO.inM q ((fun _ h => h) q hq))
 have a0 := a0.ap b6 hO same_ (mem_r (mem_r (mem_r (mem_l (List.mem_singleton.2 rfl)))))
 have a1 := a1.ap b6 hO same_ (mem_r (mem_r (mem_l (List.mem_singleton.2 rfl))))
 have a2 := a2.ap b6 hO same_ (mem_r (mem_r (mem_r (mem_r (mem_l (List.mem_singleton.2 rfl))))))
 have c3 := c3.ma b6 hO same_ (fun _ e => (mem_r (mem_l (e))))
 have b2 := b2.ap b6 hO same_ (mem_l (List.mem_singleton.2 rfl))
 have hC := hC.st b6 hO same_
 have hO := Own.join hO b6 i3
 have hO := hO.perm (R := [a7] ++ (e0 ++ ([b1] ++ (([b5]) ++ (d2 ++ (([a5]) ++ (([a4]) ++ (([a9]) ++ ([]))))))))) (by simp)
 have b7 := b7.free (M' := (PastL M [] a6 a3 (a8 ++ ([])))) (Free.os Free.int)
 have c8 : BoxV d9 a7 111 [(.int .i64 r21.1), (.slice c5 c6 c7)] := c8
 have b8 : BoxV d9 b1 4 [(.bool r21.2.2)] := b8
 refine c_nil ?_
 refine c_seq ?_
 refine x_start [2] Mx rfl ?_
 have b3 := Chg.drew d9
 generalize World.drew d9 = i4 at b3 ⊢
 have a0 := a0.cn b3
 have a1 := a1.cn b3
 have a2 := a2.cn b3
 have c8 := c8.cn b3
 have b8 := b8.cn b3
 have c3 := c3.ext b3
 have b2 := b2.cn b3
 have b7 := b7.ext b3
 have hC := hC.ext b3
 have hO := hO.ext b3
 have hS := Chg.refl [] i4
 refine x_l 0 (.agg #[(.int .i64 r21.1), (.slice c5 c6 c7)]) rfl (by kernel_rfl)  (fun w' hw' => y_load rfl ((box_load Ag111 Sz111 c8 [] [(.int .i64 r21.1), (.slice c5 c6 c7)] [] rfl rfl (fun h => nomatch h)) w' hw')) hS ?_
 refine x_two (i := 1) (j := 2) (by kernel_rfl) ?_ ?_
 ·skip
  refine xk_val (b := false) (.bool r21.2.2) rfl  (y_load rfl ((box_load Ag4 Sz4 b8 [] [(.bool r21.2.2)] [] rfl rfl (fun _ => rfl)) _ (Chg.refl _ _))) rfl (fun _ => hS) ?_
  refine x_one (i := 2) (by kernel_rfl) ?_
  obtain ⟨f7, i5, c9, e1⟩ := box_store (P := Try.prog) a2 [] [(.int .i64 0), (.slice none 0 0)] [] [(.int .i64 r21.1), (.slice c5 c6 c7)] rfl rfl (by intro u hu; simp only [List.mem_cons, List.not_mem_nil, or_false] at hu; rcases hu with rfl | rfl <;> rfl)
  refine xk_skip (w' := f7) (b := true) rfl (ys_store rfl rfl (i5 _ _ rfl Sz111)) rfl (fun h => nomatch h) ?_
  have hO := hO.fr7
  have a0 := a0.ap c9 hO same_ (mem_r (mem_r (mem_r (mem_r (mem_r (mem_r (mem_l (List.mem_singleton.2 rfl))))))))
  have a1 := a1.ap c9 hO same_ (mem_r (mem_r (mem_r (mem_r (mem_r (mem_l (List.mem_singleton.2 rfl)))))))
  have c8 := c8.ap c9 hO same_ (mem_l (List.mem_singleton.2 rfl))
  have b8 := b8.ap c9 hO same_ (mem_r (mem_r (mem_l (List.mem_singleton.2 rfl))))
  have c3 := c3.ma c9 hO same_ (fun _ e => (mem_r (mem_r (mem_r (mem_r (mem_l (e)))))))
  have b2 := b2.ap c9 hO same_ (mem_r (mem_r (mem_r (mem_l (List.mem_singleton.2 rfl)))))
  have b7 := b7.ma c9 hO same_ (fun _ e => (mem_r (mem_l (e))))
  have hC := hC.st c9 hO same_
  have hO := hO.ext c9
  have e1 : BoxV f7 a9 111 [(.int .i64 r21.1), (.slice c5 c6 c7)] := e1
  refine x_p 3 (.bool r21.2.2) rfl (by kernel_rfl)  (fun _ => y_assign rfl) (fun h => nomatch h) ?_
  refine x_end (by kernel_rfl) ?_
  clear hS
  refine wp_ret ?_
  cases hs
  have hO := hO.drop
  have hO := hO.drop
  have hO := hO.fr1
  have hO := hO.drop
  have hO := hO.fr1
  have hO := hO.drop
  have hO := hO.fr1
  have hO := hO.drop
  have hO := hO.fr1
  have hO := hO.drop
  have hO := hO.fr1
  have hO := hO.drop
  exact ⟨_, a9, c5, c6, c7, e0, fr_ovl 24 ⟨rfl, rfl, trivial⟩, e1, hC, (b7.free (Free.os Free.int)), hO.top⟩
 ·skip
  obtain ⟨f8, i6, d0, e2⟩ := box_store (P := Try.prog) a2 [] [(.int .i64 0), (.slice none 0 0)] [] [(.int .i64 r21.1), (.slice c5 c6 c7)] rfl rfl (by intro u hu; simp only [List.mem_cons, List.not_mem_nil, or_false] at hu; rcases hu with rfl | rfl <;> rfl)
  refine xk_skip (w' := f8) (b := true) rfl (ys_store rfl rfl (i6 _ _ rfl Sz111)) rfl (fun h => nomatch h) ?_
  have hO := hO.fr7
  have a0 := a0.ap d0 hO same_ (mem_r (mem_r (mem_r (mem_r (mem_r (mem_r (mem_l (List.mem_singleton.2 rfl))))))))
  have a1 := a1.ap d0 hO same_ (mem_r (mem_r (mem_r (mem_r (mem_r (mem_l (List.mem_singleton.2 rfl)))))))
  have c8 := c8.ap d0 hO same_ (mem_l (List.mem_singleton.2 rfl))
  have b8 := b8.ap d0 hO same_ (mem_r (mem_r (mem_l (List.mem_singleton.2 rfl))))
  have c3 := c3.ma d0 hO same_ (fun _ e => (mem_r (mem_r (mem_r (mem_r (mem_l (e)))))))
  have b2 := b2.ap d0 hO same_ (mem_r (mem_r (mem_r (mem_l (List.mem_singleton.2 rfl)))))
  have b7 := b7.ma d0 hO same_ (fun _ e => (mem_r (mem_l (e))))
  have hC := hC.st d0 hO same_
  have hO := hO.ext d0
  have e2 : BoxV f8 a9 111 [(.int .i64 r21.1), (.slice c5 c6 c7)] := e2
  refine x_one (i := 1) (by kernel_rfl) ?_
  refine xk_val (b := true) (.bool r21.2.2) rfl  (y_load rfl ((box_load Ag4 Sz4 b8 [] [(.bool r21.2.2)] [] rfl rfl (fun _ => rfl)) _ (Chg.refl _ _))) rfl (fun h => nomatch h) ?_
  refine x_p 3 (.bool r21.2.2) rfl (by kernel_rfl)  (fun _ => y_assign rfl) (fun h => nomatch h) ?_
  refine x_end (by kernel_rfl) ?_
  clear hS
  refine wp_ret ?_
  cases hs
  have hO := hO.drop
  have hO := hO.drop
  have hO := hO.fr1
  have hO := hO.drop
  have hO := hO.fr1
  have hO := hO.drop
  have hO := hO.fr1
  have hO := hO.drop
  have hO := hO.fr1
  have hO := hO.drop
  have hO := hO.fr1
  have hO := hO.drop
  exact ⟨_, a9, c5, c6, c7, e0, fr_ovl 24 ⟨rfl, rfl, trivial⟩, e2, hC, (b7.free (Free.os Free.int)), hO.top⟩

theorem Bd97 : Bodied Try.prog 97 := bodied Try.func97 (by kernel_rfl) rfl

def k_impl_IsCore (M : Nat → Prop) (w0 : World) (r : Bool × Bool) (a : Act) (w : World) : Prop :=
  ∃ (σ : Nat → Value) , a = fr 23 (ovl σ [(4, (.bool r.1)), (5, (.bool r.2))]) ∧ Chg [] w0 w
def s_impl_IsCore (n : Int) (rels : List (Int × (List (List Int)))) : Option (Bool × Bool) :=
  (s_impl_canAsk n rels 1).bind fun r4 =>
  (bif (!r4) then some (false, false) else (s_impl_freeTable n).bind fun r8 =>
  (s_impl_firstPoly__IsCore_1 n rels 1 r8 n).bind fun r11 =>
  some ((!r11.2), true))
set_option maxHeartbeats 4000000 in
theorem c_impl_IsCore {M : Nat → Prop} {w : World} {pa0 : Option Addr} {pn0 pc0 : Nat} (n : Int) (rels : List (Int × (List (List Int)))) (h0 : (RT.rs (RT.pr (RT.int .i64) (RT.rs (RT.rs (RT.int .i64))))).val M w (.slice pa0 pn0 pc0) rels ([])) (hM : ∀ g, w.heap.size ≤ g → M g) {r : Bool × Bool} (hs : s_impl_IsCore n rels = some r) :
    Gives Try.prog 45 [(.int .i64 n), (.slice pa0 pn0 pc0)] w (fun v w' => v = (.tuple #[(.bool r.1), (.bool r.2)]) ∧ Chg [] w w') := by
 refine calls_fr Try.func45 rfl Try.ntmps45 (Nat.le_of_ble_eq_true rfl) ?_
 have hO := Own.start (N := Nw w []) hM Nw.fut
 have hC := Chg.refl [] w
 unfold s_impl_IsCore at hs
 refine wp_mono (Q := KPost (k_impl_IsCore M w r)) ?_ (fun e a i2 h => ?_)
 rotate_left
 ·cases e
  case ret =>
   obtain ⟨σ, rfl, hrest⟩ := h
   exact ret2x Try.results45 (res_tmp rfl) (res_tmp rfl) ⟨rfl, hrest⟩
  all_goals exact (h : False).elim
 refine c_sr ?_
 obtain ⟨f5, a1, f6, d9, d6, a0⟩ := new_block w [(.int .i64 n)] 3
 refine pl_val (w' := f5) (.pointer (some ⟨a1, 0, none⟩)) (y_box rfl (by rw [f6, d9]; kernel_rfl)) ?_
 have h0 := h0.ext d6
 have hC := hC.ext d6
 have hO := hO.new1 d6 d9 a0.lt
 refine pl_val (.bool false) (y_assign rfl) ?_
 refine pl_val (.bool false) (y_assign rfl) ?_
 refine c_nil ?_
 refine c_seq ?_
 refine c_sr ?_
 refine pl_val (.int .i64 n) (y_load rfl ((box_load Ag3 Sz3 a0 [] [(.int .i64 n)] [] rfl rfl (fun _ => rfl)) _ (Chg.refl _ _))) ?_
 refine pl_val (.slice pa0 pn0 pc0) (y_move rfl) ?_
 obtain ⟨r4, f7, hs⟩ := bind_some hs
 refine pl_call Bd60 rfl (c_impl_canAsk (M := M) n rels 1 h0 hO.fut f7) ?_
 rintro _ e0 ⟨rfl, c2⟩
 have h0 := h0.ext c2
 have a0 := a0.cn c2
 have hC := hC.ext c2
 have hO := hO.ext c2
 refine pl_val (.bool (!r4)) (y_not rfl) ?_
 refine c_nil ?_
 rcases bif_some hs with ⟨d7, hs⟩ | ⟨d7, hs⟩
 ·refine c_condT (congrArg Value.bool d7) ?_
  refine c_sr ?_
  refine pl_val (.bool false) (y_assign rfl) ?_
  refine pl_val (.bool false) (y_assign rfl) ?_
  refine c_nil ?_
  refine wp_ret ?_
  cases hs
  exact ⟨_, fr_ovl 23 ⟨rfl, rfl, trivial⟩, hC⟩
 refine c_condF (congrArg Value.bool d7) ?_
 refine wp_skip ?_
 refine c_seq ?_
 refine x_start [5, 10] Mx rfl ?_
 have b8 := Chg.drew e0
 generalize World.drew e0 = e1 at b8 ⊢
 have h0 := h0.ext b8
 have a0 := a0.cn b8
 have hC := hC.ext b8
 have hO := hO.ext b8
 have hS := Chg.refl [] e1
 refine x_l 0 (.int .i64 n) rfl (by kernel_rfl)  (fun w' hw' => y_load rfl ((box_load Ag3 Sz3 a0 [] [(.int .i64 n)] [] rfl rfl (fun _ => rfl)) w' hw')) hS ?_
 refine x_p 1 (.slice pa0 pn0 pc0) rfl (by kernel_rfl)  (fun _ => y_move rfl) (fun _ => hS) ?_
 refine x_l 2 (.int .i64 n) rfl (by kernel_rfl)  (fun w' hw' => y_load rfl ((box_load Ag3 Sz3 a0 [] [(.int .i64 n)] [] rfl rfl (fun _ => rfl)) w' hw')) hS ?_
 refine x_p 4 (.func (.func 98) #[] #[(.pointer (some ⟨a1, 0, none⟩))]) rfl (by kernel_rfl)  (fun _ => y_func rfl rfl) (fun _ => hS) ?_
 refine x_two (i := 3) (j := 9) (by kernel_rfl) ?_ ?_
 ·skip
  obtain ⟨r8, d8, hs⟩ := bind_some hs
  refine xk_call (b := false) rfl  Bd64 rfl (c_impl_freeTable (M := M) n  hO.fut d8) rfl (by rintro _ _ _ ⟨f8, f9, g0, a3, rfl, a5, a2, e2⟩; exact hS.ext a5) ?_
  rintro _ g1 ⟨f8, f9, g0, a3, rfl, a5, a2, e2⟩
  have h0 := h0.ext a5
  have a0 := a0.cn a5
  have hC := hC.ext a5
  have hO := Own.join0 hO a5 e2
  have hO := hO.perm (R := a3 ++ (([a1]) ++ ([]))) (by simp)
  have hS := hS.ext a5
  refine x_two (i := 5) (j := 9) (by kernel_rfl) ?_ ?_
  ·skip
   have hO := hO.fr1
   have hO := hO.fr1
   obtain ⟨r11, b9, hs⟩ := bind_some hs
   refine xk_call (b := true) rfl  Bd97 rfl (c_impl_firstPoly__IsCore_1 (M := (Less (Less M a3) ([a1]))) n rels 1 r8 n ((h0.sub Less.sub).sub Less.sub) ((((Frz.os Frz.int)).val a2 Less.sub Less.not).sub Less.sub) (show RBox (Less (Less M a3) ([a1])) _ a1 3 [(.int .i64 n)] from ⟨a0, fun h => by simp [Less] at h⟩) (hO.less).less.fut b9) rfl (fun h => nomatch h) ?_
   rintro _ g2 ⟨c3, c4, c5, g3, rfl, c0, a7, g4⟩
   have hO := hO.fr1
   have hO := hO.fr1
   have hO := hO.perm (R := [] ++ (a3 ++ (([a1]) ++ ([])))) (by simp)
   have h0 := h0.ext c0
   have a0 := a0.cn c0
   have a2 := a2.ext c0
   have hC := hC.ext c0
   have hO := Own.join hO c0 g4
   have hO := hO.perm (R := g3 ++ (a3 ++ (([a1]) ++ ([])))) (by simp)
   have a7 := a7.free (M' := M) (Free.os Free.int)
   refine x_p 6 (.tuple #[(.agg #[(.int .i64 r11.1.1), (.slice c3 c4 c5)]), (.bool r11.2)]) rfl (by kernel_rfl)  (fun _ => y_move rfl) (fun h => nomatch h) ?_
   refine x_p 7 (.agg #[(.int .i64 r11.1.1), (.slice c3 c4 c5)]) rfl (by kernel_rfl)  (fun _ => y_extract rfl (by kernel_rfl)) (fun h => nomatch h) ?_
   refine x_p 8 (.bool r11.2) rfl (by kernel_rfl)  (fun _ => y_extract rfl (by kernel_rfl)) (fun h => nomatch h) ?_
   refine x_one (i := 9) (by kernel_rfl) ?_
   obtain ⟨g5, e3, g6, e4, a8, e5⟩ := new_block g2 [(.int .i64 0), (.slice none 0 0)] 111
   refine xk_val (w' := g5) (b := true) (.pointer (some ⟨e3, 0, none⟩)) rfl  (y_alloc (by rw [g6, e4]; kernel_rfl)) rfl (fun h => nomatch h) ?_
   have h0 := h0.ext a8
   have a0 := a0.cn a8
   have a2 := a2.ext a8
   have a7 := a7.ext a8
   have hC := hC.ext a8
   have hO := hO.new1 a8 e4 e5.lt
   refine x_one (i := 10) (by kernel_rfl) ?_
   obtain ⟨e6, g7, a9, e7⟩ := box_store (P := Try.prog) e5 [] [(.int .i64 0), (.slice none 0 0)] [] [(.int .i64 r11.1.1), (.slice c3 c4 c5)] rfl rfl (by intro u hu; simp only [List.mem_cons, List.not_mem_nil, or_false] at hu; rcases hu with rfl | rfl <;> rfl)
   refine xk_skip (w' := e6) (b := true) rfl (ys_store rfl rfl (g7 _ _ rfl Sz111)) rfl (fun h => nomatch h) ?_
   have h0 := h0.mt a9 hO same_
   have a0 := a0.ap a9 hO same_ (mem_r (mem_r (mem_l (List.mem_singleton.2 rfl))))
   have a2 := a2.ma a9 hO same_ (fun _ e => (mem_r (mem_l (e))))
   have a7 := a7.ma a9 hO same_ (fun _ e => (mem_l (e)))
   have hC := hC.st a9 hO same_
   have hO := hO.ext a9
   have e7 : BoxV e6 e3 111 [(.int .i64 r11.1.1), (.slice c3 c4 c5)] := e7
   refine x_p 11 (.bool r11.2) rfl (by kernel_rfl)  (fun _ => y_assign rfl) (fun h => nomatch h) ?_
   refine x_end (by kernel_rfl) ?_
   clear hS
   refine c_sr ?_
   refine pl_val (.bool r11.2) (y_move rfl) ?_
   refine pl_val (.bool (!r11.2)) (y_not rfl) ?_
   refine pl_val (.bool (!r11.2)) (y_assign rfl) ?_
   refine pl_val (.bool true) (y_assign rfl) ?_
   refine c_nil ?_
   refine wp_ret ?_
   cases hs
   exact ⟨_, fr_ovl 23 ⟨rfl, rfl, trivial⟩, hC⟩
  ·skip
   obtain ⟨g8, c6, g9, e8, a6, c7⟩ := new_block g1 [(.int .i64 0), (.slice none 0 0)] 111
   refine xk_val (w' := g8) (b := false) (.pointer (some ⟨c6, 0, none⟩)) rfl  (y_alloc (by rw [g9, e8]; kernel_rfl)) rfl (fun _ => hS.ext a6) ?_
   have h0 := h0.ext a6
   have a0 := a0.cn a6
   have a2 := a2.ext a6
   have hC := hC.ext a6
   have hO := hO.new1 a6 e8 c7.lt
   have hS := hS.ext a6
   refine x_one (i := 5) (by kernel_rfl) ?_
   have hO := hO.fr2
   have hO := hO.fr2
   obtain ⟨r11, b9, hs⟩ := bind_some hs
   refine xk_call (b := true) rfl  Bd97 rfl (c_impl_firstPoly__IsCore_1 (M := (Less (Less M a3) ([a1]))) n rels 1 r8 n ((h0.sub Less.sub).sub Less.sub) ((((Frz.os Frz.int)).val a2 Less.sub Less.not).sub Less.sub) (show RBox (Less (Less M a3) ([a1])) _ a1 3 [(.int .i64 n)] from ⟨a0, fun h => by simp [Less] at h⟩) (hO.less).less.fut b9) rfl (fun h => nomatch h) ?_
   rintro _ i3 ⟨c8, c9, d0, h1, rfl, b0, d1, h2⟩
   have hO := hO.fr1
   have hO := hO.fr1
   have hO := hO.perm (R := [] ++ (a3 ++ (([a1]) ++ (([c6]) ++ ([]))))) (by simp)
   have h0 := h0.ext b0
   have a0 := a0.cn b0
   have a2 := a2.ext b0
   have c7 := c7.cn b0
   have hC := hC.ext b0
   have hO := Own.join hO b0 h2
   have hO := hO.perm (R := h1 ++ (a3 ++ (([a1]) ++ (([c6]) ++ ([]))))) (by simp)
   have d1 := d1.free (M' := M) (Free.os Free.int)
   refine x_p 6 (.tuple #[(.agg #[(.int .i64 r11.1.1), (.slice c8 c9 d0)]), (.bool r11.2)]) rfl (by kernel_rfl)  (fun _ => y_move rfl) (fun h => nomatch h) ?_
   refine x_p 7 (.agg #[(.int .i64 r11.1.1), (.slice c8 c9 d0)]) rfl (by kernel_rfl)  (fun _ => y_extract rfl (by kernel_rfl)) (fun h => nomatch h) ?_
   refine x_p 8 (.bool r11.2) rfl (by kernel_rfl)  (fun _ => y_extract rfl (by kernel_rfl)) (fun h => nomatch h) ?_
   refine x_one (i := 10) (by kernel_rfl) ?_
   obtain ⟨e9, h3, b1, f0⟩ := box_store (P := Try.prog) c7 [] [(.int .i64 0), (.slice none 0 0)] [] [(.int .i64 r11.1.1), (.slice c8 c9 d0)] rfl rfl (by intro u hu; simp only [List.mem_cons, List.not_mem_nil, or_false] at hu; rcases hu with rfl | rfl <;> rfl)
   refine xk_skip (w' := e9) (b := true) rfl (ys_store rfl rfl (h3 _ _ rfl Sz111)) rfl (fun h => nomatch h) ?_
   have hO := hO.fr3
   have h0 := h0.mt b1 hO same_
   have a0 := a0.ap b1 hO same_ (mem_r (mem_r (mem_l (List.mem_singleton.2 rfl))))
   have a2 := a2.ma b1 hO same_ (fun _ e => (mem_r (mem_l (e))))
   have d1 := d1.ma b1 hO same_ (fun _ e => (mem_l (e)))
   have hC := hC.st b1 hO same_
   have hO := hO.ext b1
   have f0 : BoxV e9 c6 111 [(.int .i64 r11.1.1), (.slice c8 c9 d0)] := f0
   refine x_p 11 (.bool r11.2) rfl (by kernel_rfl)  (fun _ => y_assign rfl) (fun h => nomatch h) ?_
   refine x_end (by kernel_rfl) ?_
   clear hS
   refine c_sr ?_
   refine pl_val (.bool r11.2) (y_move rfl) ?_
   refine pl_val (.bool (!r11.2)) (y_not rfl) ?_
   refine pl_val (.bool (!r11.2)) (y_assign rfl) ?_
   refine pl_val (.bool true) (y_assign rfl) ?_
   refine c_nil ?_
   refine wp_ret ?_
   cases hs
   exact ⟨_, fr_ovl 23 ⟨rfl, rfl, trivial⟩, hC⟩
 ·skip
  obtain ⟨h4, c1, h5, f1, b2, b3⟩ := new_block e1 [(.int .i64 0), (.slice none 0 0)] 111
  refine xk_val (w' := h4) (b := false) (.pointer (some ⟨c1, 0, none⟩)) rfl  (y_alloc (by rw [h5, f1]; kernel_rfl)) rfl (fun _ => hS.ext b2) ?_
  have h0 := h0.ext b2
  have a0 := a0.cn b2
  have hC := hC.ext b2
  have hO := hO.new1 b2 f1 b3.lt
  have hS := hS.ext b2
  refine x_one (i := 3) (by kernel_rfl) ?_
  obtain ⟨r8, d8, hs⟩ := bind_some hs
  refine xk_call (b := false) rfl  Bd64 rfl (c_impl_freeTable (M := M) n  hO.fut d8) rfl (by rintro _ _ _ ⟨h6, h7, h8, b4, rfl, a4, b5, f2⟩; exact hS.ext a4) ?_
  rintro _ i4 ⟨h6, h7, h8, b4, rfl, a4, b5, f2⟩
  have h0 := h0.ext a4
  have a0 := a0.cn a4
  have b3 := b3.cn a4
  have hC := hC.ext a4
  have hO := Own.join0 hO a4 f2
  have hO := hO.perm (R := b4 ++ (([c1]) ++ (([a1]) ++ ([])))) (by simp)
  have hS := hS.ext a4
  refine x_one (i := 5) (by kernel_rfl) ?_
  have hO := hO.fr2
  have hO := hO.fr1
  obtain ⟨r11, b9, hs⟩ := bind_some hs
  refine xk_call (b := true) rfl  Bd97 rfl (c_impl_firstPoly__IsCore_1 (M := (Less (Less M b4) ([a1]))) n rels 1 r8 n ((h0.sub Less.sub).sub Less.sub) ((((Frz.os Frz.int)).val b5 Less.sub Less.not).sub Less.sub) (show RBox (Less (Less M b4) ([a1])) _ a1 3 [(.int .i64 n)] from ⟨a0, fun h => by simp [Less] at h⟩) (hO.less).less.fut b9) rfl (fun h => nomatch h) ?_
  rintro _ i5 ⟨d2, d3, d4, h9, rfl, b6, d5, i0⟩
  have hO := hO.fr1
  have hO := hO.fr1
  have hO := hO.perm (R := [] ++ (b4 ++ (([a1]) ++ (([c1]) ++ ([]))))) (by simp)
  have h0 := h0.ext b6
  have a0 := a0.cn b6
  have b3 := b3.cn b6
  have b5 := b5.ext b6
  have hC := hC.ext b6
  have hO := Own.join hO b6 i0
  have hO := hO.perm (R := h9 ++ (b4 ++ (([a1]) ++ (([c1]) ++ ([]))))) (by simp)
  have d5 := d5.free (M' := M) (Free.os Free.int)
  refine x_p 6 (.tuple #[(.agg #[(.int .i64 r11.1.1), (.slice d2 d3 d4)]), (.bool r11.2)]) rfl (by kernel_rfl)  (fun _ => y_move rfl) (fun h => nomatch h) ?_
  refine x_p 7 (.agg #[(.int .i64 r11.1.1), (.slice d2 d3 d4)]) rfl (by kernel_rfl)  (fun _ => y_extract rfl (by kernel_rfl)) (fun h => nomatch h) ?_
  refine x_p 8 (.bool r11.2) rfl (by kernel_rfl)  (fun _ => y_extract rfl (by kernel_rfl)) (fun h => nomatch h) ?_
  refine x_one (i := 10) (by kernel_rfl) ?_
  obtain ⟨f3, i1, b7, f4⟩ := box_store (P := Try.prog) b3 [] [(.int .i64 0), (.slice none 0 0)] [] [(.int .i64 r11.1.1), (.slice d2 d3 d4)] rfl rfl (by intro u hu; simp only [List.mem_cons, List.not_mem_nil, or_false] at hu; rcases hu with rfl | rfl <;> rfl)
  refine xk_skip (w' := f3) (b := true) rfl (ys_store rfl rfl (i1 _ _ rfl Sz111)) rfl (fun h => nomatch h) ?_
  have hO := hO.fr3
  have h0 := h0.mt b7 hO same_
  have a0 := a0.ap b7 hO same_ (mem_r (mem_r (mem_l (List.mem_singleton.2 rfl))))
  have b5 := b5.ma b7 hO same_ (fun _ e => (mem_r (mem_l (e))))
  have d5 := d5.ma b7 hO same_ (fun _ e => (mem_l (e)))
  have hC := hC.st b7 hO same_
  have hO := hO.ext b7
  have f4 : BoxV f3 c1 111 [(.int .i64 r11.1.1), (.slice d2 d3 d4)] := f4
  refine x_p 11 (.bool r11.2) rfl (by kernel_rfl)  (fun _ => y_assign rfl) (fun h => nomatch h) ?_
  refine x_end (by kernel_rfl) ?_
  clear hS
  refine c_sr ?_
  refine pl_val (.bool r11.2) (y_move rfl) ?_
  refine pl_val (.bool (!r11.2)) (y_not rfl) ?_
  refine pl_val (.bool (!r11.2)) (y_assign rfl) ?_
  refine pl_val (.bool true) (y_assign rfl) ?_
  refine c_nil ?_
  refine wp_ret ?_
  cases hs
  exact ⟨_, fr_ovl 23 ⟨rfl, rfl, trivial⟩, hC⟩

def k_laws_eqIntS (M : Nat → Prop) (w0 : World) (r : Bool) (a : Act) (w : World) : Prop :=
  ∃ (σ : Nat → Value) , a = fr 26 (ovl σ [(4, (.bool r))]) ∧ Chg [] w0 w
def s_laws_eqIntS (a_ : List Int) (b : List Int) : Option (Bool) :=
  (bif ((a_.length : Int) != (b.length : Int)) then some false else (forC (S := Unit) (R := Bool) (fun k12 s10 =>
  (idx a_ k12).bind fun x17 =>
  (idx b k12).bind fun x19 =>
  (bif (x17 != x19) then some (.rt false) else some (.nx ()))) 0 (a_.length : Int) ()).bind fun o14 => after o14 (fun r_ => some r_) (fun s10 =>
  some true))
set_option maxHeartbeats 4000000 in
theorem c_laws_eqIntS {M : Nat → Prop} {w : World} {pa0 : Option Addr} {pn0 pc0 : Nat} {pa1 : Option Addr} {pn1 pc1 : Nat} (a_ : List Int) (b : List Int) (h0 : (RT.rs (RT.int .i64)).val M w (.slice pa0 pn0 pc0) a_ ([])) (h1 : (RT.rs (RT.int .i64)).val M w (.slice pa1 pn1 pc1) b ([])) (hM : ∀ g, w.heap.size ≤ g → M g) {r : Bool} (hs : s_laws_eqIntS a_ b = some r) :
    Gives Try.prog 24 [(.slice pa0 pn0 pc0), (.slice pa1 pn1 pc1)] w (fun v w' => v = (.bool r) ∧ Chg [] w w') := by
 refine calls_fr Try.func24 rfl Try.ntmps24 (Nat.le_of_ble_eq_true rfl) ?_
 have hO := Own.start (N := Nw w []) hM Nw.fut
 have hC := Chg.refl [] w
 unfold s_laws_eqIntS at hs
 refine wp_mono (Q := KPost (k_laws_eqIntS M w r)) ?_ (fun e a a4 h => ?_)
 rotate_left
 ·cases e
  case ret =>
   obtain ⟨σ, rfl, hrest⟩ := h
   exact ret1x Try.results24 (res_tmp rfl) ⟨rfl, hrest⟩
  all_goals exact (h : False).elim
 refine c_sr ?_
 refine pl_val (.bool false) (y_assign rfl) ?_
 refine c_nil ?_
 refine c_seq ?_
 refine c_sr ?_
 refine pl_val (.slice pa0 pn0 pc0) (y_move rfl) ?_
 refine pl_val (.int .i64 (a_.length : Int)) (y_len' Sl41 (rs_len h0) rfl) ?_
 refine pl_val (.slice pa1 pn1 pc1) (y_move rfl) ?_
 refine pl_val (.int .i64 (b.length : Int)) (y_len' Sl41 (rs_len h1) rfl) ?_
 refine pl_val (.bool ((a_.length : Int) != (b.length : Int))) (y_neq rfl rfl) ?_
 refine c_nil ?_
 rcases bif_some hs with ⟨a2, hs⟩ | ⟨a2, hs⟩
 ·refine c_condT (congrArg Value.bool a2) ?_
  refine c_sr ?_
  refine pl_val (.bool false) (y_assign rfl) ?_
  refine c_nil ?_
  refine wp_ret ?_
  cases hs
  exact ⟨_, fr_ovl 26 ⟨rfl, trivial⟩, hC⟩
 refine c_condF (congrArg Value.bool a2) ?_
 refine wp_skip ?_
 refine c_seq ?_
 refine c_sr ?_
 refine pl_val (.int .i64 0) (y_assign rfl) ?_
 refine c_nil ?_
 obtain ⟨o14, a5, hs⟩ := bind_some hs
 refine wp_block ?_
 refine wp_forC (id := 0) (a_.length : Int) (I := fun k12 s10 a a0 => ∃ (σ : Nat → Value), a = fr 26 (ovl σ [(0, (.slice pa0 pn0 pc0)), (1, (.slice pa1 pn1 pc1)), (5, (.int .i64 k12))]) ∧ Chg [] w a0 ∧ Own (Nw w []) M a0 ([]) ∧ (RT.rs (RT.int .i64)).val M a0 (.slice pa0 pn0 pc0) a_ ([]) ∧ (RT.rs (RT.int .i64)).val M a0 (.slice pa1 pn1 pc1) b ([])) (J := fun s10 a a0 => ∃ (σ : Nat → Value), a = fr 26 (ovl σ []) ∧ Chg [] w a0 ∧ Own (Nw w []) M a0 ([]) ∧ (RT.rs (RT.int .i64)).val M a0 (.slice pa0 pn0 pc0) a_ ([]) ∧ (RT.rs (RT.int .i64)).val M a0 (.slice pa1 pn1 pc1) b ([])) (K := (k_laws_eqIntS M w)) ?_ ?_ 0 () o14 _ _ ?_ a5 ?_
 ·rintro k12 s10 a a0 ⟨σ, rfl, hC, hO, h0, h1⟩ hlt
  refine c_seq ?_
  refine c_sr ?_
  refine pl_val (.int .i64 k12) (y_move rfl) ?_
  refine pl_val (.slice pa0 pn0 pc0) (y_move rfl) ?_
  refine pl_val (.int .i64 (a_.length : Int)) (y_len' Sl41 (rs_len h0) rfl) ?_
  refine pl_val (.bool (decide (k12 < (a_.length : Int)))) (y_lss rfl rfl) ?_
  refine c_nil ?_
  refine c_condF (congrArg Value.bool (decide_eq_false hlt)) ?_
  refine wp_exit ?_
  exact ⟨rfl, _, fr_ovl 26 trivial, hC, hO, h0, h1⟩
 ·rintro k12 s10 o14 a a0 ⟨σ, rfl, hC, hO, h0, h1⟩ hlt hw hs
  refine c_seq ?_
  refine c_sr ?_
  refine pl_val (.int .i64 k12) (y_move rfl) ?_
  refine pl_val (.slice pa0 pn0 pc0) (y_move rfl) ?_
  refine pl_val (.int .i64 (a_.length : Int)) (y_len' Sl41 (rs_len h0) rfl) ?_
  refine pl_val (.bool (decide (k12 < (a_.length : Int)))) (y_lss rfl rfl) ?_
  refine c_nil ?_
  refine c_condT (congrArg Value.bool (decide_eq_true hlt)) ?_
  refine wp_skip ?_
  refine c_seq ?_
  refine wp_block ?_
  refine c_seq ?_
  refine x_start [] Mx rfl ?_
  have a1 := Chg.drew a0
  generalize World.drew a0 = a6 at a1 ⊢
  have h0 := h0.ext a1
  have h1 := h1.ext a1
  have hC := hC.ext a1
  have hO := hO.ext a1
  have hS := Chg.refl [] a6
  refine x_p 0 (.slice pa0 pn0 pc0) rfl (by kernel_rfl)  (fun _ => y_move rfl) (fun _ => hS) ?_
  refine x_p 1 (.int .i64 k12) rfl (by kernel_rfl)  (fun _ => y_move rfl) (fun _ => hS) ?_
  obtain ⟨x17, a7, hs⟩ := bind_some hs
  obtain ⟨a8, a9, b0, b1⟩ := rs_idx Sl41 Sz3 h0 a7
  refine x_p 2 (.pointer (some ⟨a8, a9, none⟩)) rfl (by kernel_rfl)  (fun _ => b0 _ _ _ _ _ _ _ _ _ rfl rfl) (fun _ => hS) ?_
  refine x_l 3 (.int .i64 x17) rfl (by kernel_rfl)  (fun w' hw' => y_load rfl ((at_load_int Ag3 Sz3 b1) w' hw')) hS ?_
  refine x_p 4 (.slice pa1 pn1 pc1) rfl (by kernel_rfl)  (fun _ => y_move rfl) (fun _ => hS) ?_
  refine x_p 5 (.int .i64 k12) rfl (by kernel_rfl)  (fun _ => y_move rfl) (fun _ => hS) ?_
  obtain ⟨x19, b2, hs⟩ := bind_some hs
  obtain ⟨b3, b4, b5, b6⟩ := rs_idx Sl41 Sz3 h1 b2
  refine x_p 6 (.pointer (some ⟨b3, b4, none⟩)) rfl (by kernel_rfl)  (fun _ => b5 _ _ _ _ _ _ _ _ _ rfl rfl) (fun _ => hS) ?_
  refine x_l 7 (.int .i64 x19) rfl (by kernel_rfl)  (fun w' hw' => y_load rfl ((at_load_int Ag3 Sz3 b6) w' hw')) hS ?_
  refine x_p 8 (.bool (x17 != x19)) rfl (by kernel_rfl)  (fun _ => y_neq rfl rfl) (fun _ => hS) ?_
  refine x_end (by kernel_rfl) ?_
  clear hS
  rcases bif_some hs with ⟨a3, hs⟩ | ⟨a3, hs⟩
  ·refine c_condT (congrArg Value.bool a3) ?_
   refine c_sr ?_
   refine pl_val (.bool false) (y_assign rfl) ?_
   refine c_nil ?_
   refine wp_ret ?_
   cases hs
   exact ⟨_, fr_ovl 26 ⟨rfl, trivial⟩, hC⟩
  refine c_condF (congrArg Value.bool a3) ?_
  refine wp_skip ?_
  refine c_region ?_
  refine pl_val (.int .i64 k12) (y_move rfl) ?_
  refine pl_val (.int .i64 (w64 (k12 + 1))) (y_add rfl rfl) ?_
  refine pl_val (.int .i64 (w64 (k12 + 1))) (y_assign rfl) ?_
  refine c_nil ?_
  cases hs
  exact ⟨_, fr_ovl 26 ⟨rfl, rfl, congrArg (Value.int .i64) hw, trivial⟩, hC, hO, h0, h1⟩
 ·skip
  exact ⟨_, fr_ovl 26 ⟨rfl, rfl, rfl, trivial⟩, hC, hO, h0, h1⟩
 cases o14 with
 | nx _ => exact True.intro
 | rt r_ =>
  have hs := after_rt hs
  intro b7 a4 hK
  cases hs
  exact hK
 | br s10 =>
  have hs := after_br hs
  rintro b7 a0 ⟨σ, rfl, hC, hO, h0, h1⟩
  refine c_sr ?_
  refine pl_val (.bool true) (y_assign rfl) ?_
  refine c_nil ?_
  refine wp_ret ?_
  cases hs
  exact ⟨_, fr_ovl 26 ⟨rfl, trivial⟩, hC⟩

theorem Bd24 : Bodied Try.prog 24 := bodied Try.func24 (by kernel_rfl) rfl

def k_laws_eqIntSS (M : Nat → Prop) (w0 : World) (r : Bool) (a : Act) (w : World) : Prop :=
  ∃ (σ : Nat → Value) , a = fr 27 (ovl σ [(4, (.bool r))]) ∧ Chg [] w0 w
def s_laws_eqIntSS (a_ : List (List Int)) (b : List (List Int)) : Option (Bool) :=
  (bif ((a_.length : Int) != (b.length : Int)) then some false else (forC (S := Unit) (R := Bool) (fun k18 s16 =>
  (idx a_ k18).bind fun x23 =>
  (idx b k18).bind fun x27 =>
  (s_laws_eqIntS x23 x27).bind fun r32 =>
  (bif (!r32) then some (.rt false) else some (.nx ()))) 0 (a_.length : Int) ()).bind fun o20 => after o20 (fun r_ => some r_) (fun s16 =>
  some true))
set_option maxHeartbeats 4000000 in
theorem c_laws_eqIntSS {M : Nat → Prop} {w : World} {pa0 : Option Addr} {pn0 pc0 : Nat} {pa1 : Option Addr} {pn1 pc1 : Nat} (a_ : List (List Int)) (b : List (List Int)) (h0 : (RT.rs (RT.rs (RT.int .i64))).val M w (.slice pa0 pn0 pc0) a_ ([])) (h1 : (RT.rs (RT.rs (RT.int .i64))).val M w (.slice pa1 pn1 pc1) b ([])) (hM : ∀ g, w.heap.size ≤ g → M g) {r : Bool} (hs : s_laws_eqIntSS a_ b = some r) :
    Gives Try.prog 37 [(.slice pa0 pn0 pc0), (.slice pa1 pn1 pc1)] w (fun v w' => v = (.bool r) ∧ Chg [] w w') := by
 refine calls_fr Try.func37 rfl Try.ntmps37 (Nat.le_of_ble_eq_true rfl) ?_
 have hO := Own.start (N := Nw w []) hM Nw.fut
 have hC := Chg.refl [] w
 unfold s_laws_eqIntSS at hs
 refine wp_mono (Q := KPost (k_laws_eqIntSS M w r)) ?_ (fun e a a7 h => ?_)
 rotate_left
 ·cases e
  case ret =>
   obtain ⟨σ, rfl, hrest⟩ := h
   exact ret1x Try.results37 (res_tmp rfl) ⟨rfl, hrest⟩
  all_goals exact (h : False).elim
 refine c_sr ?_
 refine pl_val (.bool false) (y_assign rfl) ?_
 refine c_nil ?_
 refine c_seq ?_
 refine c_sr ?_
 refine pl_val (.slice pa0 pn0 pc0) (y_move rfl) ?_
 refine pl_val (.int .i64 (a_.length : Int)) (y_len' Sl47 (rs_len h0) rfl) ?_
 refine pl_val (.slice pa1 pn1 pc1) (y_move rfl) ?_
 refine pl_val (.int .i64 (b.length : Int)) (y_len' Sl47 (rs_len h1) rfl) ?_
 refine pl_val (.bool ((a_.length : Int) != (b.length : Int))) (y_neq rfl rfl) ?_
 refine c_nil ?_
 rcases bif_some hs with ⟨a5, hs⟩ | ⟨a5, hs⟩
 ·refine c_condT (congrArg Value.bool a5) ?_
  refine c_sr ?_
  refine pl_val (.bool false) (y_assign rfl) ?_
  refine c_nil ?_
  refine wp_ret ?_
  cases hs
  exact ⟨_, fr_ovl 27 ⟨rfl, trivial⟩, hC⟩
 refine c_condF (congrArg Value.bool a5) ?_
 refine wp_skip ?_
 refine c_seq ?_
 refine c_sr ?_
 refine pl_val (.int .i64 0) (y_assign rfl) ?_
 refine c_nil ?_
 obtain ⟨o20, a8, hs⟩ := bind_some hs
 refine wp_block ?_
 refine wp_forC (id := 0) (a_.length : Int) (I := fun k18 s16 a a0 => ∃ (σ : Nat → Value), a = fr 27 (ovl σ [(0, (.slice pa0 pn0 pc0)), (1, (.slice pa1 pn1 pc1)), (5, (.int .i64 k18))]) ∧ Chg [] w a0 ∧ Own (Nw w []) M a0 ([]) ∧ (RT.rs (RT.rs (RT.int .i64))).val M a0 (.slice pa0 pn0 pc0) a_ ([]) ∧ (RT.rs (RT.rs (RT.int .i64))).val M a0 (.slice pa1 pn1 pc1) b ([])) (J := fun s16 a a0 => ∃ (σ : Nat → Value), a = fr 27 (ovl σ []) ∧ Chg [] w a0 ∧ Own (Nw w []) M a0 ([]) ∧ (RT.rs (RT.rs (RT.int .i64))).val M a0 (.slice pa0 pn0 pc0) a_ ([]) ∧ (RT.rs (RT.rs (RT.int .i64))).val M a0 (.slice pa1 pn1 pc1) b ([])) (K := (k_laws_eqIntSS M w)) ?_ ?_ 0 () o20 _ _ ?_ a8 ?_
 ·rintro k18 s16 a a0 ⟨σ, rfl, hC, hO, h0, h1⟩ hlt
  refine c_seq ?_
  refine c_sr ?_
  refine pl_val (.int .i64 k18) (y_move rfl) ?_
  refine pl_val (.slice pa0 pn0 pc0) (y_move rfl) ?_
  refine pl_val (.int .i64 (a_.length : Int)) (y_len' Sl47 (rs_len h0) rfl) ?_
  refine pl_val (.bool (decide (k18 < (a_.length : Int)))) (y_lss rfl rfl) ?_
  refine c_nil ?_
  refine c_condF (congrArg Value.bool (decide_eq_false hlt)) ?_
  refine wp_exit ?_
  exact ⟨rfl, _, fr_ovl 27 trivial, hC, hO, h0, h1⟩
 ·rintro k18 s16 o20 a a0 ⟨σ, rfl, hC, hO, h0, h1⟩ hlt hw hs
  refine c_seq ?_
  refine c_sr ?_
  refine pl_val (.int .i64 k18) (y_move rfl) ?_
  refine pl_val (.slice pa0 pn0 pc0) (y_move rfl) ?_
  refine pl_val (.int .i64 (a_.length : Int)) (y_len' Sl47 (rs_len h0) rfl) ?_
  refine pl_val (.bool (decide (k18 < (a_.length : Int)))) (y_lss rfl rfl) ?_
  refine c_nil ?_
  refine c_condT (congrArg Value.bool (decide_eq_true hlt)) ?_
  refine wp_skip ?_
  refine c_seq ?_
  refine wp_block ?_
  refine c_seq ?_
  refine x_start [] Mx rfl ?_
  have a2 := Chg.drew a0
  generalize World.drew a0 = a9 at a2 ⊢
  have h0 := h0.ext a2
  have h1 := h1.ext a2
  have hC := hC.ext a2
  have hO := hO.ext a2
  have hS := Chg.refl [] a9
  refine x_p 0 (.slice pa0 pn0 pc0) rfl (by kernel_rfl)  (fun _ => y_move rfl) (fun _ => hS) ?_
  refine x_p 1 (.int .i64 k18) rfl (by kernel_rfl)  (fun _ => y_move rfl) (fun _ => hS) ?_
  obtain ⟨x23, b0, hs⟩ := bind_some hs
  obtain ⟨b1, b2, b3, b4⟩ := rs_idx Sl47 Sz41 h0 b0
  refine x_p 2 (.pointer (some ⟨b1, b2, none⟩)) rfl (by kernel_rfl)  (fun _ => b3 _ _ _ _ _ _ _ _ _ rfl rfl) (fun _ => hS) ?_
  obtain ⟨d0, b5, a3⟩ := at_load Ag41 Sz41 (fun _ => rfl) b4
  obtain ⟨b6, b7, b8, rfl⟩ := rs_sl a3
  refine x_l 3 (.slice b6 b7 b8) rfl (by kernel_rfl)  (fun w' hw' => y_load rfl (b5 w' hw')) hS ?_
  refine x_p 4 (.slice pa1 pn1 pc1) rfl (by kernel_rfl)  (fun _ => y_move rfl) (fun _ => hS) ?_
  refine x_p 5 (.int .i64 k18) rfl (by kernel_rfl)  (fun _ => y_move rfl) (fun _ => hS) ?_
  obtain ⟨x27, b9, hs⟩ := bind_some hs
  obtain ⟨c0, c1, c2, c3⟩ := rs_idx Sl47 Sz41 h1 b9
  refine x_p 6 (.pointer (some ⟨c0, c1, none⟩)) rfl (by kernel_rfl)  (fun _ => c2 _ _ _ _ _ _ _ _ _ rfl rfl) (fun _ => hS) ?_
  obtain ⟨d1, c4, a4⟩ := at_load Ag41 Sz41 (fun _ => rfl) c3
  obtain ⟨c5, c6, c7, rfl⟩ := rs_sl a4
  refine x_l 7 (.slice c5 c6 c7) rfl (by kernel_rfl)  (fun w' hw' => y_load rfl (c4 w' hw')) hS ?_
  refine x_one (i := 8) (by kernel_rfl) ?_
  obtain ⟨r32, c8, hs⟩ := bind_some hs
  refine xk_call (b := false) rfl  Bd24 rfl (c_laws_eqIntS (M := M) x23 x27 a3 a4 hO.fut c8) rfl (by rintro _ _ _ ⟨rfl, a1⟩; exact hS.ext a1) ?_
  rintro _ d2 ⟨rfl, a1⟩
  have h0 := h0.ext a1
  have h1 := h1.ext a1
  have a3 := a3.ext a1
  have a4 := a4.ext a1
  have hC := hC.ext a1
  have hO := hO.ext a1
  have hS := hS.ext a1
  refine x_p 9 (.bool (!r32)) rfl (by kernel_rfl)  (fun _ => y_not rfl) (fun _ => hS) ?_
  refine x_end (by kernel_rfl) ?_
  clear hS
  rcases bif_some hs with ⟨a6, hs⟩ | ⟨a6, hs⟩
  ·refine c_condT (congrArg Value.bool a6) ?_
   refine c_sr ?_
   refine pl_val (.bool false) (y_assign rfl) ?_
   refine c_nil ?_
   refine wp_ret ?_
   cases hs
   exact ⟨_, fr_ovl 27 ⟨rfl, trivial⟩, hC⟩
  refine c_condF (congrArg Value.bool a6) ?_
  refine wp_skip ?_
  refine c_region ?_
  refine pl_val (.int .i64 k18) (y_move rfl) ?_
  refine pl_val (.int .i64 (w64 (k18 + 1))) (y_add rfl rfl) ?_
  refine pl_val (.int .i64 (w64 (k18 + 1))) (y_assign rfl) ?_
  refine c_nil ?_
  cases hs
  exact ⟨_, fr_ovl 27 ⟨rfl, rfl, congrArg (Value.int .i64) hw, trivial⟩, hC, hO, h0, h1⟩
 ·skip
  exact ⟨_, fr_ovl 27 ⟨rfl, rfl, rfl, trivial⟩, hC, hO, h0, h1⟩
 cases o20 with
 | nx _ => exact True.intro
 | rt r_ =>
  have hs := after_rt hs
  intro c9 a7 hK
  cases hs
  exact hK
 | br s16 =>
  have hs := after_br hs
  rintro c9 a0 ⟨σ, rfl, hC, hO, h0, h1⟩
  refine c_sr ?_
  refine pl_val (.bool true) (y_assign rfl) ?_
  refine c_nil ?_
  refine wp_ret ?_
  cases hs
  exact ⟨_, fr_ovl 27 ⟨rfl, trivial⟩, hC⟩

theorem Bd37 : Bodied Try.prog 37 := bodied Try.func37 (by kernel_rfl) rfl

end Go.Proofs
