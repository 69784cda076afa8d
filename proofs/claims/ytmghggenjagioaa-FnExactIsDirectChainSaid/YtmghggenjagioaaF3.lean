/- What functions of the program compute, as plain functions, and that a call gives just that. Conditions: those named in each theorem. -/
import Derived.Test.YtmghggenjagioaaF2
set_option linter.unusedVariables false
namespace Go.Proofs
open Go.G Go.RowKit
set_option maxRecDepth 100000

def k_impl_hasNot (M : Nat → Prop) (w0 : World) (r : Bool) (a : Act) (w : World) : Prop :=
  ∃ (σ : Nat → Value) , a = fr 17 (ovl σ [(4, (.bool r))]) ∧ Chg [] w0 w
def s_impl_hasNot (list : List Int) (x_ : Int) : Option (Bool) :=
  (forR (S := Unit) (R := Bool) (fun _ x7 s4 =>
  (bif (x_ == x7) then some (.rt false) else some (.nx ()))) 0 list ()).bind fun o8 => after o8 (fun r_ => some r_) (fun s4 =>
  some true)
set_option maxHeartbeats 4000000 in
theorem c_impl_hasNot {M : Nat → Prop} {w : World} {pa0 : Option Addr} {pn0 pc0 : Nat} (list : List Int) (x_ : Int) (h0 : (RT.rs (RT.int .i64)).val M w (.slice pa0 pn0 pc0) list ([])) (hM : ∀ g, w.heap.size ≤ g → M g) {r : Bool} (hs : s_impl_hasNot list x_ = some r) :
    Gives Try.prog 114 [(.slice pa0 pn0 pc0), (.int .i64 x_)] w (fun v w' => v = (.bool r) ∧ Chg [] w w') := by
 refine calls_fr Try.func114 rfl Try.ntmps114 (Nat.le_of_ble_eq_true rfl) ?_
 have hO := Own.start (N := Nw w []) hM Nw.fut
 have hC := Chg.refl [] w
 unfold s_impl_hasNot at hs
 refine wp_mono (Q := KPost (k_impl_hasNot M w r)) ?_ (fun e a a3 h => ?_)
 rotate_left
 ·cases e
  case ret =>
   obtain ⟨σ, rfl, hrest⟩ := h
   exact ret1x Try.results114 (res_tmp rfl) ⟨rfl, hrest⟩
  all_goals exact (h : False).elim
 refine c_sr ?_
 refine pl_val (.bool false) (y_assign rfl) ?_
 refine c_nil ?_
 refine c_seq ?_
 refine c_sr ?_
 refine pl_val (.slice pa0 pn0 pc0) (y_move rfl) ?_
 refine pl_val (.int .i64 (list.length : Int)) (y_len' Sl37 (rs_len h0) rfl) ?_
 refine pl_val (.int .i64 0) (y_move rfl) ?_
 refine c_nil ?_
 obtain ⟨o8, a4, hs⟩ := bind_some hs
 refine wp_block ?_
 refine wp_forR (id := 0) (I := fun i_ xs_ s4 a a0 => ∃ a1 : Nat, i_ = (a1 : Int) ∧ List.drop a1 list = xs_ ∧ (∃ (σ : Nat → Value), a = fr 17 (ovl σ [(1, (.int .i64 x_)), (7, (.slice pa0 pn0 pc0)), (8, (.int .i64 (list.length : Int))), (9, (.int .i64 (a1 : Int)))]) ∧ Chg [] w a0 ∧ Own (Nw w []) M a0 ([]) ∧ (RT.rs (RT.int .i64)).val M a0 (.slice pa0 pn0 pc0) list ([]))) (J := fun s4 a a0 => ∃ (σ : Nat → Value), a = fr 17 (ovl σ []) ∧ Chg [] w a0 ∧ Own (Nw w []) M a0 ([]) ∧ (RT.rs (RT.int .i64)).val M a0 (.slice pa0 pn0 pc0) list ([])) (K := (k_impl_hasNot M w)) ?_ ?_ list 0 () o8 _ _ ?_ a4 ?_
 ·rintro _ s4 a a0 ⟨a1, rfl, hd, σ, rfl, hC, hO, h0⟩
  have hlt := drop_nil_ge hd
  refine c_sr ?_
  refine pl_val (.bool (decide ((a1 : Int) < (list.length : Int)))) (y_lss rfl rfl) ?_
  refine c_nil ?_
  refine c_seq ?_
  refine c_condF (congrArg Value.bool (decide_eq_false hlt)) ?_
  refine wp_exit ?_
  exact ⟨rfl, _, fr_ovl 17 trivial, hC, hO, h0⟩
 ·rintro _ x7 xs_ s4 o8 a a0 ⟨a1, rfl, hd, σ, rfl, hC, hO, h0⟩ hs
  have hlt := drop_cons_lt hd
  have a5 := drop_cons_idx hd
  refine c_sr ?_
  refine pl_val (.bool (decide ((a1 : Int) < (list.length : Int)))) (y_lss rfl rfl) ?_
  refine c_nil ?_
  refine c_seq ?_
  refine c_condT (congrArg Value.bool (decide_eq_true hlt)) ?_
  refine wp_skip ?_
  refine c_seq ?_
  refine wp_block ?_
  refine c_sr ?_
  obtain ⟨a6, a7, a8, a9⟩ := rs_idx Sl37 Sz3 h0 a5
  refine pl_val (.pointer (some ⟨a6, a7, none⟩)) (a8 _ _ _ _ _ _ _ _ _ rfl rfl) ?_
  refine pl_val (.int .i64 x7) (y_load rfl ((at_load_int Ag3 Sz3 a9) _ (Chg.refl _ _))) ?_
  refine pl_val (.int .i64 x7) (y_assign rfl) ?_
  refine c_nil ?_
  refine c_sr ?_
  refine pl_val (.int .i64 x_) (y_move rfl) ?_
  refine pl_val (.int .i64 x7) (y_move rfl) ?_
  refine pl_val (.bool (x_ == x7)) (y_eql rfl rfl) ?_
  refine c_nil ?_
  rcases bif_some hs with ⟨a2, hs⟩ | ⟨a2, hs⟩
  ·refine c_condT (congrArg Value.bool a2) ?_
   refine c_sr ?_
   refine pl_val (.bool false) (y_assign rfl) ?_
   refine c_nil ?_
   refine wp_ret ?_
   cases hs
   exact ⟨_, fr_ovl 17 ⟨rfl, trivial⟩, hC⟩
  refine c_condF (congrArg Value.bool a2) ?_
  refine wp_skip ?_
  refine c_region ?_
  refine pl_val (.int .i64 (w64 ((a1 : Int) + 1))) (y_add rfl rfl) ?_
  refine pl_val (.int .i64 (w64 ((a1 : Int) + 1))) (y_move rfl) ?_
  refine c_nil ?_
  cases hs
  exact ⟨_, rfl, drop_cons_next hd, _, fr_ovl 17 ⟨rfl, rfl, rfl, congrArg (Value.int .i64) (w64_succ hlt (Int.natCast_nonneg _) (rs_max h0)), trivial⟩, hC, hO, h0⟩
 ·skip
  exact ⟨0, rfl, rfl, _, fr_ovl 17 ⟨rfl, rfl, rfl, rfl, trivial⟩, hC, hO, h0⟩
 cases o8 with
 | nx _ => exact True.intro
 | rt r_ =>
  have hs := after_rt hs
  intro b0 a3 hK
  cases hs
  exact hK
 | br s4 =>
  have hs := after_br hs
  rintro b0 a0 ⟨σ, rfl, hC, hO, h0⟩
  refine c_sr ?_
  refine pl_val (.bool true) (y_assign rfl) ?_
  refine c_nil ?_
  refine wp_ret ?_
  cases hs
  exact ⟨_, fr_ovl 17 ⟨rfl, trivial⟩, hC⟩

def k_impl_seconds (M : Nat → Prop) (w0 : World) (r : (List Int)) (a : Act) (w : World) : Prop :=
  ∃ (σ : Nat → Value) (ra0 : Option Addr) (rn0 rc0 : Nat) (rf0 : List Nat), a = fr 5 (ovl σ [(2, (.slice ra0 rn0 rc0))]) ∧ Chg [] w0 w ∧ (RT.os 3 (RT.int .i64)).val M w (.slice ra0 rn0 rc0) r rf0 ∧ Own (Nw w0 []) (fun _ => True) w (rf0 ++ ([]))
def s_impl_seconds (n : Int) : Option ((List Int)) :=
  (s_impl_projection n 2 1).bind fun r2 =>
  some r2
set_option maxHeartbeats 4000000 in
theorem c_impl_seconds {M : Nat → Prop} {w : World}  (n : Int)  (hM : ∀ g, w.heap.size ≤ g → M g) {r : (List Int)} (hs : s_impl_seconds n = some r) :
    Gives Try.prog 89 [(.int .i64 n)] w (fun v w' => ∃ (ra0 : Option Addr) (rn0 rc0 : Nat) (rf0 : List Nat), v = (.slice ra0 rn0 rc0) ∧ Chg [] w w' ∧ (RT.os 3 (RT.int .i64)).val M w' (.slice ra0 rn0 rc0) r rf0 ∧ Own (Nw w []) (fun _ => True) w' (rf0 ++ ([]))) := by
 refine calls_fr Try.func89 rfl Try.ntmps89 (Nat.le_of_ble_eq_true rfl) ?_
 have hO := Own.start (N := Nw w []) hM Nw.fut
 have hC := Chg.refl [] w
 unfold s_impl_seconds at hs
 refine wp_mono (Q := KPost (k_impl_seconds M w r)) ?_ (fun e a a5 h => ?_)
 rotate_left
 ·cases e
  case ret =>
   obtain ⟨σ, ra0, rn0, rc0, rf0, rfl, hrest⟩ := h
   exact ret1x Try.results89 (res_tmp rfl) ⟨ra0, rn0, rc0, rf0, rfl, hrest⟩
  all_goals exact (h : False).elim
 refine c_sr ?_
 refine pl_val (.slice none 0 0) (y_assign rfl) ?_
 refine c_nil ?_
 refine c_sr ?_
 refine pl_val (.int .i64 n) (y_move rfl) ?_
 obtain ⟨r2, a6, hs⟩ := bind_some hs
 refine pl_call Bd84 rfl (c_impl_projection (M := M) n 2 1  hO.fut a6) ?_
 rintro _ a5 ⟨a0, a1, a2, a3, rfl, a4, a7, a8⟩
 have hC := hC.ext a4
 have hO := Own.join0 hO a4 a8
 have hO := hO.perm (R := a3 ++ ([])) (by simp)
 refine pl_val (.slice a0 a1 a2) (y_assign rfl) ?_
 refine c_nil ?_
 refine wp_ret ?_
 cases hs
 exact ⟨_, a0, a1, a2, a3, fr_ovl 5 ⟨rfl, trivial⟩, hC, a7, hO.top⟩

theorem Ag105 : AggT Try.prog 105 true := fun _ => by kernel_rfl

theorem Sz105 : SzT Try.prog 105 4 := ⟨_, rfl, rfl⟩

def k_impl_chainer__direct (M : Nat → Prop) (w0 : World) (vg0 : Nat) (r : (Int × Unit × Unit × Unit)) (a : Act) (w : World) : Prop :=
  ∃ (σ : Nat → Value) (rg2 : Nat) (ng0 : Nat), a = fr 7 (ovl σ [(2, (.pointer (some ⟨rg2, 0, none⟩)))]) ∧ BoxV w rg2 105 [(.int .i64 r.1), (.func (.func 100) #[] #[(.pointer (some ⟨ng0, 0, none⟩))]), (.func (.func 101) #[] #[(.pointer (some ⟨ng0, 0, none⟩))]), (.func (.func 102) #[] #[(.pointer (some ⟨ng0, 0, none⟩))])] ∧ Chg [] w0 w ∧ BoxV w ng0 52 [(.pointer (some ⟨vg0, 0, none⟩))] ∧ Own (Nw w0 []) (fun _ => True) w ([ng0] ++ ([]))
def s_impl_chainer__direct (b0 : Int × (List (List Int)) × (List Bool) × (List (List Int)) × (List (List Int)) × Int × Int) : Option ((Int × Unit × Unit × Unit)) :=
  some (1, (), (), ())
set_option maxHeartbeats 4000000 in
theorem c_impl_chainer__direct {M : Nat → Prop} {w : World} {vg0 : Nat} {va0x1 : Option Addr} {vn0x1 vc0x1 : Nat} {va0x2 : Option Addr} {vn0x2 vc0x2 : Nat} {va0x3 : Option Addr} {vn0x3 vc0x3 : Nat} {va0x4 : Option Addr} {vn0x4 vc0x4 : Nat} (b0 : Int × (List (List Int)) × (List Bool) × (List (List Int)) × (List (List Int)) × Int × Int) (hb0 : RBox M w vg0 58 [(.int .i64 b0.1), (.slice va0x1 vn0x1 vc0x1), (.slice va0x2 vn0x2 vc0x2), (.slice va0x3 vn0x3 vc0x3), (.slice va0x4 vn0x4 vc0x4), (.int .i64 b0.2.2.2.2.2.1), (.int .i64 b0.2.2.2.2.2.2)]) (hl0x1 : (RT.rs (RT.rs (RT.int .i64))).val M w (.slice va0x1 vn0x1 vc0x1) b0.2.1 ([])) (hl0x2 : (RT.rs RT.bool).val M w (.slice va0x2 vn0x2 vc0x2) b0.2.2.1 ([])) (hl0x3 : (RT.rs (RT.rs (RT.int .i64))).val M w (.slice va0x3 vn0x3 vc0x3) b0.2.2.2.1 ([])) (hl0x4 : (RT.rs (RT.rs (RT.int .i64))).val M w (.slice va0x4 vn0x4 vc0x4) b0.2.2.2.2.1 ([])) (hM : ∀ g, w.heap.size ≤ g → M g) {r : (Int × Unit × Unit × Unit)} (hs : s_impl_chainer__direct b0 = some r) :
    Gives Try.prog 73 [(.pointer (some ⟨vg0, 0, none⟩))] w (fun v w' => ∃ (ng0 : Nat), v = (.agg #[(.int .i64 r.1), (.func (.func 100) #[] #[(.pointer (some ⟨ng0, 0, none⟩))]), (.func (.func 101) #[] #[(.pointer (some ⟨ng0, 0, none⟩))]), (.func (.func 102) #[] #[(.pointer (some ⟨ng0, 0, none⟩))])]) ∧ Chg [] w w' ∧ BoxV w' ng0 52 [(.pointer (some ⟨vg0, 0, none⟩))] ∧ Own (Nw w []) (fun _ => True) w' ([ng0] ++ ([]))) := by
 refine calls_fr Try.func73 rfl Try.ntmps73 (Nat.le_of_ble_eq_true rfl) ?_
 have hO := Own.start (N := Nw w []) hM Nw.fut
 have hC := Chg.refl [] w
 unfold s_impl_chainer__direct at hs
 refine wp_mono (Q := KPost (k_impl_chainer__direct M w vg0 r)) ?_ (fun e a b7 h => ?_)
 rotate_left
 ·cases e
  case ret =>
   obtain ⟨σ, rg2, ng0, rfl, hbrg2, hrest⟩ := h
   exact ret1x Try.results73 (res_cell rfl (box_load Ag105 Sz105 hbrg2 [] _ [] rfl rfl (fun h => nomatch h))) ⟨ng0, rfl, hrest⟩
  all_goals exact (h : False).elim
 refine c_sr ?_
 obtain ⟨a7, a0, b3, a8, a3, a4⟩ := new_block w [(.pointer (some ⟨vg0, 0, none⟩))] 52
 refine pl_val (w' := a7) (.pointer (some ⟨a0, 0, none⟩)) (y_box rfl (by rw [b3, a8]; kernel_rfl)) ?_
 have hl0x1 := hl0x1.ext a3
 have hl0x2 := hl0x2.ext a3
 have hl0x3 := hl0x3.ext a3
 have hl0x4 := hl0x4.ext a3
 have hb0 := hb0.ext a3
 have hC := hC.ext a3
 have hO := hO.new1 a3 a8 a4.lt
 obtain ⟨b4, a5, b5, a9, a1, b1⟩ := new_block a7 [(.int .i64 0), .nilFunc, .nilFunc, .nilFunc] 105
 refine pl_val (w' := b4) (.pointer (some ⟨a5, 0, none⟩)) (y_alloc (by rw [b5, a9]; kernel_rfl)) ?_
 have hl0x1 := hl0x1.ext a1
 have hl0x2 := hl0x2.ext a1
 have hl0x3 := hl0x3.ext a1
 have hl0x4 := hl0x4.ext a1
 have hb0 := hb0.ext a1
 have a4 := a4.cn a1
 have hC := hC.ext a1
 have hO := hO.new1 a1 a9 b1.lt
 refine c_nil ?_
 refine c_sr ?_
 refine pl_val (.func (.func 100) #[] #[(.pointer (some ⟨a0, 0, none⟩))]) (y_func rfl rfl) ?_
 refine pl_val (.func (.func 101) #[] #[(.pointer (some ⟨a0, 0, none⟩))]) (y_func rfl rfl) ?_
 refine pl_val (.func (.func 102) #[] #[(.pointer (some ⟨a0, 0, none⟩))]) (y_func rfl rfl) ?_
 refine pl_val (.agg #[(.int .i64 1), (.func (.func 100) #[] #[(.pointer (some ⟨a0, 0, none⟩))]), (.func (.func 101) #[] #[(.pointer (some ⟨a0, 0, none⟩))]), (.func (.func 102) #[] #[(.pointer (some ⟨a0, 0, none⟩))])]) (y_build rfl (by kernel_rfl)) ?_
 obtain ⟨b2, b6, a2, a6⟩ := box_store (P := Try.prog) b1 [] [(.int .i64 0), .nilFunc, .nilFunc, .nilFunc] [] [(.int .i64 1), (.func (.func 100) #[] #[(.pointer (some ⟨a0, 0, none⟩))]), (.func (.func 101) #[] #[(.pointer (some ⟨a0, 0, none⟩))]), (.func (.func 102) #[] #[(.pointer (some ⟨a0, 0, none⟩))])] rfl rfl (by intro u hu; simp only [List.mem_cons, List.not_mem_nil, or_false] at hu; rcases hu with rfl | rfl | rfl | rfl <;> rfl)
 refine pl_skip (w' := b2) (ys_store rfl rfl (b6 _ _ rfl Sz105)) ?_
 have hl0x1 := hl0x1.mt a2 hO same_
 have hl0x2 := hl0x2.mt a2 hO same_
 have hl0x3 := hl0x3.mt a2 hO same_
 have hl0x4 := hl0x4.mt a2 hO same_
 have hb0 := hb0.mut a2 (fun q hq => hO.inM q ((fun _ h => h) q hq))
 have a4 := a4.ap a2 hO same_ (mem_l (List.mem_singleton.2 rfl))
 have hC := hC.st a2 hO same_
 have hO := hO.ext a2
 have a6 : BoxV b2 a5 105 [(.int .i64 1), (.func (.func 100) #[] #[(.pointer (some ⟨a0, 0, none⟩))]), (.func (.func 101) #[] #[(.pointer (some ⟨a0, 0, none⟩))]), (.func (.func 102) #[] #[(.pointer (some ⟨a0, 0, none⟩))])] := a6
 refine c_nil ?_
 refine wp_ret ?_
 cases hs
 have hO := hO.drop
 exact ⟨_, a5, a0, fr_ovl 7 ⟨rfl, trivial⟩, a6, hC, a4, hO.top⟩

theorem Bd41 : Bodied Try.prog 41 := bodied Try.func41 (by kernel_rfl) rfl

theorem Bd95 : Bodied Try.prog 95 := bodied Try.func95 (by kernel_rfl) rfl

theorem Bd73 : Bodied Try.prog 73 := bodied Try.func73 (by kernel_rfl) rfl

theorem Fa105x0 : ∀ (a : Addr) (w : World), (Instr.fieldAt 105 (.pointer (some a)) 0).run Try.prog w = .ok (.pointer (some (a.add 0))) w := fun _ _ => by kernel_rfl

theorem Bd114 : Bodied Try.prog 114 := bodied Try.func114 (by kernel_rfl) rfl

theorem Fa105x3 : ∀ (a : Addr) (w : World), (Instr.fieldAt 105 (.pointer (some a)) 3).run Try.prog w = .ok (.pointer (some (a.add 3))) w := fun _ _ => by kernel_rfl

theorem Ag73 : AggT Try.prog 73 false := fun _ => by kernel_rfl

theorem Sz73 : SzT Try.prog 73 1 := ⟨_, rfl, rfl⟩

theorem Ag52 : AggT Try.prog 52 false := fun _ => by kernel_rfl

theorem Sz52 : SzT Try.prog 52 1 := ⟨_, rfl, rfl⟩

theorem Sl56 : SlT Try.prog 56 4 := Try.underlying56

def k_impl_chainer__direct_3__g (M : Nat → Prop) (w0 : World) (r : Bool) (a : Act) (w : World) : Prop :=
  ∃ (σ : Nat → Value) , a = fr 41 (ovl σ [(7, (.bool r))]) ∧ Chg [] w0 w
def s_impl_chainer__direct_3__g (i : Int) (f : Int) (g : Int) (b1 : Int × (List (List Int)) × (List Bool) × (List (List Int)) × (List (List Int)) × Int × Int) : Option (Bool) :=
  (idx b1.2.2.1 f).bind fun x8 =>
  (bif x8 then (idx b1.2.2.1 g).bind fun x11 =>
  (bif x11 then (idx b1.2.2.2.2.1 f).bind fun x14 =>
  (idx b1.2.2.2.1 g).bind fun x18 =>
  (s_impl_sameList x14 x18).bind fun r23 =>
  some r23 else some false) else some false)
set_option maxHeartbeats 4000000 in
theorem c_impl_chainer__direct_3__g {M : Nat → Prop} {w : World} {vg0 : Nat} {vg1 : Nat} {va1x1 : Option Addr} {vn1x1 vc1x1 : Nat} {va1x2 : Option Addr} {vn1x2 vc1x2 : Nat} {va1x3 : Option Addr} {vn1x3 vc1x3 : Nat} {va1x4 : Option Addr} {vn1x4 vc1x4 : Nat} (i : Int) (f : Int) (g : Int) (b1 : Int × (List (List Int)) × (List Bool) × (List (List Int)) × (List (List Int)) × Int × Int) (hb0 : RBox M w vg0 52 [(.pointer (some ⟨vg1, 0, none⟩))]) (hb1 : RBox M w vg1 58 [(.int .i64 b1.1), (.slice va1x1 vn1x1 vc1x1), (.slice va1x2 vn1x2 vc1x2), (.slice va1x3 vn1x3 vc1x3), (.slice va1x4 vn1x4 vc1x4), (.int .i64 b1.2.2.2.2.2.1), (.int .i64 b1.2.2.2.2.2.2)]) (hl1x1 : (RT.rs (RT.rs (RT.int .i64))).val M w (.slice va1x1 vn1x1 vc1x1) b1.2.1 ([])) (hl1x2 : (RT.rs RT.bool).val M w (.slice va1x2 vn1x2 vc1x2) b1.2.2.1 ([])) (hl1x3 : (RT.rs (RT.rs (RT.int .i64))).val M w (.slice va1x3 vn1x3 vc1x3) b1.2.2.2.1 ([])) (hl1x4 : (RT.rs (RT.rs (RT.int .i64))).val M w (.slice va1x4 vn1x4 vc1x4) b1.2.2.2.2.1 ([])) (hM : ∀ g, w.heap.size ≤ g → M g) {r : Bool} (hs : s_impl_chainer__direct_3__g i f g b1 = some r) :
    Gives Try.prog 102 [(.int .i64 i), (.int .i64 f), (.int .i64 g), (.pointer (some ⟨vg0, 0, none⟩))] w (fun v w' => v = (.bool r) ∧ Chg [] w w') := by
 refine calls_fr Try.func102 rfl Try.ntmps102 (Nat.le_of_ble_eq_true rfl) ?_
 have hO := Own.start (N := Nw w []) hM Nw.fut
 have hC := Chg.refl [] w
 unfold s_impl_chainer__direct_3__g at hs
 refine wp_mono (Q := KPost (k_impl_chainer__direct_3__g M w r)) ?_ (fun e a d7 h => ?_)
 rotate_left
 ·cases e
  case ret =>
   obtain ⟨σ, rfl, hrest⟩ := h
   exact ret1x Try.results102 (res_tmp rfl) ⟨rfl, hrest⟩
  all_goals exact (h : False).elim
 refine c_sr ?_
 refine pl_val (.bool false) (y_assign rfl) ?_
 refine c_nil ?_
 refine c_seq ?_
 refine x_start [] Mx rfl ?_
 have a3 := Chg.drew w
 generalize World.drew w = b0 at a3 ⊢
 have hb0 := hb0.ext a3
 have hl1x1 := hl1x1.ext a3
 have hl1x2 := hl1x2.ext a3
 have hl1x3 := hl1x3.ext a3
 have hl1x4 := hl1x4.ext a3
 have hb1 := hb1.ext a3
 have hC := hC.ext a3
 have hO := hO.ext a3
 have hS := Chg.refl [] b0
 refine x_l 0 (.pointer (some ⟨vg1, 0, none⟩)) rfl (by kernel_rfl)  (fun w' hw' => y_load rfl ((box_load Ag52 Sz52 hb0.1 [] [(.pointer (some ⟨vg1, 0, none⟩))] [] rfl rfl (fun _ => rfl)) w' hw')) hS ?_
 refine x_p 1 (.pointer (some ⟨vg1, 0, none⟩)) rfl (by kernel_rfl)  (fun _ => y_nilc rfl) (fun _ => hS) ?_
 refine x_p 2 (.pointer (some ⟨vg1, 2, none⟩)) rfl (by kernel_rfl)  (fun _ => y_faddr rfl Fa58x2) (fun _ => hS) ?_
 refine x_l 3 (.slice va1x2 vn1x2 vc1x2) rfl (by kernel_rfl)  (fun w' hw' => y_load rfl ((box_load Ag56 Sz56 hb1.1 [(.int .i64 b1.1), (.slice va1x1 vn1x1 vc1x1)] [(.slice va1x2 vn1x2 vc1x2)] [(.slice va1x3 vn1x3 vc1x3), (.slice va1x4 vn1x4 vc1x4), (.int .i64 b1.2.2.2.2.2.1), (.int .i64 b1.2.2.2.2.2.2)] rfl rfl (fun _ => rfl)) w' hw')) hS ?_
 refine x_p 4 (.int .i64 f) rfl (by kernel_rfl)  (fun _ => y_move rfl) (fun _ => hS) ?_
 obtain ⟨x8, b2, hs⟩ := bind_some hs
 obtain ⟨b3, b4, b5, a6⟩ := rs_idx Sl56 Sz4 hl1x2 b2
 refine x_p 5 (.pointer (some ⟨b3, b4, none⟩)) rfl (by kernel_rfl)  (fun _ => b5 _ _ _ _ _ _ _ _ _ rfl rfl) (fun _ => hS) ?_
 refine x_l 6 (.bool x8) rfl (by kernel_rfl)  (fun w' hw' => y_load rfl ((at_load_bool Ag4 Sz4 a6) w' hw')) hS ?_
 refine x_p 7 (.bool x8) rfl (by kernel_rfl)  (fun _ => y_move rfl) (fun _ => hS) ?_
 rcases bif_some hs with ⟨a1, hs⟩ | ⟨a1, hs⟩
 ·skip
  refine x_ly 8 (.pointer (some ⟨vg1, 0, none⟩)) rfl (by kernel_rfl) (tg := 15) (by kernel_rfl) (congrArg Value.bool a1) (fun w' hw' => y_load rfl ((box_load Ag52 Sz52 hb0.1 [] [(.pointer (some ⟨vg1, 0, none⟩))] [] rfl rfl (fun _ => rfl)) w' hw')) hS ?_
  refine x_py 9 (.pointer (some ⟨vg1, 0, none⟩)) rfl (by kernel_rfl) (tg := 15) (by kernel_rfl) (congrArg Value.bool a1) (fun _ => y_nilc rfl) (fun _ => hS) ?_
  refine x_py 10 (.pointer (some ⟨vg1, 2, none⟩)) rfl (by kernel_rfl) (tg := 15) (by kernel_rfl) (congrArg Value.bool a1) (fun _ => y_faddr rfl Fa58x2) (fun _ => hS) ?_
  refine x_ly 11 (.slice va1x2 vn1x2 vc1x2) rfl (by kernel_rfl) (tg := 15) (by kernel_rfl) (congrArg Value.bool a1) (fun w' hw' => y_load rfl ((box_load Ag56 Sz56 hb1.1 [(.int .i64 b1.1), (.slice va1x1 vn1x1 vc1x1)] [(.slice va1x2 vn1x2 vc1x2)] [(.slice va1x3 vn1x3 vc1x3), (.slice va1x4 vn1x4 vc1x4), (.int .i64 b1.2.2.2.2.2.1), (.int .i64 b1.2.2.2.2.2.2)] rfl rfl (fun _ => rfl)) w' hw')) hS ?_
  refine x_py 12 (.int .i64 g) rfl (by kernel_rfl) (tg := 15) (by kernel_rfl) (congrArg Value.bool a1) (fun _ => y_move rfl) (fun _ => hS) ?_
  obtain ⟨x11, b6, hs⟩ := bind_some hs
  obtain ⟨b7, b8, b9, a7⟩ := rs_idx Sl56 Sz4 hl1x2 b6
  refine x_py 13 (.pointer (some ⟨b7, b8, none⟩)) rfl (by kernel_rfl) (tg := 15) (by kernel_rfl) (congrArg Value.bool a1) (fun _ => b9 _ _ _ _ _ _ _ _ _ rfl rfl) (fun _ => hS) ?_
  refine x_ly 14 (.bool x11) rfl (by kernel_rfl) (tg := 15) (by kernel_rfl) (congrArg Value.bool a1) (fun w' hw' => y_load rfl ((at_load_bool Ag4 Sz4 a7) w' hw')) hS ?_
  refine x_p 15 (.bool x11) rfl (by kernel_rfl)  (fun _ => y_pick_t (congrArg Value.bool a1) rfl) (fun _ => hS) ?_
  refine x_p 16 (.bool x11) rfl (by kernel_rfl)  (fun _ => y_move rfl) (fun _ => hS) ?_
  rcases bif_some hs with ⟨a0, hs⟩ | ⟨a0, hs⟩
  ·skip
   refine x_ly 17 (.pointer (some ⟨vg1, 0, none⟩)) rfl (by kernel_rfl) (tg := 24) (by kernel_rfl) (congrArg Value.bool a0) (fun w' hw' => y_load rfl ((box_load Ag52 Sz52 hb0.1 [] [(.pointer (some ⟨vg1, 0, none⟩))] [] rfl rfl (fun _ => rfl)) w' hw')) hS ?_
   refine x_py 18 (.pointer (some ⟨vg1, 0, none⟩)) rfl (by kernel_rfl) (tg := 24) (by kernel_rfl) (congrArg Value.bool a0) (fun _ => y_nilc rfl) (fun _ => hS) ?_
   refine x_py 19 (.pointer (some ⟨vg1, 4, none⟩)) rfl (by kernel_rfl) (tg := 24) (by kernel_rfl) (congrArg Value.bool a0) (fun _ => y_faddr rfl Fa58x4) (fun _ => hS) ?_
   refine x_ly 20 (.slice va1x4 vn1x4 vc1x4) rfl (by kernel_rfl) (tg := 24) (by kernel_rfl) (congrArg Value.bool a0) (fun w' hw' => y_load rfl ((box_load Ag47 Sz47 hb1.1 [(.int .i64 b1.1), (.slice va1x1 vn1x1 vc1x1), (.slice va1x2 vn1x2 vc1x2), (.slice va1x3 vn1x3 vc1x3)] [(.slice va1x4 vn1x4 vc1x4)] [(.int .i64 b1.2.2.2.2.2.1), (.int .i64 b1.2.2.2.2.2.2)] rfl rfl (fun _ => rfl)) w' hw')) hS ?_
   refine x_py 21 (.int .i64 f) rfl (by kernel_rfl) (tg := 24) (by kernel_rfl) (congrArg Value.bool a0) (fun _ => y_move rfl) (fun _ => hS) ?_
   obtain ⟨x14, c0, hs⟩ := bind_some hs
   obtain ⟨c1, c2, c3, a8⟩ := rs_idx Sl47 Sz37 hl1x4 c0
   refine x_py 22 (.pointer (some ⟨c1, c2, none⟩)) rfl (by kernel_rfl) (tg := 24) (by kernel_rfl) (congrArg Value.bool a0) (fun _ => c3 _ _ _ _ _ _ _ _ _ rfl rfl) (fun _ => hS) ?_
   obtain ⟨d8, c4, a4⟩ := at_load Ag37 Sz37 (fun _ => rfl) a8
   obtain ⟨c5, c6, c7, rfl⟩ := rs_sl a4
   refine x_ly 23 (.slice c5 c6 c7) rfl (by kernel_rfl) (tg := 24) (by kernel_rfl) (congrArg Value.bool a0) (fun w' hw' => y_load rfl (c4 w' hw')) hS ?_
   refine x_ly 24 (.pointer (some ⟨vg1, 0, none⟩)) rfl (by kernel_rfl) (tg := 24) (by kernel_rfl) (congrArg Value.bool a0) (fun w' hw' => y_load rfl ((box_load Ag52 Sz52 hb0.1 [] [(.pointer (some ⟨vg1, 0, none⟩))] [] rfl rfl (fun _ => rfl)) w' hw')) hS ?_
   refine x_py 25 (.pointer (some ⟨vg1, 0, none⟩)) rfl (by kernel_rfl) (tg := 24) (by kernel_rfl) (congrArg Value.bool a0) (fun _ => y_nilc rfl) (fun _ => hS) ?_
   refine x_py 26 (.pointer (some ⟨vg1, 3, none⟩)) rfl (by kernel_rfl) (tg := 24) (by kernel_rfl) (congrArg Value.bool a0) (fun _ => y_faddr rfl Fa58x3) (fun _ => hS) ?_
   refine x_ly 27 (.slice va1x3 vn1x3 vc1x3) rfl (by kernel_rfl) (tg := 24) (by kernel_rfl) (congrArg Value.bool a0) (fun w' hw' => y_load rfl ((box_load Ag47 Sz47 hb1.1 [(.int .i64 b1.1), (.slice va1x1 vn1x1 vc1x1), (.slice va1x2 vn1x2 vc1x2)] [(.slice va1x3 vn1x3 vc1x3)] [(.slice va1x4 vn1x4 vc1x4), (.int .i64 b1.2.2.2.2.2.1), (.int .i64 b1.2.2.2.2.2.2)] rfl rfl (fun _ => rfl)) w' hw')) hS ?_
   refine x_py 28 (.int .i64 g) rfl (by kernel_rfl) (tg := 24) (by kernel_rfl) (congrArg Value.bool a0) (fun _ => y_move rfl) (fun _ => hS) ?_
   obtain ⟨x18, c8, hs⟩ := bind_some hs
   obtain ⟨c9, d0, d1, a9⟩ := rs_idx Sl47 Sz37 hl1x3 c8
   refine x_py 29 (.pointer (some ⟨c9, d0, none⟩)) rfl (by kernel_rfl) (tg := 24) (by kernel_rfl) (congrArg Value.bool a0) (fun _ => d1 _ _ _ _ _ _ _ _ _ rfl rfl) (fun _ => hS) ?_
   obtain ⟨d9, d2, a5⟩ := at_load Ag37 Sz37 (fun _ => rfl) a9
   obtain ⟨d3, d4, d5, rfl⟩ := rs_sl a5
   refine x_ly 30 (.slice d3 d4 d5) rfl (by kernel_rfl) (tg := 24) (by kernel_rfl) (congrArg Value.bool a0) (fun w' hw' => y_load rfl (d2 w' hw')) hS ?_
   refine x_one (i := 31) (by kernel_rfl) ?_
   obtain ⟨r23, d6, hs⟩ := bind_some hs
   refine xk_cally (b := false) rfl (tg := 24) (by kernel_rfl) (congrArg Value.bool a0) Bd45 rfl (c_impl_sameList (M := M) x14 x18 a4 a5 hO.fut d6) rfl (by rintro _ _ _ ⟨rfl, a2⟩; exact hS.ext a2) ?_
   rintro _ e0 ⟨rfl, a2⟩
   have hb0 := hb0.ext a2
   have hl1x1 := hl1x1.ext a2
   have hl1x2 := hl1x2.ext a2
   have hl1x3 := hl1x3.ext a2
   have hl1x4 := hl1x4.ext a2
   have hb1 := hb1.ext a2
   have a4 := a4.ext a2
   have a5 := a5.ext a2
   have a6 := at_ext a6 a2
   have a7 := at_ext a7 a2
   have a8 := at_ext a8 a2
   have a9 := at_ext a9 a2
   have hC := hC.ext a2
   have hO := hO.ext a2
   have hS := hS.ext a2
   refine x_p 32 (.bool r23) rfl (by kernel_rfl)  (fun _ => y_pick_t (congrArg Value.bool a0) rfl) (fun _ => hS) ?_
   refine x_p 33 (.bool r23) rfl (by kernel_rfl)  (fun _ => y_assign rfl) (fun _ => hS) ?_
   refine x_end (by kernel_rfl) ?_
   clear hS
   refine wp_ret ?_
   cases hs
   exact ⟨_, fr_ovl 41 ⟨rfl, trivial⟩, hC⟩
  refine x_pn 17 rfl (by kernel_rfl) (tg := 24) (by kernel_rfl) (congrArg Value.bool a0) (fun _ => hS) ?_
  refine x_pn 18 rfl (by kernel_rfl) (tg := 24) (by kernel_rfl) (congrArg Value.bool a0) (fun _ => hS) ?_
  refine x_pn 19 rfl (by kernel_rfl) (tg := 24) (by kernel_rfl) (congrArg Value.bool a0) (fun _ => hS) ?_
  refine x_pn 20 rfl (by kernel_rfl) (tg := 24) (by kernel_rfl) (congrArg Value.bool a0) (fun _ => hS) ?_
  refine x_pn 21 rfl (by kernel_rfl) (tg := 24) (by kernel_rfl) (congrArg Value.bool a0) (fun _ => hS) ?_
  refine x_pn 22 rfl (by kernel_rfl) (tg := 24) (by kernel_rfl) (congrArg Value.bool a0) (fun _ => hS) ?_
  refine x_pn 23 rfl (by kernel_rfl) (tg := 24) (by kernel_rfl) (congrArg Value.bool a0) (fun _ => hS) ?_
  refine x_pn 24 rfl (by kernel_rfl) (tg := 24) (by kernel_rfl) (congrArg Value.bool a0) (fun _ => hS) ?_
  refine x_pn 25 rfl (by kernel_rfl) (tg := 24) (by kernel_rfl) (congrArg Value.bool a0) (fun _ => hS) ?_
  refine x_pn 26 rfl (by kernel_rfl) (tg := 24) (by kernel_rfl) (congrArg Value.bool a0) (fun _ => hS) ?_
  refine x_pn 27 rfl (by kernel_rfl) (tg := 24) (by kernel_rfl) (congrArg Value.bool a0) (fun _ => hS) ?_
  refine x_pn 28 rfl (by kernel_rfl) (tg := 24) (by kernel_rfl) (congrArg Value.bool a0) (fun _ => hS) ?_
  refine x_pn 29 rfl (by kernel_rfl) (tg := 24) (by kernel_rfl) (congrArg Value.bool a0) (fun _ => hS) ?_
  refine x_pn 30 rfl (by kernel_rfl) (tg := 24) (by kernel_rfl) (congrArg Value.bool a0) (fun _ => hS) ?_
  refine x_pn 31 rfl (by kernel_rfl) (tg := 24) (by kernel_rfl) (congrArg Value.bool a0) (fun _ => hS) ?_
  refine x_p 32 (.bool false) rfl (by kernel_rfl)  (fun _ => y_pick_f (congrArg Value.bool a0) rfl) (fun _ => hS) ?_
  refine x_p 33 (.bool false) rfl (by kernel_rfl)  (fun _ => y_assign rfl) (fun _ => hS) ?_
  refine x_end (by kernel_rfl) ?_
  clear hS
  refine wp_ret ?_
  cases hs
  exact ⟨_, fr_ovl 41 ⟨rfl, trivial⟩, hC⟩
 refine x_pn 8 rfl (by kernel_rfl) (tg := 15) (by kernel_rfl) (congrArg Value.bool a1) (fun _ => hS) ?_
 refine x_pn 9 rfl (by kernel_rfl) (tg := 15) (by kernel_rfl) (congrArg Value.bool a1) (fun _ => hS) ?_
 refine x_pn 10 rfl (by kernel_rfl) (tg := 15) (by kernel_rfl) (congrArg Value.bool a1) (fun _ => hS) ?_
 refine x_pn 11 rfl (by kernel_rfl) (tg := 15) (by kernel_rfl) (congrArg Value.bool a1) (fun _ => hS) ?_
 refine x_pn 12 rfl (by kernel_rfl) (tg := 15) (by kernel_rfl) (congrArg Value.bool a1) (fun _ => hS) ?_
 refine x_pn 13 rfl (by kernel_rfl) (tg := 15) (by kernel_rfl) (congrArg Value.bool a1) (fun _ => hS) ?_
 refine x_pn 14 rfl (by kernel_rfl) (tg := 15) (by kernel_rfl) (congrArg Value.bool a1) (fun _ => hS) ?_
 refine x_p 15 (.bool false) rfl (by kernel_rfl)  (fun _ => y_pick_f (congrArg Value.bool a1) rfl) (fun _ => hS) ?_
 refine x_p 16 (.bool false) rfl (by kernel_rfl)  (fun _ => y_move rfl) (fun _ => hS) ?_
 refine x_pn 17 rfl (by kernel_rfl) (tg := 24) (by kernel_rfl) (by rfl) (fun _ => hS) ?_
 refine x_pn 18 rfl (by kernel_rfl) (tg := 24) (by kernel_rfl) (by rfl) (fun _ => hS) ?_
 refine x_pn 19 rfl (by kernel_rfl) (tg := 24) (by kernel_rfl) (by rfl) (fun _ => hS) ?_
 refine x_pn 20 rfl (by kernel_rfl) (tg := 24) (by kernel_rfl) (by rfl) (fun _ => hS) ?_
 refine x_pn 21 rfl (by kernel_rfl) (tg := 24) (by kernel_rfl) (by rfl) (fun _ => hS) ?_
 refine x_pn 22 rfl (by kernel_rfl) (tg := 24) (by kernel_rfl) (by rfl) (fun _ => hS) ?_
 refine x_pn 23 rfl (by kernel_rfl) (tg := 24) (by kernel_rfl) (by rfl) (fun _ => hS) ?_
 refine x_pn 24 rfl (by kernel_rfl) (tg := 24) (by kernel_rfl) (by rfl) (fun _ => hS) ?_
 refine x_pn 25 rfl (by kernel_rfl) (tg := 24) (by kernel_rfl) (by rfl) (fun _ => hS) ?_
 refine x_pn 26 rfl (by kernel_rfl) (tg := 24) (by kernel_rfl) (by rfl) (fun _ => hS) ?_
 refine x_pn 27 rfl (by kernel_rfl) (tg := 24) (by kernel_rfl) (by rfl) (fun _ => hS) ?_
 refine x_pn 28 rfl (by kernel_rfl) (tg := 24) (by kernel_rfl) (by rfl) (fun _ => hS) ?_
 refine x_pn 29 rfl (by kernel_rfl) (tg := 24) (by kernel_rfl) (by rfl) (fun _ => hS) ?_
 refine x_pn 30 rfl (by kernel_rfl) (tg := 24) (by kernel_rfl) (by rfl) (fun _ => hS) ?_
 refine x_pn 31 rfl (by kernel_rfl) (tg := 24) (by kernel_rfl) (by rfl) (fun _ => hS) ?_
 refine x_p 32 (.bool false) rfl (by kernel_rfl)  (fun _ => y_pick_f (by rfl) rfl) (fun _ => hS) ?_
 refine x_p 33 (.bool false) rfl (by kernel_rfl)  (fun _ => y_assign rfl) (fun _ => hS) ?_
 refine x_end (by kernel_rfl) ?_
 clear hS
 refine wp_ret ?_
 cases hs
 exact ⟨_, fr_ovl 41 ⟨rfl, trivial⟩, hC⟩

theorem Bd102 : Bodied Try.prog 102 := bodied Try.func102 (by kernel_rfl) rfl

theorem Fa105x1 : ∀ (a : Addr) (w : World), (Instr.fieldAt 105 (.pointer (some a)) 1).run Try.prog w = .ok (.pointer (some (a.add 1))) w := fun _ _ => by kernel_rfl

theorem Ag61 : AggT Try.prog 61 false := fun _ => by kernel_rfl

theorem Sz61 : SzT Try.prog 61 1 := ⟨_, rfl, rfl⟩

def k_impl_chainer__direct_1__g (M : Nat → Prop) (w0 : World) (r : Bool) (a : Act) (w : World) : Prop :=
  ∃ (σ : Nat → Value) , a = fr 26 (ovl σ [(3, (.bool r))]) ∧ Chg [] w0 w
def s_impl_chainer__direct_1__g (f : Int) (b1 : Int × (List (List Int)) × (List Bool) × (List (List Int)) × (List (List Int)) × Int × Int) : Option (Bool) :=
  (idx b1.2.2.1 f).bind fun x8 =>
  (bif x8 then (idx b1.2.2.2.1 f).bind fun x11 =>
  (s_impl_firsts b1.1).bind fun r16 =>
  (s_impl_sameList x11 r16).bind fun r19 =>
  some r19 else some false)
set_option maxHeartbeats 4000000 in
theorem c_impl_chainer__direct_1__g {M : Nat → Prop} {w : World} {vg0 : Nat} {vg1 : Nat} {va1x1 : Option Addr} {vn1x1 vc1x1 : Nat} {va1x2 : Option Addr} {vn1x2 vc1x2 : Nat} {va1x3 : Option Addr} {vn1x3 vc1x3 : Nat} {va1x4 : Option Addr} {vn1x4 vc1x4 : Nat} (f : Int) (b1 : Int × (List (List Int)) × (List Bool) × (List (List Int)) × (List (List Int)) × Int × Int) (hb0 : RBox M w vg0 52 [(.pointer (some ⟨vg1, 0, none⟩))]) (hb1 : RBox M w vg1 58 [(.int .i64 b1.1), (.slice va1x1 vn1x1 vc1x1), (.slice va1x2 vn1x2 vc1x2), (.slice va1x3 vn1x3 vc1x3), (.slice va1x4 vn1x4 vc1x4), (.int .i64 b1.2.2.2.2.2.1), (.int .i64 b1.2.2.2.2.2.2)]) (hl1x1 : (RT.rs (RT.rs (RT.int .i64))).val M w (.slice va1x1 vn1x1 vc1x1) b1.2.1 ([])) (hl1x2 : (RT.rs RT.bool).val M w (.slice va1x2 vn1x2 vc1x2) b1.2.2.1 ([])) (hl1x3 : (RT.rs (RT.rs (RT.int .i64))).val M w (.slice va1x3 vn1x3 vc1x3) b1.2.2.2.1 ([])) (hl1x4 : (RT.rs (RT.rs (RT.int .i64))).val M w (.slice va1x4 vn1x4 vc1x4) b1.2.2.2.2.1 ([])) (hM : ∀ g, w.heap.size ≤ g → M g) {r : Bool} (hs : s_impl_chainer__direct_1__g f b1 = some r) :
    Gives Try.prog 100 [(.int .i64 f), (.pointer (some ⟨vg0, 0, none⟩))] w (fun v w' => v = (.bool r) ∧ Chg [] w w') := by
 refine calls_fr Try.func100 rfl Try.ntmps100 (Nat.le_of_ble_eq_true rfl) ?_
 have hO := Own.start (N := Nw w []) hM Nw.fut
 have hC := Chg.refl [] w
 unfold s_impl_chainer__direct_1__g at hs
 refine wp_mono (Q := KPost (k_impl_chainer__direct_1__g M w r)) ?_ (fun e a c9 h => ?_)
 rotate_left
 ·cases e
  case ret =>
   obtain ⟨σ, rfl, hrest⟩ := h
   exact ret1x Try.results100 (res_tmp rfl) ⟨rfl, hrest⟩
  all_goals exact (h : False).elim
 refine c_sr ?_
 refine pl_val (.bool false) (y_assign rfl) ?_
 refine c_nil ?_
 refine c_seq ?_
 refine x_start [] Mx rfl ?_
 have a3 := Chg.drew w
 generalize World.drew w = b0 at a3 ⊢
 have hb0 := hb0.ext a3
 have hl1x1 := hl1x1.ext a3
 have hl1x2 := hl1x2.ext a3
 have hl1x3 := hl1x3.ext a3
 have hl1x4 := hl1x4.ext a3
 have hb1 := hb1.ext a3
 have hC := hC.ext a3
 have hO := hO.ext a3
 have hS := Chg.refl [] b0
 refine x_l 0 (.pointer (some ⟨vg1, 0, none⟩)) rfl (by kernel_rfl)  (fun w' hw' => y_load rfl ((box_load Ag52 Sz52 hb0.1 [] [(.pointer (some ⟨vg1, 0, none⟩))] [] rfl rfl (fun _ => rfl)) w' hw')) hS ?_
 refine x_p 1 (.pointer (some ⟨vg1, 0, none⟩)) rfl (by kernel_rfl)  (fun _ => y_nilc rfl) (fun _ => hS) ?_
 refine x_p 2 (.pointer (some ⟨vg1, 2, none⟩)) rfl (by kernel_rfl)  (fun _ => y_faddr rfl Fa58x2) (fun _ => hS) ?_
 refine x_l 3 (.slice va1x2 vn1x2 vc1x2) rfl (by kernel_rfl)  (fun w' hw' => y_load rfl ((box_load Ag56 Sz56 hb1.1 [(.int .i64 b1.1), (.slice va1x1 vn1x1 vc1x1)] [(.slice va1x2 vn1x2 vc1x2)] [(.slice va1x3 vn1x3 vc1x3), (.slice va1x4 vn1x4 vc1x4), (.int .i64 b1.2.2.2.2.2.1), (.int .i64 b1.2.2.2.2.2.2)] rfl rfl (fun _ => rfl)) w' hw')) hS ?_
 refine x_p 4 (.int .i64 f) rfl (by kernel_rfl)  (fun _ => y_move rfl) (fun _ => hS) ?_
 obtain ⟨x8, b2, hs⟩ := bind_some hs
 obtain ⟨b3, b4, b5, a5⟩ := rs_idx Sl56 Sz4 hl1x2 b2
 refine x_p 5 (.pointer (some ⟨b3, b4, none⟩)) rfl (by kernel_rfl)  (fun _ => b5 _ _ _ _ _ _ _ _ _ rfl rfl) (fun _ => hS) ?_
 refine x_l 6 (.bool x8) rfl (by kernel_rfl)  (fun w' hw' => y_load rfl ((at_load_bool Ag4 Sz4 a5) w' hw')) hS ?_
 refine x_p 7 (.bool x8) rfl (by kernel_rfl)  (fun _ => y_move rfl) (fun _ => hS) ?_
 rcases bif_some hs with ⟨a0, hs⟩ | ⟨a0, hs⟩
 ·skip
  refine x_ly 8 (.pointer (some ⟨vg1, 0, none⟩)) rfl (by kernel_rfl) (tg := 11) (by kernel_rfl) (congrArg Value.bool a0) (fun w' hw' => y_load rfl ((box_load Ag52 Sz52 hb0.1 [] [(.pointer (some ⟨vg1, 0, none⟩))] [] rfl rfl (fun _ => rfl)) w' hw')) hS ?_
  refine x_py 9 (.pointer (some ⟨vg1, 0, none⟩)) rfl (by kernel_rfl) (tg := 11) (by kernel_rfl) (congrArg Value.bool a0) (fun _ => y_nilc rfl) (fun _ => hS) ?_
  refine x_py 10 (.pointer (some ⟨vg1, 3, none⟩)) rfl (by kernel_rfl) (tg := 11) (by kernel_rfl) (congrArg Value.bool a0) (fun _ => y_faddr rfl Fa58x3) (fun _ => hS) ?_
  refine x_ly 11 (.slice va1x3 vn1x3 vc1x3) rfl (by kernel_rfl) (tg := 11) (by kernel_rfl) (congrArg Value.bool a0) (fun w' hw' => y_load rfl ((box_load Ag47 Sz47 hb1.1 [(.int .i64 b1.1), (.slice va1x1 vn1x1 vc1x1), (.slice va1x2 vn1x2 vc1x2)] [(.slice va1x3 vn1x3 vc1x3)] [(.slice va1x4 vn1x4 vc1x4), (.int .i64 b1.2.2.2.2.2.1), (.int .i64 b1.2.2.2.2.2.2)] rfl rfl (fun _ => rfl)) w' hw')) hS ?_
  refine x_py 12 (.int .i64 f) rfl (by kernel_rfl) (tg := 11) (by kernel_rfl) (congrArg Value.bool a0) (fun _ => y_move rfl) (fun _ => hS) ?_
  obtain ⟨x11, b6, hs⟩ := bind_some hs
  obtain ⟨b7, b8, b9, a6⟩ := rs_idx Sl47 Sz37 hl1x3 b6
  refine x_py 13 (.pointer (some ⟨b7, b8, none⟩)) rfl (by kernel_rfl) (tg := 11) (by kernel_rfl) (congrArg Value.bool a0) (fun _ => b9 _ _ _ _ _ _ _ _ _ rfl rfl) (fun _ => hS) ?_
  obtain ⟨d0, c0, a4⟩ := at_load Ag37 Sz37 (fun _ => rfl) a6
  obtain ⟨c1, c2, c3, rfl⟩ := rs_sl a4
  refine x_ly 14 (.slice c1 c2 c3) rfl (by kernel_rfl) (tg := 11) (by kernel_rfl) (congrArg Value.bool a0) (fun w' hw' => y_load rfl (c0 w' hw')) hS ?_
  refine x_ly 15 (.pointer (some ⟨vg1, 0, none⟩)) rfl (by kernel_rfl) (tg := 11) (by kernel_rfl) (congrArg Value.bool a0) (fun w' hw' => y_load rfl ((box_load Ag52 Sz52 hb0.1 [] [(.pointer (some ⟨vg1, 0, none⟩))] [] rfl rfl (fun _ => rfl)) w' hw')) hS ?_
  refine x_py 16 (.pointer (some ⟨vg1, 0, none⟩)) rfl (by kernel_rfl) (tg := 11) (by kernel_rfl) (congrArg Value.bool a0) (fun _ => y_nilc rfl) (fun _ => hS) ?_
  refine x_py 17 (.pointer (some ⟨vg1, 0, none⟩)) rfl (by kernel_rfl) (tg := 11) (by kernel_rfl) (congrArg Value.bool a0) (fun _ => y_faddr rfl Fa58x0) (fun _ => hS) ?_
  refine x_ly 18 (.int .i64 b1.1) rfl (by kernel_rfl) (tg := 11) (by kernel_rfl) (congrArg Value.bool a0) (fun w' hw' => y_load rfl ((box_load Ag3 Sz3 hb1.1 [] [(.int .i64 b1.1)] [(.slice va1x1 vn1x1 vc1x1), (.slice va1x2 vn1x2 vc1x2), (.slice va1x3 vn1x3 vc1x3), (.slice va1x4 vn1x4 vc1x4), (.int .i64 b1.2.2.2.2.2.1), (.int .i64 b1.2.2.2.2.2.2)] rfl rfl (fun _ => rfl)) w' hw')) hS ?_
  refine x_one (i := 19) (by kernel_rfl) ?_
  obtain ⟨r16, c4, hs⟩ := bind_some hs
  refine xk_cally (b := false) rfl (tg := 11) (by kernel_rfl) (congrArg Value.bool a0) Bd42 rfl (c_impl_firsts (M := M) b1.1  hO.fut c4) rfl (by rintro _ _ _ ⟨c5, c6, c7, a8, rfl, a2, a7, a9⟩; exact hS.ext a2) ?_
  rintro _ d1 ⟨c5, c6, c7, a8, rfl, a2, a7, a9⟩
  have hb0 := hb0.ext a2
  have hl1x1 := hl1x1.ext a2
  have hl1x2 := hl1x2.ext a2
  have hl1x3 := hl1x3.ext a2
  have hl1x4 := hl1x4.ext a2
  have hb1 := hb1.ext a2
  have a4 := a4.ext a2
  have a5 := at_ext a5 a2
  have a6 := at_ext a6 a2
  have hC := hC.ext a2
  have hO := Own.join0 hO a2 a9
  have hO := hO.perm (R := a8 ++ ([])) (by simp)
  have hS := hS.ext a2
  refine x_one (i := 20) (by kernel_rfl) ?_
  obtain ⟨r19, c8, hs⟩ := bind_some hs
  refine xk_cally (b := false) rfl (tg := 11) (by kernel_rfl) (congrArg Value.bool a0) Bd45 rfl (c_impl_sameList (M := (Less M a8)) x11 r16 (a4.sub Less.sub) (((Frz.os Frz.int)).val a7 Less.sub Less.not) hO.less.fut c8) rfl (by rintro _ _ _ ⟨rfl, a1⟩; exact hS.ext a1) ?_
  rintro _ d2 ⟨rfl, a1⟩
  have hb0 := hb0.ext a1
  have hl1x1 := hl1x1.ext a1
  have hl1x2 := hl1x2.ext a1
  have hl1x3 := hl1x3.ext a1
  have hl1x4 := hl1x4.ext a1
  have hb1 := hb1.ext a1
  have a4 := a4.ext a1
  have a7 := a7.ext a1
  have a5 := at_ext a5 a1
  have a6 := at_ext a6 a1
  have hC := hC.ext a1
  have hO := hO.ext a1
  have hS := hS.ext a1
  refine x_p 21 (.bool r19) rfl (by kernel_rfl)  (fun _ => y_pick_t (congrArg Value.bool a0) rfl) (fun _ => hS) ?_
  refine x_p 22 (.bool r19) rfl (by kernel_rfl)  (fun _ => y_assign rfl) (fun _ => hS) ?_
  refine x_end (by kernel_rfl) ?_
  clear hS
  refine wp_ret ?_
  cases hs
  exact ⟨_, fr_ovl 26 ⟨rfl, trivial⟩, hC⟩
 refine x_pn 8 rfl (by kernel_rfl) (tg := 11) (by kernel_rfl) (congrArg Value.bool a0) (fun _ => hS) ?_
 refine x_pn 9 rfl (by kernel_rfl) (tg := 11) (by kernel_rfl) (congrArg Value.bool a0) (fun _ => hS) ?_
 refine x_pn 10 rfl (by kernel_rfl) (tg := 11) (by kernel_rfl) (congrArg Value.bool a0) (fun _ => hS) ?_
 refine x_pn 11 rfl (by kernel_rfl) (tg := 11) (by kernel_rfl) (congrArg Value.bool a0) (fun _ => hS) ?_
 refine x_pn 12 rfl (by kernel_rfl) (tg := 11) (by kernel_rfl) (congrArg Value.bool a0) (fun _ => hS) ?_
 refine x_pn 13 rfl (by kernel_rfl) (tg := 11) (by kernel_rfl) (congrArg Value.bool a0) (fun _ => hS) ?_
 refine x_pn 14 rfl (by kernel_rfl) (tg := 11) (by kernel_rfl) (congrArg Value.bool a0) (fun _ => hS) ?_
 refine x_pn 15 rfl (by kernel_rfl) (tg := 11) (by kernel_rfl) (congrArg Value.bool a0) (fun _ => hS) ?_
 refine x_pn 16 rfl (by kernel_rfl) (tg := 11) (by kernel_rfl) (congrArg Value.bool a0) (fun _ => hS) ?_
 refine x_pn 17 rfl (by kernel_rfl) (tg := 11) (by kernel_rfl) (congrArg Value.bool a0) (fun _ => hS) ?_
 refine x_pn 18 rfl (by kernel_rfl) (tg := 11) (by kernel_rfl) (congrArg Value.bool a0) (fun _ => hS) ?_
 refine x_pn 19 rfl (by kernel_rfl) (tg := 11) (by kernel_rfl) (congrArg Value.bool a0) (fun _ => hS) ?_
 refine x_pn 20 rfl (by kernel_rfl) (tg := 11) (by kernel_rfl) (congrArg Value.bool a0) (fun _ => hS) ?_
 refine x_p 21 (.bool false) rfl (by kernel_rfl)  (fun _ => y_pick_f (congrArg Value.bool a0) rfl) (fun _ => hS) ?_
 refine x_p 22 (.bool false) rfl (by kernel_rfl)  (fun _ => y_assign rfl) (fun _ => hS) ?_
 refine x_end (by kernel_rfl) ?_
 clear hS
 refine wp_ret ?_
 cases hs
 exact ⟨_, fr_ovl 26 ⟨rfl, trivial⟩, hC⟩

theorem Bd100 : Bodied Try.prog 100 := bodied Try.func100 (by kernel_rfl) rfl

theorem Fa105x2 : ∀ (a : Addr) (w : World), (Instr.fieldAt 105 (.pointer (some a)) 2).run Try.prog w = .ok (.pointer (some (a.add 2))) w := fun _ _ => by kernel_rfl

theorem Bd89 : Bodied Try.prog 89 := bodied Try.func89 (by kernel_rfl) rfl

def k_impl_chainer__direct_2__g (M : Nat → Prop) (w0 : World) (r : Bool) (a : Act) (w : World) : Prop :=
  ∃ (σ : Nat → Value) , a = fr 26 (ovl σ [(3, (.bool r))]) ∧ Chg [] w0 w
def s_impl_chainer__direct_2__g (f : Int) (b1 : Int × (List (List Int)) × (List Bool) × (List (List Int)) × (List (List Int)) × Int × Int) : Option (Bool) :=
  (idx b1.2.2.1 f).bind fun x8 =>
  (bif x8 then (idx b1.2.2.2.2.1 f).bind fun x11 =>
  (s_impl_seconds b1.1).bind fun r16 =>
  (s_impl_sameList x11 r16).bind fun r19 =>
  some r19 else some false)
set_option maxHeartbeats 4000000 in
theorem c_impl_chainer__direct_2__g {M : Nat → Prop} {w : World} {vg0 : Nat} {vg1 : Nat} {va1x1 : Option Addr} {vn1x1 vc1x1 : Nat} {va1x2 : Option Addr} {vn1x2 vc1x2 : Nat} {va1x3 : Option Addr} {vn1x3 vc1x3 : Nat} {va1x4 : Option Addr} {vn1x4 vc1x4 : Nat} (f : Int) (b1 : Int × (List (List Int)) × (List Bool) × (List (List Int)) × (List (List Int)) × Int × Int) (hb0 : RBox M w vg0 52 [(.pointer (some ⟨vg1, 0, none⟩))]) (hb1 : RBox M w vg1 58 [(.int .i64 b1.1), (.slice va1x1 vn1x1 vc1x1), (.slice va1x2 vn1x2 vc1x2), (.slice va1x3 vn1x3 vc1x3), (.slice va1x4 vn1x4 vc1x4), (.int .i64 b1.2.2.2.2.2.1), (.int .i64 b1.2.2.2.2.2.2)]) (hl1x1 : (RT.rs (RT.rs (RT.int .i64))).val M w (.slice va1x1 vn1x1 vc1x1) b1.2.1 ([])) (hl1x2 : (RT.rs RT.bool).val M w (.slice va1x2 vn1x2 vc1x2) b1.2.2.1 ([])) (hl1x3 : (RT.rs (RT.rs (RT.int .i64))).val M w (.slice va1x3 vn1x3 vc1x3) b1.2.2.2.1 ([])) (hl1x4 : (RT.rs (RT.rs (RT.int .i64))).val M w (.slice va1x4 vn1x4 vc1x4) b1.2.2.2.2.1 ([])) (hM : ∀ g, w.heap.size ≤ g → M g) {r : Bool} (hs : s_impl_chainer__direct_2__g f b1 = some r) :
    Gives Try.prog 101 [(.int .i64 f), (.pointer (some ⟨vg0, 0, none⟩))] w (fun v w' => v = (.bool r) ∧ Chg [] w w') := by
 refine calls_fr Try.func101 rfl Try.ntmps101 (Nat.le_of_ble_eq_true rfl) ?_
 have hO := Own.start (N := Nw w []) hM Nw.fut
 have hC := Chg.refl [] w
 unfold s_impl_chainer__direct_2__g at hs
 refine wp_mono (Q := KPost (k_impl_chainer__direct_2__g M w r)) ?_ (fun e a c9 h => ?_)
 rotate_left
 ·cases e
  case ret =>
   obtain ⟨σ, rfl, hrest⟩ := h
   exact ret1x Try.results101 (res_tmp rfl) ⟨rfl, hrest⟩
  all_goals exact (h : False).elim
 refine c_sr ?_
 refine pl_val (.bool false) (y_assign rfl) ?_
 refine c_nil ?_
 refine c_seq ?_
 refine x_start [] Mx rfl ?_
 have a3 := Chg.drew w
 generalize World.drew w = b0 at a3 ⊢
 have hb0 := hb0.ext a3
 have hl1x1 := hl1x1.ext a3
 have hl1x2 := hl1x2.ext a3
 have hl1x3 := hl1x3.ext a3
 have hl1x4 := hl1x4.ext a3
 have hb1 := hb1.ext a3
 have hC := hC.ext a3
 have hO := hO.ext a3
 have hS := Chg.refl [] b0
 refine x_l 0 (.pointer (some ⟨vg1, 0, none⟩)) rfl (by kernel_rfl)  (fun w' hw' => y_load rfl ((box_load Ag52 Sz52 hb0.1 [] [(.pointer (some ⟨vg1, 0, none⟩))] [] rfl rfl (fun _ => rfl)) w' hw')) hS ?_
 refine x_p 1 (.pointer (some ⟨vg1, 0, none⟩)) rfl (by kernel_rfl)  (fun _ => y_nilc rfl) (fun _ => hS) ?_
 refine x_p 2 (.pointer (some ⟨vg1, 2, none⟩)) rfl (by kernel_rfl)  (fun _ => y_faddr rfl Fa58x2) (fun _ => hS) ?_
 refine x_l 3 (.slice va1x2 vn1x2 vc1x2) rfl (by kernel_rfl)  (fun w' hw' => y_load rfl ((box_load Ag56 Sz56 hb1.1 [(.int .i64 b1.1), (.slice va1x1 vn1x1 vc1x1)] [(.slice va1x2 vn1x2 vc1x2)] [(.slice va1x3 vn1x3 vc1x3), (.slice va1x4 vn1x4 vc1x4), (.int .i64 b1.2.2.2.2.2.1), (.int .i64 b1.2.2.2.2.2.2)] rfl rfl (fun _ => rfl)) w' hw')) hS ?_
 refine x_p 4 (.int .i64 f) rfl (by kernel_rfl)  (fun _ => y_move rfl) (fun _ => hS) ?_
 obtain ⟨x8, b2, hs⟩ := bind_some hs
 obtain ⟨b3, b4, b5, a5⟩ := rs_idx Sl56 Sz4 hl1x2 b2
 refine x_p 5 (.pointer (some ⟨b3, b4, none⟩)) rfl (by kernel_rfl)  (fun _ => b5 _ _ _ _ _ _ _ _ _ rfl rfl) (fun _ => hS) ?_
 refine x_l 6 (.bool x8) rfl (by kernel_rfl)  (fun w' hw' => y_load rfl ((at_load_bool Ag4 Sz4 a5) w' hw')) hS ?_
 refine x_p 7 (.bool x8) rfl (by kernel_rfl)  (fun _ => y_move rfl) (fun _ => hS) ?_
 rcases bif_some hs with ⟨a0, hs⟩ | ⟨a0, hs⟩
 ·skip
  refine x_ly 8 (.pointer (some ⟨vg1, 0, none⟩)) rfl (by kernel_rfl) (tg := 11) (by kernel_rfl) (congrArg Value.bool a0) (fun w' hw' => y_load rfl ((box_load Ag52 Sz52 hb0.1 [] [(.pointer (some ⟨vg1, 0, none⟩))] [] rfl rfl (fun _ => rfl)) w' hw')) hS ?_
  refine x_py 9 (.pointer (some ⟨vg1, 0, none⟩)) rfl (by kernel_rfl) (tg := 11) (by kernel_rfl) (congrArg Value.bool a0) (fun _ => y_nilc rfl) (fun _ => hS) ?_
  refine x_py 10 (.pointer (some ⟨vg1, 4, none⟩)) rfl (by kernel_rfl) (tg := 11) (by kernel_rfl) (congrArg Value.bool a0) (fun _ => y_faddr rfl Fa58x4) (fun _ => hS) ?_
  refine x_ly 11 (.slice va1x4 vn1x4 vc1x4) rfl (by kernel_rfl) (tg := 11) (by kernel_rfl) (congrArg Value.bool a0) (fun w' hw' => y_load rfl ((box_load Ag47 Sz47 hb1.1 [(.int .i64 b1.1), (.slice va1x1 vn1x1 vc1x1), (.slice va1x2 vn1x2 vc1x2), (.slice va1x3 vn1x3 vc1x3)] [(.slice va1x4 vn1x4 vc1x4)] [(.int .i64 b1.2.2.2.2.2.1), (.int .i64 b1.2.2.2.2.2.2)] rfl rfl (fun _ => rfl)) w' hw')) hS ?_
  refine x_py 12 (.int .i64 f) rfl (by kernel_rfl) (tg := 11) (by kernel_rfl) (congrArg Value.bool a0) (fun _ => y_move rfl) (fun _ => hS) ?_
  obtain ⟨x11, b6, hs⟩ := bind_some hs
  obtain ⟨b7, b8, b9, a6⟩ := rs_idx Sl47 Sz37 hl1x4 b6
  refine x_py 13 (.pointer (some ⟨b7, b8, none⟩)) rfl (by kernel_rfl) (tg := 11) (by kernel_rfl) (congrArg Value.bool a0) (fun _ => b9 _ _ _ _ _ _ _ _ _ rfl rfl) (fun _ => hS) ?_
  obtain ⟨d0, c0, a4⟩ := at_load Ag37 Sz37 (fun _ => rfl) a6
  obtain ⟨c1, c2, c3, rfl⟩ := rs_sl a4
  refine x_ly 14 (.slice c1 c2 c3) rfl (by kernel_rfl) (tg := 11) (by kernel_rfl) (congrArg Value.bool a0) (fun w' hw' => y_load rfl (c0 w' hw')) hS ?_
  refine x_ly 15 (.pointer (some ⟨vg1, 0, none⟩)) rfl (by kernel_rfl) (tg := 11) (by kernel_rfl) (congrArg Value.bool a0) (fun w' hw' => y_load rfl ((box_load Ag52 Sz52 hb0.1 [] [(.pointer (some ⟨vg1, 0, none⟩))] [] rfl rfl (fun _ => rfl)) w' hw')) hS ?_
  refine x_py 16 (.pointer (some ⟨vg1, 0, none⟩)) rfl (by kernel_rfl) (tg := 11) (by kernel_rfl) (congrArg Value.bool a0) (fun _ => y_nilc rfl) (fun _ => hS) ?_
  refine x_py 17 (.pointer (some ⟨vg1, 0, none⟩)) rfl (by kernel_rfl) (tg := 11) (by kernel_rfl) (congrArg Value.bool a0) (fun _ => y_faddr rfl Fa58x0) (fun _ => hS) ?_
  refine x_ly 18 (.int .i64 b1.1) rfl (by kernel_rfl) (tg := 11) (by kernel_rfl) (congrArg Value.bool a0) (fun w' hw' => y_load rfl ((box_load Ag3 Sz3 hb1.1 [] [(.int .i64 b1.1)] [(.slice va1x1 vn1x1 vc1x1), (.slice va1x2 vn1x2 vc1x2), (.slice va1x3 vn1x3 vc1x3), (.slice va1x4 vn1x4 vc1x4), (.int .i64 b1.2.2.2.2.2.1), (.int .i64 b1.2.2.2.2.2.2)] rfl rfl (fun _ => rfl)) w' hw')) hS ?_
  refine x_one (i := 19) (by kernel_rfl) ?_
  obtain ⟨r16, c4, hs⟩ := bind_some hs
  refine xk_cally (b := false) rfl (tg := 11) (by kernel_rfl) (congrArg Value.bool a0) Bd89 rfl (c_impl_seconds (M := M) b1.1  hO.fut c4) rfl (by rintro _ _ _ ⟨c5, c6, c7, a8, rfl, a2, a7, a9⟩; exact hS.ext a2) ?_
  rintro _ d1 ⟨c5, c6, c7, a8, rfl, a2, a7, a9⟩
  have hb0 := hb0.ext a2
  have hl1x1 := hl1x1.ext a2
  have hl1x2 := hl1x2.ext a2
  have hl1x3 := hl1x3.ext a2
  have hl1x4 := hl1x4.ext a2
  have hb1 := hb1.ext a2
  have a4 := a4.ext a2
  have a5 := at_ext a5 a2
  have a6 := at_ext a6 a2
  have hC := hC.ext a2
  have hO := Own.join0 hO a2 a9
  have hO := hO.perm (R := a8 ++ ([])) (by simp)
  have hS := hS.ext a2
  refine x_one (i := 20) (by kernel_rfl) ?_
  obtain ⟨r19, c8, hs⟩ := bind_some hs
  refine xk_cally (b := false) rfl (tg := 11) (by kernel_rfl) (congrArg Value.bool a0) Bd45 rfl (c_impl_sameList (M := (Less M a8)) x11 r16 (a4.sub Less.sub) (((Frz.os Frz.int)).val a7 Less.sub Less.not) hO.less.fut c8) rfl (by rintro _ _ _ ⟨rfl, a1⟩; exact hS.ext a1) ?_
  rintro _ d2 ⟨rfl, a1⟩
  have hb0 := hb0.ext a1
  have hl1x1 := hl1x1.ext a1
  have hl1x2 := hl1x2.ext a1
  have hl1x3 := hl1x3.ext a1
  have hl1x4 := hl1x4.ext a1
  have hb1 := hb1.ext a1
  have a4 := a4.ext a1
  have a7 := a7.ext a1
  have a5 := at_ext a5 a1
  have a6 := at_ext a6 a1
  have hC := hC.ext a1
  have hO := hO.ext a1
  have hS := hS.ext a1
  refine x_p 21 (.bool r19) rfl (by kernel_rfl)  (fun _ => y_pick_t (congrArg Value.bool a0) rfl) (fun _ => hS) ?_
  refine x_p 22 (.bool r19) rfl (by kernel_rfl)  (fun _ => y_assign rfl) (fun _ => hS) ?_
  refine x_end (by kernel_rfl) ?_
  clear hS
  refine wp_ret ?_
  cases hs
  exact ⟨_, fr_ovl 26 ⟨rfl, trivial⟩, hC⟩
 refine x_pn 8 rfl (by kernel_rfl) (tg := 11) (by kernel_rfl) (congrArg Value.bool a0) (fun _ => hS) ?_
 refine x_pn 9 rfl (by kernel_rfl) (tg := 11) (by kernel_rfl) (congrArg Value.bool a0) (fun _ => hS) ?_
 refine x_pn 10 rfl (by kernel_rfl) (tg := 11) (by kernel_rfl) (congrArg Value.bool a0) (fun _ => hS) ?_
 refine x_pn 11 rfl (by kernel_rfl) (tg := 11) (by kernel_rfl) (congrArg Value.bool a0) (fun _ => hS) ?_
 refine x_pn 12 rfl (by kernel_rfl) (tg := 11) (by kernel_rfl) (congrArg Value.bool a0) (fun _ => hS) ?_
 refine x_pn 13 rfl (by kernel_rfl) (tg := 11) (by kernel_rfl) (congrArg Value.bool a0) (fun _ => hS) ?_
 refine x_pn 14 rfl (by kernel_rfl) (tg := 11) (by kernel_rfl) (congrArg Value.bool a0) (fun _ => hS) ?_
 refine x_pn 15 rfl (by kernel_rfl) (tg := 11) (by kernel_rfl) (congrArg Value.bool a0) (fun _ => hS) ?_
 refine x_pn 16 rfl (by kernel_rfl) (tg := 11) (by kernel_rfl) (congrArg Value.bool a0) (fun _ => hS) ?_
 refine x_pn 17 rfl (by kernel_rfl) (tg := 11) (by kernel_rfl) (congrArg Value.bool a0) (fun _ => hS) ?_
 refine x_pn 18 rfl (by kernel_rfl) (tg := 11) (by kernel_rfl) (congrArg Value.bool a0) (fun _ => hS) ?_
 refine x_pn 19 rfl (by kernel_rfl) (tg := 11) (by kernel_rfl) (congrArg Value.bool a0) (fun _ => hS) ?_
 refine x_pn 20 rfl (by kernel_rfl) (tg := 11) (by kernel_rfl) (congrArg Value.bool a0) (fun _ => hS) ?_
 refine x_p 21 (.bool false) rfl (by kernel_rfl)  (fun _ => y_pick_f (congrArg Value.bool a0) rfl) (fun _ => hS) ?_
 refine x_p 22 (.bool false) rfl (by kernel_rfl)  (fun _ => y_assign rfl) (fun _ => hS) ?_
 refine x_end (by kernel_rfl) ?_
 clear hS
 refine wp_ret ?_
 cases hs
 exact ⟨_, fr_ovl 26 ⟨rfl, trivial⟩, hC⟩

theorem Bd101 : Bodied Try.prog 101 := bodied Try.func101 (by kernel_rfl) rfl

def k_impl_isChain__chainer__direct_1_chainer__direct_2_chainer__direct_3 (M : Nat → Prop) (w0 : World) (r : Bool) (a : Act) (w : World) : Prop :=
  ∃ (σ : Nat → Value) , a = fr 62 (ovl σ [(6, (.bool r))]) ∧ Chg [] w0 w
def s_impl_isChain__chainer__direct_1_chainer__direct_2_chainer__direct_3 (l : Int × Unit × Unit × Unit) (places : List Int) (most : Int) (b1 : Int × (List (List Int)) × (List Bool) × (List (List Int)) × (List (List Int)) × Int × Int) : Option (Bool) :=
  ((bif (decide ((places.length : Int) < l.1)) then some true else (bif (decide (most < (places.length : Int))) then some true else (s_impl_hasNot places (-1)).bind fun r15 =>
  some (!r15)))).bind fun s9 =>
  (bif s9 then some false else (forC (S := Unit) (R := Bool) (fun k27 s25 =>
  (idx places (w64 (k27 - 1))).bind fun x32 =>
  (idx places k27).bind fun x34 =>
  (s_impl_chainer__direct_3__g (w64 (k27 - 1)) x32 x34 (b1.1, b1.2.1, b1.2.2.1, b1.2.2.2.1, b1.2.2.2.2.1, b1.2.2.2.2.2.1, b1.2.2.2.2.2.2)).bind fun r37 =>
  (bif (!r37) then some (.rt false) else some (.nx ()))) 1 (places.length : Int) ()).bind fun o29 => after o29 (fun r_ => some r_) (fun s25 =>
  (idx places 0).bind fun x40 =>
  (s_impl_chainer__direct_1__g x40 (b1.1, b1.2.1, b1.2.2.1, b1.2.2.2.1, b1.2.2.2.2.1, b1.2.2.2.2.2.1, b1.2.2.2.2.2.2)).bind fun r43 =>
  (bif r43 then (idx places (w64 ((places.length : Int) - 1))).bind fun x45 =>
  (s_impl_chainer__direct_2__g x45 (b1.1, b1.2.1, b1.2.2.1, b1.2.2.2.1, b1.2.2.2.2.1, b1.2.2.2.2.2.1, b1.2.2.2.2.2.2)).bind fun r48 =>
  some r48 else some false)))
set_option maxHeartbeats 4000000 in
theorem c_impl_isChain__chainer__direct_1_chainer__direct_2_chainer__direct_3 {M : Nat → Prop} {w : World} {vg0 : Nat} {vg1 : Nat} {pa0 : Option Addr} {pn0 pc0 : Nat} {va1x1 : Option Addr} {vn1x1 vc1x1 : Nat} {va1x2 : Option Addr} {vn1x2 vc1x2 : Nat} {va1x3 : Option Addr} {vn1x3 vc1x3 : Nat} {va1x4 : Option Addr} {vn1x4 vc1x4 : Nat} (l : Int × Unit × Unit × Unit) (places : List Int) (most : Int) (b1 : Int × (List (List Int)) × (List Bool) × (List (List Int)) × (List (List Int)) × Int × Int) (h0 : (RT.rs (RT.int .i64)).val M w (.slice pa0 pn0 pc0) places ([])) (hb0 : RBox M w vg0 52 [(.pointer (some ⟨vg1, 0, none⟩))]) (hb1 : RBox M w vg1 58 [(.int .i64 b1.1), (.slice va1x1 vn1x1 vc1x1), (.slice va1x2 vn1x2 vc1x2), (.slice va1x3 vn1x3 vc1x3), (.slice va1x4 vn1x4 vc1x4), (.int .i64 b1.2.2.2.2.2.1), (.int .i64 b1.2.2.2.2.2.2)]) (hl1x1 : (RT.rs (RT.rs (RT.int .i64))).val M w (.slice va1x1 vn1x1 vc1x1) b1.2.1 ([])) (hl1x2 : (RT.rs RT.bool).val M w (.slice va1x2 vn1x2 vc1x2) b1.2.2.1 ([])) (hl1x3 : (RT.rs (RT.rs (RT.int .i64))).val M w (.slice va1x3 vn1x3 vc1x3) b1.2.2.2.1 ([])) (hl1x4 : (RT.rs (RT.rs (RT.int .i64))).val M w (.slice va1x4 vn1x4 vc1x4) b1.2.2.2.2.1 ([])) (hM : ∀ g, w.heap.size ≤ g → M g) {r : Bool} (hs : s_impl_isChain__chainer__direct_1_chainer__direct_2_chainer__direct_3 l places most b1 = some r) :
    Gives Try.prog 96 [(.agg #[(.int .i64 l.1), (.func (.func 100) #[] #[(.pointer (some ⟨vg0, 0, none⟩))]), (.func (.func 101) #[] #[(.pointer (some ⟨vg0, 0, none⟩))]), (.func (.func 102) #[] #[(.pointer (some ⟨vg0, 0, none⟩))])]), (.slice pa0 pn0 pc0), (.int .i64 most)] w (fun v w' => v = (.bool r) ∧ Chg [] w w') := by
 refine calls_fr Try.func96 rfl Try.ntmps96 (Nat.le_of_ble_eq_true rfl) ?_
 have hO := Own.start (N := Nw w []) hM Nw.fut
 have hC := Chg.refl [] w
 unfold s_impl_isChain__chainer__direct_1_chainer__direct_2_chainer__direct_3 at hs
 refine wp_mono (Q := KPost (k_impl_isChain__chainer__direct_1_chainer__direct_2_chainer__direct_3 M w r)) ?_ (fun e a c7 h => ?_)
 rotate_left
 ·cases e
  case ret =>
   obtain ⟨σ, rfl, hrest⟩ := h
   exact ret1x Try.results96 (res_tmp rfl) ⟨rfl, hrest⟩
  all_goals exact (h : False).elim
 refine c_sr ?_
 obtain ⟨b8, a3, c8, c4, b4, a0⟩ := new_block w [(.int .i64 l.1), (.func (.func 100) #[] #[(.pointer (some ⟨vg0, 0, none⟩))]), (.func (.func 101) #[] #[(.pointer (some ⟨vg0, 0, none⟩))]), (.func (.func 102) #[] #[(.pointer (some ⟨vg0, 0, none⟩))])] 105
 refine pl_val (w' := b8) (.pointer (some ⟨a3, 0, none⟩)) (y_box rfl (by rw [c8, c4]; kernel_rfl)) ?_
 have h0 := h0.ext b4
 have hb0 := hb0.ext b4
 have hl1x1 := hl1x1.ext b4
 have hl1x2 := hl1x2.ext b4
 have hl1x3 := hl1x3.ext b4
 have hl1x4 := hl1x4.ext b4
 have hb1 := hb1.ext b4
 have hC := hC.ext b4
 have hO := hO.new1 b4 c4 a0.lt
 refine pl_val (.bool false) (y_assign rfl) ?_
 refine c_nil ?_
 refine c_seq ?_
 refine c_seq ?_
 obtain ⟨s9, c9, hs⟩ := bind_some hs
 refine c_mid (I := fun a c5 => ∃ (σ : Nat → Value), a = fr 62 (ovl σ [(1, (.slice pa0 pn0 pc0)), (3, (.pointer (some ⟨a3, 0, none⟩))), (6, (.bool false)), (23, (.bool s9))]) ∧ Chg [] b8 c5) ?_ ?_
 ·replace hs := c9
  have hMid := Chg.refl [] b8
  refine c_region ?_
  refine pl_val (.slice pa0 pn0 pc0) (y_move rfl) ?_
  refine pl_val (.int .i64 (places.length : Int)) (y_len' Sl37 (rs_len h0) rfl) ?_
  refine pl_val (.pointer (some ⟨a3, 0, none⟩)) (y_faddr rfl Fa105x0) ?_
  refine pl_val (.int .i64 l.1) (y_load rfl ((box_load Ag3 Sz3 a0 [] [(.int .i64 l.1)] [(.func (.func 100) #[] #[(.pointer (some ⟨vg0, 0, none⟩))]), (.func (.func 101) #[] #[(.pointer (some ⟨vg0, 0, none⟩))]), (.func (.func 102) #[] #[(.pointer (some ⟨vg0, 0, none⟩))])] rfl rfl (fun _ => rfl)) _ (Chg.refl _ _))) ?_
  refine pl_val (.bool (decide ((places.length : Int) < l.1))) (y_lss rfl rfl) ?_
  refine pl_val (.bool (decide ((places.length : Int) < l.1))) (y_move rfl) ?_
  rcases bif_some hs with ⟨a7, hs⟩ | ⟨a7, hs⟩
  ·skip
   refine pl_not (tg := 13) (by kernel_rfl) (congrArg Value.bool a7) ?_
   refine pl_not (tg := 13) (by kernel_rfl) (congrArg Value.bool a7) ?_
   refine pl_not (tg := 13) (by kernel_rfl) (congrArg Value.bool a7) ?_
   refine pl_not (tg := 13) (by kernel_rfl) (congrArg Value.bool a7) ?_
   refine pl_val (.bool true) (y_pick_t (congrArg Value.bool a7) rfl) ?_
   refine pl_val (.bool true) (y_move rfl) ?_
   refine pl_not (tg := 19) (by kernel_rfl) (by rfl) ?_
   refine pl_not (tg := 19) (by kernel_rfl) (by rfl) ?_
   refine pl_not (tg := 19) (by kernel_rfl) (by rfl) ?_
   refine pl_val (.bool true) (y_pick_t (by rfl) rfl) ?_
   refine c_nil ?_
   cases hs
   exact ⟨_, fr_ovl 62 ⟨rfl, rfl, rfl, rfl, trivial⟩, hMid⟩
  refine pl_yes (.slice pa0 pn0 pc0) (tg := 13) (by kernel_rfl) (congrArg Value.bool a7) (y_move rfl) ?_
  refine pl_yes (.int .i64 (places.length : Int)) (tg := 13) (by kernel_rfl) (congrArg Value.bool a7) (y_len' Sl37 (rs_len h0) rfl) ?_
  refine pl_yes (.int .i64 most) (tg := 13) (by kernel_rfl) (congrArg Value.bool a7) (y_move rfl) ?_
  refine pl_yes (.bool (decide (most < (places.length : Int)))) (tg := 13) (by kernel_rfl) (congrArg Value.bool a7) (y_gtr rfl rfl) ?_
  refine pl_val (.bool (decide (most < (places.length : Int)))) (y_pick_f (congrArg Value.bool a7) rfl) ?_
  refine pl_val (.bool (decide (most < (places.length : Int)))) (y_move rfl) ?_
  rcases bif_some hs with ⟨b5, hs⟩ | ⟨b5, hs⟩
  ·skip
   refine pl_not (tg := 19) (by kernel_rfl) (congrArg Value.bool b5) ?_
   refine pl_not (tg := 19) (by kernel_rfl) (congrArg Value.bool b5) ?_
   refine pl_not (tg := 19) (by kernel_rfl) (congrArg Value.bool b5) ?_
   refine pl_val (.bool true) (y_pick_t (congrArg Value.bool b5) rfl) ?_
   refine c_nil ?_
   cases hs
   exact ⟨_, fr_ovl 62 ⟨rfl, rfl, rfl, rfl, trivial⟩, hMid⟩
  refine pl_yes (.slice pa0 pn0 pc0) (tg := 19) (by kernel_rfl) (congrArg Value.bool b5) (y_move rfl) ?_
  obtain ⟨r15, d0, hs⟩ := bind_some hs
  refine pl_cally (tg := 19) (by kernel_rfl) (congrArg Value.bool b5) Bd114 rfl (c_impl_hasNot (M := M) places (-1) h0 hO.fut d0) ?_
  rintro _ f2 ⟨rfl, a8⟩
  have h0 := h0.ext a8
  have hb0 := hb0.ext a8
  have hl1x1 := hl1x1.ext a8
  have hl1x2 := hl1x2.ext a8
  have hl1x3 := hl1x3.ext a8
  have hl1x4 := hl1x4.ext a8
  have hb1 := hb1.ext a8
  have a0 := a0.cn a8
  have hMid := hMid.ext a8
  have hC := hC.ext a8
  have hO := hO.ext a8
  refine pl_yes (.bool (!r15)) (tg := 19) (by kernel_rfl) (congrArg Value.bool b5) (y_not rfl) ?_
  refine pl_val (.bool (!r15)) (y_pick_f (congrArg Value.bool b5) rfl) ?_
  refine c_nil ?_
  cases hs
  exact ⟨_, fr_ovl 62 ⟨rfl, rfl, rfl, rfl, trivial⟩, hMid⟩
 rintro c6 c5 ⟨σ, rfl, b3⟩
 have h0 := h0.ext b3
 have hb0 := hb0.ext b3
 have hl1x1 := hl1x1.ext b3
 have hl1x2 := hl1x2.ext b3
 have hl1x3 := hl1x3.ext b3
 have hl1x4 := hl1x4.ext b3
 have hb1 := hb1.ext b3
 have a0 := a0.cn b3
 have hC := hC.ext b3
 have hO := hO.ext b3
 rcases bif_some hs with ⟨b9, hs⟩ | ⟨b9, hs⟩
 ·refine c_condT (congrArg Value.bool b9) ?_
  refine c_sr ?_
  refine pl_val (.bool false) (y_assign rfl) ?_
  refine c_nil ?_
  refine wp_ret ?_
  cases hs
  exact ⟨_, fr_ovl 62 ⟨rfl, trivial⟩, hC⟩
 refine c_condF (congrArg Value.bool b9) ?_
 refine wp_skip ?_
 refine c_seq ?_
 refine c_sr ?_
 refine pl_val (.int .i64 1) (y_assign rfl) ?_
 refine c_nil ?_
 obtain ⟨o29, d1, hs⟩ := bind_some hs
 refine wp_block ?_
 refine wp_forC (id := 0) (places.length : Int) (I := fun k27 s25 a a1 => ∃ (σ : Nat → Value), a = fr 62 (ovl σ [(1, (.slice pa0 pn0 pc0)), (3, (.pointer (some ⟨a3, 0, none⟩))), (7, (.int .i64 k27))]) ∧ Chg [] w a1 ∧ Own (Nw w []) M a1 (([a3]) ++ []) ∧ (RT.rs (RT.int .i64)).val M a1 (.slice pa0 pn0 pc0) places ([]) ∧ RBox M a1 vg0 52 [(.pointer (some ⟨vg1, 0, none⟩))] ∧ (RT.rs (RT.rs (RT.int .i64))).val M a1 (.slice va1x1 vn1x1 vc1x1) b1.2.1 ([]) ∧ (RT.rs RT.bool).val M a1 (.slice va1x2 vn1x2 vc1x2) b1.2.2.1 ([]) ∧ (RT.rs (RT.rs (RT.int .i64))).val M a1 (.slice va1x3 vn1x3 vc1x3) b1.2.2.2.1 ([]) ∧ (RT.rs (RT.rs (RT.int .i64))).val M a1 (.slice va1x4 vn1x4 vc1x4) b1.2.2.2.2.1 ([]) ∧ RBox M a1 vg1 58 [(.int .i64 b1.1), (.slice va1x1 vn1x1 vc1x1), (.slice va1x2 vn1x2 vc1x2), (.slice va1x3 vn1x3 vc1x3), (.slice va1x4 vn1x4 vc1x4), (.int .i64 b1.2.2.2.2.2.1), (.int .i64 b1.2.2.2.2.2.2)] ∧ BoxV a1 a3 105 [(.int .i64 l.1), (.func (.func 100) #[] #[(.pointer (some ⟨vg0, 0, none⟩))]), (.func (.func 101) #[] #[(.pointer (some ⟨vg0, 0, none⟩))]), (.func (.func 102) #[] #[(.pointer (some ⟨vg0, 0, none⟩))])]) (J := fun s25 a a1 => ∃ (σ : Nat → Value), a = fr 62 (ovl σ [(1, (.slice pa0 pn0 pc0)), (3, (.pointer (some ⟨a3, 0, none⟩)))]) ∧ Chg [] w a1 ∧ Own (Nw w []) M a1 (([a3]) ++ []) ∧ (RT.rs (RT.int .i64)).val M a1 (.slice pa0 pn0 pc0) places ([]) ∧ RBox M a1 vg0 52 [(.pointer (some ⟨vg1, 0, none⟩))] ∧ (RT.rs (RT.rs (RT.int .i64))).val M a1 (.slice va1x1 vn1x1 vc1x1) b1.2.1 ([]) ∧ (RT.rs RT.bool).val M a1 (.slice va1x2 vn1x2 vc1x2) b1.2.2.1 ([]) ∧ (RT.rs (RT.rs (RT.int .i64))).val M a1 (.slice va1x3 vn1x3 vc1x3) b1.2.2.2.1 ([]) ∧ (RT.rs (RT.rs (RT.int .i64))).val M a1 (.slice va1x4 vn1x4 vc1x4) b1.2.2.2.2.1 ([]) ∧ RBox M a1 vg1 58 [(.int .i64 b1.1), (.slice va1x1 vn1x1 vc1x1), (.slice va1x2 vn1x2 vc1x2), (.slice va1x3 vn1x3 vc1x3), (.slice va1x4 vn1x4 vc1x4), (.int .i64 b1.2.2.2.2.2.1), (.int .i64 b1.2.2.2.2.2.2)] ∧ BoxV a1 a3 105 [(.int .i64 l.1), (.func (.func 100) #[] #[(.pointer (some ⟨vg0, 0, none⟩))]), (.func (.func 101) #[] #[(.pointer (some ⟨vg0, 0, none⟩))]), (.func (.func 102) #[] #[(.pointer (some ⟨vg0, 0, none⟩))])]) (K := (k_impl_isChain__chainer__direct_1_chainer__direct_2_chainer__direct_3 M w)) ?_ ?_ 1 () o29 _ _ ?_ d1 ?_
 ·rintro k27 s25 a a1 ⟨σ, rfl, hC, hO, h0, hb0, hl1x1, hl1x2, hl1x3, hl1x4, hb1, a0⟩ hlt
  refine c_seq ?_
  refine c_sr ?_
  refine pl_val (.int .i64 k27) (y_move rfl) ?_
  refine pl_val (.slice pa0 pn0 pc0) (y_move rfl) ?_
  refine pl_val (.int .i64 (places.length : Int)) (y_len' Sl37 (rs_len h0) rfl) ?_
  refine pl_val (.bool (decide (k27 < (places.length : Int)))) (y_lss rfl rfl) ?_
  refine c_nil ?_
  refine c_condF (congrArg Value.bool (decide_eq_false hlt)) ?_
  refine wp_exit ?_
  exact ⟨rfl, _, fr_ovl 62 ⟨rfl, rfl, trivial⟩, hC, hO, h0, hb0, hl1x1, hl1x2, hl1x3, hl1x4, hb1, a0⟩
 ·rintro k27 s25 o29 a a1 ⟨σ, rfl, hC, hO, h0, hb0, hl1x1, hl1x2, hl1x3, hl1x4, hb1, a0⟩ hlt hw hs
  refine c_seq ?_
  refine c_sr ?_
  refine pl_val (.int .i64 k27) (y_move rfl) ?_
  refine pl_val (.slice pa0 pn0 pc0) (y_move rfl) ?_
  refine pl_val (.int .i64 (places.length : Int)) (y_len' Sl37 (rs_len h0) rfl) ?_
  refine pl_val (.bool (decide (k27 < (places.length : Int)))) (y_lss rfl rfl) ?_
  refine c_nil ?_
  refine c_condT (congrArg Value.bool (decide_eq_true hlt)) ?_
  refine wp_skip ?_
  refine c_seq ?_
  refine wp_block ?_
  refine c_seq ?_
  refine x_start [13] Mx rfl ?_
  have a9 := Chg.drew a1
  generalize World.drew a1 = d2 at a9 ⊢
  have h0 := h0.ext a9
  have hb0 := hb0.ext a9
  have hl1x1 := hl1x1.ext a9
  have hl1x2 := hl1x2.ext a9
  have hl1x3 := hl1x3.ext a9
  have hl1x4 := hl1x4.ext a9
  have hb1 := hb1.ext a9
  have a0 := a0.cn a9
  have hC := hC.ext a9
  have hO := hO.ext a9
  have hS := Chg.refl [] d2
  refine x_p 0 (.pointer (some ⟨a3, 3, none⟩)) rfl (by kernel_rfl)  (fun _ => y_faddr rfl Fa105x3) (fun _ => hS) ?_
  refine x_l 1 (.func (.func 102) #[] #[(.pointer (some ⟨vg0, 0, none⟩))]) rfl (by kernel_rfl)  (fun w' hw' => y_load rfl ((box_load Ag73 Sz73 a0 [(.int .i64 l.1), (.func (.func 100) #[] #[(.pointer (some ⟨vg0, 0, none⟩))]), (.func (.func 101) #[] #[(.pointer (some ⟨vg0, 0, none⟩))])] [(.func (.func 102) #[] #[(.pointer (some ⟨vg0, 0, none⟩))])] [] rfl rfl (fun _ => rfl)) w' hw')) hS ?_
  refine x_p 2 (.int .i64 k27) rfl (by kernel_rfl)  (fun _ => y_move rfl) (fun _ => hS) ?_
  refine x_p 3 (.int .i64 (w64 (k27 - 1))) rfl (by kernel_rfl)  (fun _ => y_sub rfl rfl) (fun _ => hS) ?_
  refine x_p 4 (.slice pa0 pn0 pc0) rfl (by kernel_rfl)  (fun _ => y_move rfl) (fun _ => hS) ?_
  refine x_p 5 (.int .i64 k27) rfl (by kernel_rfl)  (fun _ => y_move rfl) (fun _ => hS) ?_
  refine x_p 6 (.int .i64 (w64 (k27 - 1))) rfl (by kernel_rfl)  (fun _ => y_sub rfl rfl) (fun _ => hS) ?_
  obtain ⟨x32, d3, hs⟩ := bind_some hs
  obtain ⟨d4, d5, d6, c0⟩ := rs_idx Sl37 Sz3 h0 d3
  refine x_p 7 (.pointer (some ⟨d4, d5, none⟩)) rfl (by kernel_rfl)  (fun _ => d6 _ _ _ _ _ _ _ _ _ rfl rfl) (fun _ => hS) ?_
  refine x_l 8 (.int .i64 x32) rfl (by kernel_rfl)  (fun w' hw' => y_load rfl ((at_load_int Ag3 Sz3 c0) w' hw')) hS ?_
  refine x_p 9 (.slice pa0 pn0 pc0) rfl (by kernel_rfl)  (fun _ => y_move rfl) (fun _ => hS) ?_
  refine x_p 10 (.int .i64 k27) rfl (by kernel_rfl)  (fun _ => y_move rfl) (fun _ => hS) ?_
  obtain ⟨x34, d7, hs⟩ := bind_some hs
  obtain ⟨d8, d9, e0, c1⟩ := rs_idx Sl37 Sz3 h0 d7
  refine x_p 11 (.pointer (some ⟨d8, d9, none⟩)) rfl (by kernel_rfl)  (fun _ => e0 _ _ _ _ _ _ _ _ _ rfl rfl) (fun _ => hS) ?_
  refine x_l 12 (.int .i64 x34) rfl (by kernel_rfl)  (fun w' hw' => y_load rfl ((at_load_int Ag3 Sz3 c1) w' hw')) hS ?_
  refine x_one (i := 13) (by kernel_rfl) ?_
  obtain ⟨r37, e1, hs⟩ := bind_some hs
  refine xk_callb (b := true) rfl  rfl Bd102 rfl (c_impl_chainer__direct_3__g (M := M) (w64 (k27 - 1)) x32 x34 (b1.1, b1.2.1, b1.2.2.1, b1.2.2.2.1, b1.2.2.2.2.1, b1.2.2.2.2.2.1, b1.2.2.2.2.2.2) (show RBox M _ vg0 52 [(.pointer (some ⟨vg1, 0, none⟩))] from hb0) (show RBox M _ vg1 58 [(.int .i64 b1.1), (.slice va1x1 vn1x1 vc1x1), (.slice va1x2 vn1x2 vc1x2), (.slice va1x3 vn1x3 vc1x3), (.slice va1x4 vn1x4 vc1x4), (.int .i64 b1.2.2.2.2.2.1), (.int .i64 b1.2.2.2.2.2.2)] from hb1) hl1x1 hl1x2 hl1x3 hl1x4 hO.fut e1) rfl (fun h => nomatch h) ?_
  rintro _ f3 ⟨rfl, a4⟩
  have hO := hO.perm (R := [] ++ (([a3]) ++ ([]))) (by simp)
  have h0 := h0.ext a4
  have hb0 := hb0.ext a4
  have hl1x1 := hl1x1.ext a4
  have hl1x2 := hl1x2.ext a4
  have hl1x3 := hl1x3.ext a4
  have hl1x4 := hl1x4.ext a4
  have hb1 := hb1.ext a4
  have a0 := a0.cn a4
  have c0 := at_ext c0 a4
  have c1 := at_ext c1 a4
  have hC := hC.ext a4
  have hO := hO.ext a4
  have hO := hO.perm (R := ([a3]) ++ ([])) (by simp)
  refine x_p 14 (.bool (!r37)) rfl (by kernel_rfl)  (fun _ => y_not rfl) (fun h => nomatch h) ?_
  refine x_end (by kernel_rfl) ?_
  clear hS
  rcases bif_some hs with ⟨c2, hs⟩ | ⟨c2, hs⟩
  ·refine c_condT (congrArg Value.bool c2) ?_
   refine c_sr ?_
   refine pl_val (.bool false) (y_assign rfl) ?_
   refine c_nil ?_
   refine wp_ret ?_
   cases hs
   exact ⟨_, fr_ovl 62 ⟨rfl, trivial⟩, hC⟩
  refine c_condF (congrArg Value.bool c2) ?_
  refine wp_skip ?_
  refine c_region ?_
  refine pl_val (.int .i64 k27) (y_move rfl) ?_
  refine pl_val (.int .i64 (w64 (k27 + 1))) (y_add rfl rfl) ?_
  refine pl_val (.int .i64 (w64 (k27 + 1))) (y_assign rfl) ?_
  refine c_nil ?_
  cases hs
  exact ⟨_, fr_ovl 62 ⟨rfl, rfl, congrArg (Value.int .i64) hw, trivial⟩, hC, hO, h0, hb0, hl1x1, hl1x2, hl1x3, hl1x4, hb1, a0⟩
 ·skip
  exact ⟨_, fr_ovl 62 ⟨rfl, rfl, rfl, trivial⟩, hC, hO, h0, hb0, hl1x1, hl1x2, hl1x3, hl1x4, hb1, a0⟩
 cases o29 with
 | nx _ => exact True.intro
 | rt r_ =>
  have hs := after_rt hs
  intro c6 c7 hK
  cases hs
  exact hK
 | br s25 =>
  have hs := after_br hs
  rintro c6 a1 ⟨σ, rfl, hC, hO, h0, hb0, hl1x1, hl1x2, hl1x3, hl1x4, hb1, a0⟩
  refine c_seq ?_
  refine x_start [5, 15] Mx rfl ?_
  have b0 := Chg.drew a1
  generalize World.drew a1 = e2 at b0 ⊢
  have h0 := h0.ext b0
  have hb0 := hb0.ext b0
  have hl1x1 := hl1x1.ext b0
  have hl1x2 := hl1x2.ext b0
  have hl1x3 := hl1x3.ext b0
  have hl1x4 := hl1x4.ext b0
  have hb1 := hb1.ext b0
  have a0 := a0.cn b0
  have hC := hC.ext b0
  have hO := hO.ext b0
  have hS := Chg.refl [] e2
  refine x_p 0 (.pointer (some ⟨a3, 1, none⟩)) rfl (by kernel_rfl)  (fun _ => y_faddr rfl Fa105x1) (fun _ => hS) ?_
  refine x_l 1 (.func (.func 100) #[] #[(.pointer (some ⟨vg0, 0, none⟩))]) rfl (by kernel_rfl)  (fun w' hw' => y_load rfl ((box_load Ag61 Sz61 a0 [(.int .i64 l.1)] [(.func (.func 100) #[] #[(.pointer (some ⟨vg0, 0, none⟩))])] [(.func (.func 101) #[] #[(.pointer (some ⟨vg0, 0, none⟩))]), (.func (.func 102) #[] #[(.pointer (some ⟨vg0, 0, none⟩))])] rfl rfl (fun _ => rfl)) w' hw')) hS ?_
  refine x_p 2 (.slice pa0 pn0 pc0) rfl (by kernel_rfl)  (fun _ => y_move rfl) (fun _ => hS) ?_
  obtain ⟨x40, e3, hs⟩ := bind_some hs
  obtain ⟨e4, e5, e6, b6⟩ := rs_idx Sl37 Sz3 h0 e3
  refine x_p 3 (.pointer (some ⟨e4, e5, none⟩)) rfl (by kernel_rfl)  (fun _ => e6 _ _ _ _ _ _ _ _ _ rfl rfl) (fun _ => hS) ?_
  refine x_l 4 (.int .i64 x40) rfl (by kernel_rfl)  (fun w' hw' => y_load rfl ((at_load_int Ag3 Sz3 b6) w' hw')) hS ?_
  refine x_one (i := 5) (by kernel_rfl) ?_
  obtain ⟨r43, e7, hs⟩ := bind_some hs
  refine xk_callb (b := true) rfl  rfl Bd100 rfl (c_impl_chainer__direct_1__g (M := M) x40 (b1.1, b1.2.1, b1.2.2.1, b1.2.2.2.1, b1.2.2.2.2.1, b1.2.2.2.2.2.1, b1.2.2.2.2.2.2) (show RBox M _ vg0 52 [(.pointer (some ⟨vg1, 0, none⟩))] from hb0) (show RBox M _ vg1 58 [(.int .i64 b1.1), (.slice va1x1 vn1x1 vc1x1), (.slice va1x2 vn1x2 vc1x2), (.slice va1x3 vn1x3 vc1x3), (.slice va1x4 vn1x4 vc1x4), (.int .i64 b1.2.2.2.2.2.1), (.int .i64 b1.2.2.2.2.2.2)] from hb1) hl1x1 hl1x2 hl1x3 hl1x4 hO.fut e7) rfl (fun h => nomatch h) ?_
  rintro _ f4 ⟨rfl, b2⟩
  have hO := hO.perm (R := [] ++ (([a3]) ++ ([]))) (by simp)
  have h0 := h0.ext b2
  have hb0 := hb0.ext b2
  have hl1x1 := hl1x1.ext b2
  have hl1x2 := hl1x2.ext b2
  have hl1x3 := hl1x3.ext b2
  have hl1x4 := hl1x4.ext b2
  have hb1 := hb1.ext b2
  have a0 := a0.cn b2
  have b6 := at_ext b6 b2
  have hC := hC.ext b2
  have hO := hO.ext b2
  have hO := hO.perm (R := ([a3]) ++ ([])) (by simp)
  refine x_p 6 (.bool r43) rfl (by kernel_rfl)  (fun _ => y_move rfl) (fun h => nomatch h) ?_
  rcases bif_some hs with ⟨a2, hs⟩ | ⟨a2, hs⟩
  ·skip
   refine x_py 7 (.pointer (some ⟨a3, 2, none⟩)) rfl (by kernel_rfl) (tg := 51) (by kernel_rfl) (congrArg Value.bool a2) (fun _ => y_faddr rfl Fa105x2) (fun h => nomatch h) ?_
   refine x_py 9 (.slice pa0 pn0 pc0) rfl (by kernel_rfl) (tg := 51) (by kernel_rfl) (congrArg Value.bool a2) (fun _ => y_move rfl) (fun h => nomatch h) ?_
   refine x_py 10 (.slice pa0 pn0 pc0) rfl (by kernel_rfl) (tg := 51) (by kernel_rfl) (congrArg Value.bool a2) (fun _ => y_move rfl) (fun h => nomatch h) ?_
   refine x_py 11 (.int .i64 (places.length : Int)) rfl (by kernel_rfl) (tg := 51) (by kernel_rfl) (congrArg Value.bool a2) (fun _ => y_len' Sl37 (rs_len h0) rfl) (fun h => nomatch h) ?_
   refine x_py 12 (.int .i64 (w64 ((places.length : Int) - 1))) rfl (by kernel_rfl) (tg := 51) (by kernel_rfl) (congrArg Value.bool a2) (fun _ => y_sub rfl rfl) (fun h => nomatch h) ?_
   obtain ⟨x45, e8, hs⟩ := bind_some hs
   obtain ⟨e9, f0, f1, b7⟩ := rs_idx Sl37 Sz3 h0 e8
   refine x_py 13 (.pointer (some ⟨e9, f0, none⟩)) rfl (by kernel_rfl) (tg := 51) (by kernel_rfl) (congrArg Value.bool a2) (fun _ => f1 _ _ _ _ _ _ _ _ _ rfl rfl) (fun h => nomatch h) ?_
   refine x_two (i := 8) (j := 14) (by kernel_rfl) ?_ ?_
   ·skip
    refine xk_valy (b := true) (.func (.func 101) #[] #[(.pointer (some ⟨vg0, 0, none⟩))]) rfl (tg := 51) (by kernel_rfl) (congrArg Value.bool a2) (y_load rfl ((box_load Ag61 Sz61 a0 [(.int .i64 l.1), (.func (.func 100) #[] #[(.pointer (some ⟨vg0, 0, none⟩))])] [(.func (.func 101) #[] #[(.pointer (some ⟨vg0, 0, none⟩))])] [(.func (.func 102) #[] #[(.pointer (some ⟨vg0, 0, none⟩))])] rfl rfl (fun _ => rfl)) _ (Chg.refl _ _))) rfl (fun h => nomatch h) ?_
    refine x_one (i := 14) (by kernel_rfl) ?_
    refine xk_valy (b := true) (.int .i64 x45) rfl (tg := 51) (by kernel_rfl) (congrArg Value.bool a2) (y_load rfl ((at_load_int Ag3 Sz3 b7) _ (Chg.refl _ _))) rfl (fun h => nomatch h) ?_
    refine x_one (i := 15) (by kernel_rfl) ?_
    obtain ⟨r48, c3, hs⟩ := bind_some hs
    refine xk_callby (b := true) rfl (tg := 51) (by kernel_rfl) (congrArg Value.bool a2) rfl Bd101 rfl (c_impl_chainer__direct_2__g (M := M) x45 (b1.1, b1.2.1, b1.2.2.1, b1.2.2.2.1, b1.2.2.2.2.1, b1.2.2.2.2.2.1, b1.2.2.2.2.2.2) (show RBox M _ vg0 52 [(.pointer (some ⟨vg1, 0, none⟩))] from hb0) (show RBox M _ vg1 58 [(.int .i64 b1.1), (.slice va1x1 vn1x1 vc1x1), (.slice va1x2 vn1x2 vc1x2), (.slice va1x3 vn1x3 vc1x3), (.slice va1x4 vn1x4 vc1x4), (.int .i64 b1.2.2.2.2.2.1), (.int .i64 b1.2.2.2.2.2.2)] from hb1) hl1x1 hl1x2 hl1x3 hl1x4 hO.fut c3) rfl (fun h => nomatch h) ?_
    rintro _ f5 ⟨rfl, a5⟩
    have hO := hO.perm (R := [] ++ (([a3]) ++ ([]))) (by simp)
    have h0 := h0.ext a5
    have hb0 := hb0.ext a5
    have hl1x1 := hl1x1.ext a5
    have hl1x2 := hl1x2.ext a5
    have hl1x3 := hl1x3.ext a5
    have hl1x4 := hl1x4.ext a5
    have hb1 := hb1.ext a5
    have a0 := a0.cn a5
    have b6 := at_ext b6 a5
    have b7 := at_ext b7 a5
    have hC := hC.ext a5
    have hO := hO.ext a5
    have hO := hO.perm (R := ([a3]) ++ ([])) (by simp)
    refine x_p 16 (.bool r48) rfl (by kernel_rfl)  (fun _ => y_pick_t (congrArg Value.bool a2) rfl) (fun h => nomatch h) ?_
    refine x_p 17 (.bool r48) rfl (by kernel_rfl)  (fun _ => y_assign rfl) (fun h => nomatch h) ?_
    refine x_end (by kernel_rfl) ?_
    clear hS
    refine wp_ret ?_
    cases hs
    exact ⟨_, fr_ovl 62 ⟨rfl, trivial⟩, hC⟩
   ·skip
    refine xk_valy (b := true) (.int .i64 x45) rfl (tg := 51) (by kernel_rfl) (congrArg Value.bool a2) (y_load rfl ((at_load_int Ag3 Sz3 b7) _ (Chg.refl _ _))) rfl (fun h => nomatch h) ?_
    refine x_one (i := 8) (by kernel_rfl) ?_
    refine xk_valy (b := true) (.func (.func 101) #[] #[(.pointer (some ⟨vg0, 0, none⟩))]) rfl (tg := 51) (by kernel_rfl) (congrArg Value.bool a2) (y_load rfl ((box_load Ag61 Sz61 a0 [(.int .i64 l.1), (.func (.func 100) #[] #[(.pointer (some ⟨vg0, 0, none⟩))])] [(.func (.func 101) #[] #[(.pointer (some ⟨vg0, 0, none⟩))])] [(.func (.func 102) #[] #[(.pointer (some ⟨vg0, 0, none⟩))])] rfl rfl (fun _ => rfl)) _ (Chg.refl _ _))) rfl (fun h => nomatch h) ?_
    refine x_one (i := 15) (by kernel_rfl) ?_
    obtain ⟨r48, c3, hs⟩ := bind_some hs
    refine xk_callby (b := true) rfl (tg := 51) (by kernel_rfl) (congrArg Value.bool a2) rfl Bd101 rfl (c_impl_chainer__direct_2__g (M := M) x45 (b1.1, b1.2.1, b1.2.2.1, b1.2.2.2.1, b1.2.2.2.2.1, b1.2.2.2.2.2.1, b1.2.2.2.2.2.2) (show RBox M _ vg0 52 [(.pointer (some ⟨vg1, 0, none⟩))] from hb0) (show RBox M _ vg1 58 [(.int .i64 b1.1), (.slice va1x1 vn1x1 vc1x1), (.slice va1x2 vn1x2 vc1x2), (.slice va1x3 vn1x3 vc1x3), (.slice va1x4 vn1x4 vc1x4), (.int .i64 b1.2.2.2.2.2.1), (.int .i64 b1.2.2.2.2.2.2)] from hb1) hl1x1 hl1x2 hl1x3 hl1x4 hO.fut c3) rfl (fun h => nomatch h) ?_
    rintro _ f6 ⟨rfl, a6⟩
    have hO := hO.perm (R := [] ++ (([a3]) ++ ([]))) (by simp)
    have h0 := h0.ext a6
    have hb0 := hb0.ext a6
    have hl1x1 := hl1x1.ext a6
    have hl1x2 := hl1x2.ext a6
    have hl1x3 := hl1x3.ext a6
    have hl1x4 := hl1x4.ext a6
    have hb1 := hb1.ext a6
    have a0 := a0.cn a6
    have b6 := at_ext b6 a6
    have b7 := at_ext b7 a6
    have hC := hC.ext a6
    have hO := hO.ext a6
    have hO := hO.perm (R := ([a3]) ++ ([])) (by simp)
    refine x_p 16 (.bool r48) rfl (by kernel_rfl)  (fun _ => y_pick_t (congrArg Value.bool a2) rfl) (fun h => nomatch h) ?_
    refine x_p 17 (.bool r48) rfl (by kernel_rfl)  (fun _ => y_assign rfl) (fun h => nomatch h) ?_
    refine x_end (by kernel_rfl) ?_
    clear hS
    refine wp_ret ?_
    cases hs
    exact ⟨_, fr_ovl 62 ⟨rfl, trivial⟩, hC⟩
  refine x_pn 7 rfl (by kernel_rfl) (tg := 51) (by kernel_rfl) (congrArg Value.bool a2) (fun h => nomatch h) ?_
  refine x_pn 8 rfl (by kernel_rfl) (tg := 51) (by kernel_rfl) (congrArg Value.bool a2) (fun h => nomatch h) ?_
  refine x_pn 9 rfl (by kernel_rfl) (tg := 51) (by kernel_rfl) (congrArg Value.bool a2) (fun h => nomatch h) ?_
  refine x_pn 10 rfl (by kernel_rfl) (tg := 51) (by kernel_rfl) (congrArg Value.bool a2) (fun h => nomatch h) ?_
  refine x_pn 11 rfl (by kernel_rfl) (tg := 51) (by kernel_rfl) (congrArg Value.bool a2) (fun h => nomatch h) ?_
  refine x_pn 12 rfl (by kernel_rfl) (tg := 51) (by kernel_rfl) (congrArg Value.bool a2) (fun h => nomatch h) ?_
  refine x_pn 13 rfl (by kernel_rfl) (tg := 51) (by kernel_rfl) (congrArg Value.bool a2) (fun h => nomatch h) ?_
  refine x_pn 14 rfl (by kernel_rfl) (tg := 51) (by kernel_rfl) (congrArg Value.bool a2) (fun h => nomatch h) ?_
  refine x_one (i := 15) (by kernel_rfl) ?_
  refine xk_no (b := true) rfl (tg := 51) (by kernel_rfl) (congrArg Value.bool a2) rfl (fun h => nomatch h) ?_
  refine x_p 16 (.bool false) rfl (by kernel_rfl)  (fun _ => y_pick_f (congrArg Value.bool a2) rfl) (fun h => nomatch h) ?_
  refine x_p 17 (.bool false) rfl (by kernel_rfl)  (fun _ => y_assign rfl) (fun h => nomatch h) ?_
  refine x_end (by kernel_rfl) ?_
  clear hS
  refine wp_ret ?_
  cases hs
  exact ⟨_, fr_ovl 62 ⟨rfl, trivial⟩, hC⟩

theorem Bd96 : Bodied Try.prog 96 := bodied Try.func96 (by kernel_rfl) rfl

def k_impl_checkChain__impl_chainer__direct (M : Nat → Prop) (w0 : World) (r : Bool × Bool) (a : Act) (w : World) : Prop :=
  ∃ (σ : Nat → Value) , a = fr 34 (ovl σ [(8, (.bool r.1)), (9, (.bool r.2))]) ∧ Chg [] w0 w
def s_impl_checkChain__impl_chainer__direct (a_ : Int × (List (Int × (List Int)))) (list : List (Int × (List Int))) (most : Int) : Option (Bool × Bool) :=
  (s_impl_newChainer (a_.1, a_.2)).bind fun r5 =>
  (bif (!r5.2) then some (false, false) else (r5.1).bind fun p9 =>
  (s_impl_chainer__places list (p9.1, p9.2.1, p9.2.2.1, p9.2.2.2.1, p9.2.2.2.2.1, p9.2.2.2.2.2.1, p9.2.2.2.2.2.2)).bind fun r16 =>
  (bif (!r16.2) then some (false, false) else (s_impl_chainer__direct (p9.1, p9.2.1, p9.2.2.1, p9.2.2.2.1, p9.2.2.2.2.1, p9.2.2.2.2.2.1, p9.2.2.2.2.2.2)).bind fun r20 =>
  (s_impl_isChain__chainer__direct_1_chainer__direct_2_chainer__direct_3 (r20.1, (), (), ()) r16.1 most (p9.1, p9.2.1, p9.2.2.1, p9.2.2.2.1, p9.2.2.2.2.1, p9.2.2.2.2.2.1, p9.2.2.2.2.2.2)).bind fun r23 =>
  some (r23, true)))
set_option maxHeartbeats 4000000 in
theorem c_impl_checkChain__impl_chainer__direct {M : Nat → Prop} {w : World} {pa0 : Option Addr} {pn0 pc0 : Nat} {pa1 : Option Addr} {pn1 pc1 : Nat} (a_ : Int × (List (Int × (List Int)))) (list : List (Int × (List Int))) (most : Int) (h0 : (RT.rs (RT.pr (RT.int .i64) (RT.rs (RT.int .i64)))).val M w (.slice pa0 pn0 pc0) a_.2 ([])) (h1 : (RT.rs (RT.pr (RT.int .i64) (RT.rs (RT.int .i64)))).val M w (.slice pa1 pn1 pc1) list ([])) (hM : ∀ g, w.heap.size ≤ g → M g) {r : Bool × Bool} (hs : s_impl_checkChain__impl_chainer__direct a_ list most = some r) :
    Gives Try.prog 69 [(.agg #[(.int .i64 a_.1), (.slice pa0 pn0 pc0)]), (.slice pa1 pn1 pc1), (.func (.func 73) #[] #[]), (.int .i64 most)] w (fun v w' => v = (.tuple #[(.bool r.1), (.bool r.2)]) ∧ Chg [] w w') := by
 refine calls_fr Try.func69 rfl Try.ntmps69 (Nat.le_of_ble_eq_true rfl) ?_
 have hO := Own.start (N := Nw w []) hM Nw.fut
 have hC := Chg.refl [] w
 unfold s_impl_checkChain__impl_chainer__direct at hs
 refine wp_mono (Q := KPost (k_impl_checkChain__impl_chainer__direct M w r)) ?_ (fun e a h2 h => ?_)
 rotate_left
 ·cases e
  case ret =>
   obtain ⟨σ, rfl, hrest⟩ := h
   exact ret2x Try.results69 (res_tmp rfl) (res_tmp rfl) ⟨rfl, hrest⟩
  all_goals exact (h : False).elim
 refine c_sr ?_
 obtain ⟨a5, a9, e3, e2, c3, b0⟩ := new_block w [(.int .i64 a_.1), (.slice pa0 pn0 pc0)] 30
 refine pl_val (w' := a5) (.pointer (some ⟨a9, 0, none⟩)) (y_box rfl (by rw [e3, e2]; kernel_rfl)) ?_
 have h0 := h0.ext c3
 have h1 := h1.ext c3
 have hC := hC.ext c3
 have hO := hO.new1 c3 e2 b0.lt
 refine pl_val (.bool false) (y_assign rfl) ?_
 refine pl_val (.bool false) (y_assign rfl) ?_
 refine c_nil ?_
 refine c_sr ?_
 refine pl_val (.agg #[(.int .i64 a_.1), (.slice pa0 pn0 pc0)]) (y_load rfl ((box_load Ag30 Sz30 b0 [] [(.int .i64 a_.1), (.slice pa0 pn0 pc0)] [] rfl rfl (fun h => nomatch h)) _ (Chg.refl _ _))) ?_
 obtain ⟨r5, e4, hs⟩ := bind_some hs
 refine pl_call Bd41 rfl (c_impl_newChainer (M := M) (a_.1, a_.2) h0 hO.fut e4) ?_
 rintro _ a6 ⟨c4, a7, rfl, c1, e5, e6⟩
 have hO := hO.perm (R := [] ++ (([a9]) ++ ([]))) (by simp)
 have e7 := Own.pastL hO c1 e6
 have hK := (show Keeps w M (PastL M [] a5 a6 (a7 ++ ([]))) from Keeps.pastL hC.size (fun g hg => (hO.inN g hg).resolve_left (fun h => nomatch h)))
 have h0 := h0.ext c1
 have h1 := h1.ext c1
 have b0 := b0.cn c1
 have hC := hC.ext c1
 have hO := e7
 have h0 := h0.sub (M' := (PastL M [] a5 a6 (a7 ++ ([])))) (fun g hg => .inl hg.1)
 have h1 := h1.sub (M' := (PastL M [] a5 a6 (a7 ++ ([])))) (fun g hg => .inl hg.1)
 have hO := hO.perm (R := a7 ++ (([a9]) ++ ([]))) (by simp)
 refine pl_val (.tuple #[c4, (.bool r5.2)]) (y_move rfl) ?_
 refine pl_val c4 (y_extract rfl (by kernel_rfl)) ?_
 refine pl_val (.bool r5.2) (y_extract rfl (by kernel_rfl)) ?_
 refine pl_val c4 (y_assign rfl) ?_
 refine pl_val (.bool r5.2) (y_assign rfl) ?_
 refine c_nil ?_
 refine c_seq ?_
 refine c_sr ?_
 refine pl_val (.bool r5.2) (y_move rfl) ?_
 refine pl_val (.bool (!r5.2)) (y_not rfl) ?_
 refine c_nil ?_
 rcases bif_some hs with ⟨e0, hs⟩ | ⟨e0, hs⟩
 ·refine c_condT (congrArg Value.bool e0) ?_
  refine c_sr ?_
  refine pl_val (.bool false) (y_assign rfl) ?_
  refine pl_val (.bool false) (y_assign rfl) ?_
  refine c_nil ?_
  refine wp_ret ?_
  cases hs
  exact ⟨_, fr_ovl 34 ⟨rfl, rfl, trivial⟩, hC⟩
 refine c_condF (congrArg Value.bool e0) ?_
 refine wp_skip ?_
 refine c_sr ?_
 refine pl_val c4 (y_move rfl) ?_
 refine pl_val (.slice pa1 pn1 pc1) (y_move rfl) ?_
 obtain ⟨p9, e8, hs⟩ := bind_some hs
 obtain ⟨a0, rfl, e9⟩ := op_get e5 e8
 obtain ⟨h3, h4, f0, a8, f1⟩ := po_open e9
 obtain ⟨h5, h6, h7, h8, rfl, rfl, f2, f3⟩ := f1
 obtain ⟨rfl, rfl⟩ := f2
 obtain ⟨h9, i0, a1, i1, rfl, rfl, f4, f5⟩ := f3
 obtain ⟨c5, c6, c7, rfl, b2⟩ := os_rel' f4
 obtain ⟨i2, i3, a2, i4, rfl, rfl, f6, f7⟩ := f5
 obtain ⟨c8, c9, d0, rfl, b3⟩ := os_rel' f6
 obtain ⟨i5, i6, a3, i7, rfl, rfl, f8, f9⟩ := f7
 obtain ⟨d1, d2, d3, rfl, b4⟩ := os_rel' f8
 obtain ⟨i9, j0, a4, j1, rfl, rfl, g0, g1⟩ := f9
 obtain ⟨d4, d5, d6, rfl, b5⟩ := os_rel' g0
 obtain ⟨j2, j3, j4, j5, rfl, rfl, g2, g3⟩ := g1
 obtain ⟨rfl, rfl⟩ := g2
 obtain ⟨rfl, rfl⟩ := g3
 have a8 : BoxV a6 a0 58 [(.int .i64 p9.1), (.slice c5 c6 c7), (.slice c8 c9 d0), (.slice d1 d2 d3), (.slice d4 d5 d6), (.int .i64 p9.2.2.2.2.2.1), (.int .i64 p9.2.2.2.2.2.2)] := a8
 have hO := hO.perm (R := ([a0]) ++ (a1 ++ (a2 ++ (a3 ++ (a4 ++ (([a9]) ++ ([]))))))) (by rw [f0]; simp)
 have hO := hO.fr4
 have hO := hO.fr4
 have hO := hO.fr4
 have hO := hO.fr4
 have hO := hO.fr4
 obtain ⟨r16, g4, hs⟩ := bind_some hs
 refine pl_call Bd95 rfl (c_impl_chainer__places (M := (Less (Less (Less (Less (Less (PastL M [] a5 a6 (a7 ++ ([]))) ([a0])) a1) a2) a3) a4)) list (p9.1, p9.2.1, p9.2.2.1, p9.2.2.2.1, p9.2.2.2.2.1, p9.2.2.2.2.2.1, p9.2.2.2.2.2.2) (((((h1.sub Less.sub).sub Less.sub).sub Less.sub).sub Less.sub).sub Less.sub) (show RBox (Less (Less (Less (Less (Less (PastL M [] a5 a6 (a7 ++ ([]))) ([a0])) a1) a2) a3) a4) _ a0 58 [(.int .i64 p9.1), (.slice c5 c6 c7), (.slice c8 c9 d0), (.slice d1 d2 d3), (.slice d4 d5 d6), (.int .i64 p9.2.2.2.2.2.1), (.int .i64 p9.2.2.2.2.2.2)] from ⟨a8, fun h => by simp [Less] at h⟩) ((((((Frz.os (Frz.rs Frz.int))).val (b2.sub Less.sub) Less.sub Less.not).sub Less.sub).sub Less.sub).sub Less.sub) (((((Frz.os Frz.bool)).val ((b3.sub Less.sub).sub Less.sub) Less.sub Less.not).sub Less.sub).sub Less.sub) ((((Frz.os (Frz.os Frz.int))).val (((b4.sub Less.sub).sub Less.sub).sub Less.sub) Less.sub Less.not).sub Less.sub) (((Frz.os (Frz.os Frz.int))).val ((((b5.sub Less.sub).sub Less.sub).sub Less.sub).sub Less.sub) Less.sub Less.not) ((((hO.less).less).less).less).less.fut g4) ?_
 rintro _ j6 ⟨d7, d8, d9, b8, rfl, b6, c0, g5⟩
 have hO := hO.fr4
 have hO := hO.fr4
 have hO := hO.fr4
 have hO := hO.fr4
 have hO := hO.fr4
 have hO := hO.perm (R := [] ++ (([a0]) ++ (a1 ++ (a2 ++ (a3 ++ (a4 ++ (([a9]) ++ ([])))))))) (by simp)
 have h1 := h1.ext b6
 have b0 := b0.cn b6
 have b2 := b2.ext b6
 have b3 := b3.ext b6
 have b4 := b4.ext b6
 have b5 := b5.ext b6
 have a8 := a8.cn b6
 have hC := hC.ext b6
 have hO := Own.join hO b6 g5
 have hO := hO.perm (R := b8 ++ (([a0]) ++ (a1 ++ (a2 ++ (a3 ++ (a4 ++ (([a9]) ++ ([])))))))) (by simp)
 have c0 := c0.free (M' := (PastL M [] a5 a6 (a7 ++ ([])))) (Free.os Free.int)
 refine pl_val (.tuple #[(.slice d7 d8 d9), (.bool r16.2)]) (y_move rfl) ?_
 refine pl_val (.slice d7 d8 d9) (y_extract rfl (by kernel_rfl)) ?_
 refine pl_val (.bool r16.2) (y_extract rfl (by kernel_rfl)) ?_
 refine pl_val (.slice d7 d8 d9) (y_assign rfl) ?_
 refine pl_val (.bool r16.2) (y_assign rfl) ?_
 refine c_nil ?_
 refine c_seq ?_
 refine c_sr ?_
 refine pl_val (.bool r16.2) (y_move rfl) ?_
 refine pl_val (.bool (!r16.2)) (y_not rfl) ?_
 refine c_nil ?_
 rcases bif_some hs with ⟨e1, hs⟩ | ⟨e1, hs⟩
 ·refine c_condT (congrArg Value.bool e1) ?_
  refine c_sr ?_
  refine pl_val (.bool false) (y_assign rfl) ?_
  refine pl_val (.bool false) (y_assign rfl) ?_
  refine c_nil ?_
  refine wp_ret ?_
  cases hs
  exact ⟨_, fr_ovl 34 ⟨rfl, rfl, trivial⟩, hC⟩
 refine c_condF (congrArg Value.bool e1) ?_
 refine wp_skip ?_
 refine c_sr ?_
 refine pl_val (.func (.func 73) #[] #[]) (y_move rfl) ?_
 refine pl_val (.pointer (some ⟨a0, 0, none⟩)) (y_move rfl) ?_
 have hO := hO.fr5
 have hO := hO.fr5
 have hO := hO.fr5
 have hO := hO.fr5
 have hO := hO.fr5
 obtain ⟨r20, g6, hs⟩ := bind_some hs
 refine pl_callv (h := rfl) Bd73 rfl (c_impl_chainer__direct (M := (Less (Less (Less (Less (Less (PastL M [] a5 a6 (a7 ++ ([]))) ([a0])) a1) a2) a3) a4)) (p9.1, p9.2.1, p9.2.2.1, p9.2.2.2.1, p9.2.2.2.2.1, p9.2.2.2.2.2.1, p9.2.2.2.2.2.2) (show RBox (Less (Less (Less (Less (Less (PastL M [] a5 a6 (a7 ++ ([]))) ([a0])) a1) a2) a3) a4) _ a0 58 [(.int .i64 p9.1), (.slice c5 c6 c7), (.slice c8 c9 d0), (.slice d1 d2 d3), (.slice d4 d5 d6), (.int .i64 p9.2.2.2.2.2.1), (.int .i64 p9.2.2.2.2.2.2)] from ⟨a8, fun h => by simp [Less] at h⟩) ((((((Frz.os (Frz.rs Frz.int))).val (b2.sub Less.sub) Less.sub Less.not).sub Less.sub).sub Less.sub).sub Less.sub) (((((Frz.os Frz.bool)).val ((b3.sub Less.sub).sub Less.sub) Less.sub Less.not).sub Less.sub).sub Less.sub) ((((Frz.os (Frz.os Frz.int))).val (((b4.sub Less.sub).sub Less.sub).sub Less.sub) Less.sub Less.not).sub Less.sub) (((Frz.os (Frz.os Frz.int))).val ((((b5.sub Less.sub).sub Less.sub).sub Less.sub).sub Less.sub) Less.sub Less.not) ((((hO.less).less).less).less).less.fut g6) ?_
 rintro _ g7 ⟨b9, rfl, b7, c2, g8⟩
 have hO := hO.fr4
 have hO := hO.fr4
 have hO := hO.fr4
 have hO := hO.fr4
 have hO := hO.fr4
 have hO := hO.perm (R := [] ++ (([a0]) ++ (a1 ++ (a2 ++ (a3 ++ (a4 ++ (b8 ++ (([a9]) ++ ([]))))))))) (by simp)
 have b0 := b0.cn b7
 have b2 := b2.ext b7
 have b3 := b3.ext b7
 have b4 := b4.ext b7
 have b5 := b5.ext b7
 have a8 := a8.cn b7
 have c0 := c0.ext b7
 have hC := hC.ext b7
 have hO := Own.join hO b7 g8
 have hO := hO.perm (R := [b9] ++ (([a0]) ++ (a1 ++ (a2 ++ (a3 ++ (a4 ++ (b8 ++ (([a9]) ++ ([]))))))))) (by simp)
 have c2 : BoxV g7 b9 52 [(.pointer (some ⟨a0, 0, none⟩))] := c2
 refine pl_val (.slice d7 d8 d9) (y_move rfl) ?_
 refine pl_val (.int .i64 most) (y_move rfl) ?_
 have hO := hO.fr5
 have hO := hO.fr5
 have hO := hO.fr5
 have hO := hO.fr5
 have hO := hO.fr5
 have hO := hO.fr5
 have hO := hO.fr6
 obtain ⟨r23, g9, hs⟩ := bind_some hs
 refine pl_call Bd96 rfl (c_impl_isChain__chainer__direct_1_chainer__direct_2_chainer__direct_3 (M := (Less (Less (Less (Less (Less (Less (Less (PastL M [] a5 a6 (a7 ++ ([]))) b8) ([b9])) ([a0])) a1) a2) a3) a4)) (r20.1, (), (), ()) r16.1 most (p9.1, p9.2.1, p9.2.2.1, p9.2.2.2.1, p9.2.2.2.2.1, p9.2.2.2.2.2.1, p9.2.2.2.2.2.2) (((((((((Frz.os Frz.int)).val c0 Less.sub Less.not).sub Less.sub).sub Less.sub).sub Less.sub).sub Less.sub).sub Less.sub).sub Less.sub) (show RBox (Less (Less (Less (Less (Less (Less (Less (PastL M [] a5 a6 (a7 ++ ([]))) b8) ([b9])) ([a0])) a1) a2) a3) a4) _ b9 52 [(.pointer (some ⟨a0, 0, none⟩))] from ⟨c2, fun h => by simp [Less] at h⟩) (show RBox (Less (Less (Less (Less (Less (Less (Less (PastL M [] a5 a6 (a7 ++ ([]))) b8) ([b9])) ([a0])) a1) a2) a3) a4) _ a0 58 [(.int .i64 p9.1), (.slice c5 c6 c7), (.slice c8 c9 d0), (.slice d1 d2 d3), (.slice d4 d5 d6), (.int .i64 p9.2.2.2.2.2.1), (.int .i64 p9.2.2.2.2.2.2)] from ⟨a8, fun h => by simp [Less] at h⟩) ((((((Frz.os (Frz.rs Frz.int))).val (((b2.sub Less.sub).sub Less.sub).sub Less.sub) Less.sub Less.not).sub Less.sub).sub Less.sub).sub Less.sub) (((((Frz.os Frz.bool)).val ((((b3.sub Less.sub).sub Less.sub).sub Less.sub).sub Less.sub) Less.sub Less.not).sub Less.sub).sub Less.sub) ((((Frz.os (Frz.os Frz.int))).val (((((b4.sub Less.sub).sub Less.sub).sub Less.sub).sub Less.sub).sub Less.sub) Less.sub Less.not).sub Less.sub) (((Frz.os (Frz.os Frz.int))).val ((((((b5.sub Less.sub).sub Less.sub).sub Less.sub).sub Less.sub).sub Less.sub).sub Less.sub) Less.sub Less.not) ((((((hO.less).less).less).less).less).less).less.fut g9) ?_
 rintro _ j7 ⟨rfl, b1⟩
 have hO := hO.fr6
 have hO := hO.fr6
 have hO := hO.fr6
 have hO := hO.fr6
 have hO := hO.fr6
 have hO := hO.fr6
 have hO := hO.fr6
 have hO := hO.perm (R := [] ++ (b8 ++ (([b9]) ++ (([a0]) ++ (a1 ++ (a2 ++ (a3 ++ (a4 ++ (([a9]) ++ ([])))))))))) (by simp)
 have b0 := b0.cn b1
 have b2 := b2.ext b1
 have b3 := b3.ext b1
 have b4 := b4.ext b1
 have b5 := b5.ext b1
 have a8 := a8.cn b1
 have c0 := c0.ext b1
 have c2 := c2.cn b1
 have hC := hC.ext b1
 have hO := hO.ext b1
 have hO := hO.perm (R := b8 ++ (([b9]) ++ (([a0]) ++ (a1 ++ (a2 ++ (a3 ++ (a4 ++ (([a9]) ++ ([]))))))))) (by simp)
 refine pl_val (.bool r23) (y_assign rfl) ?_
 refine pl_val (.bool true) (y_assign rfl) ?_
 refine c_nil ?_
 refine wp_ret ?_
 cases hs
 exact ⟨_, fr_ovl 34 ⟨rfl, rfl, trivial⟩, hC⟩

theorem Bd69 : Bodied Try.prog 69 := bodied Try.func69 (by kernel_rfl) rfl

def k_impl_IsDirectChain (M : Nat → Prop) (w0 : World) (r : Bool × Bool) (a : Act) (w : World) : Prop :=
  ∃ (σ : Nat → Value) , a = fr 11 (ovl σ [(4, (.bool r.1)), (5, (.bool r.2))]) ∧ Chg [] w0 w
def s_impl_IsDirectChain (a_ : Int × (List (Int × (List Int)))) (list : List (Int × (List Int))) : Option (Bool × Bool) :=
  (s_impl_checkChain__impl_chainer__direct (a_.1, a_.2) list 12).bind fun r5 =>
  some (r5.1, r5.2)
set_option maxHeartbeats 4000000 in
theorem c_impl_IsDirectChain {M : Nat → Prop} {w : World} {pa0 : Option Addr} {pn0 pc0 : Nat} {pa1 : Option Addr} {pn1 pc1 : Nat} (a_ : Int × (List (Int × (List Int)))) (list : List (Int × (List Int))) (h0 : (RT.rs (RT.pr (RT.int .i64) (RT.rs (RT.int .i64)))).val M w (.slice pa0 pn0 pc0) a_.2 ([])) (h1 : (RT.rs (RT.pr (RT.int .i64) (RT.rs (RT.int .i64)))).val M w (.slice pa1 pn1 pc1) list ([])) (hM : ∀ g, w.heap.size ≤ g → M g) {r : Bool × Bool} (hs : s_impl_IsDirectChain a_ list = some r) :
    Gives Try.prog 33 [(.agg #[(.int .i64 a_.1), (.slice pa0 pn0 pc0)]), (.slice pa1 pn1 pc1)] w (fun v w' => v = (.tuple #[(.bool r.1), (.bool r.2)]) ∧ Chg [] w w') := by
 refine calls_fr Try.func33 rfl Try.ntmps33 (Nat.le_of_ble_eq_true rfl) ?_
 have hO := Own.start (N := Nw w []) hM Nw.fut
 have hC := Chg.refl [] w
 unfold s_impl_IsDirectChain at hs
 refine wp_mono (Q := KPost (k_impl_IsDirectChain M w r)) ?_ (fun e a a8 h => ?_)
 rotate_left
 ·cases e
  case ret =>
   obtain ⟨σ, rfl, hrest⟩ := h
   exact ret2x Try.results33 (res_tmp rfl) (res_tmp rfl) ⟨rfl, hrest⟩
  all_goals exact (h : False).elim
 refine c_sr ?_
 obtain ⟨a4, a5, a6, a3, a1, a2⟩ := new_block w [(.int .i64 a_.1), (.slice pa0 pn0 pc0)] 30
 refine pl_val (w' := a4) (.pointer (some ⟨a5, 0, none⟩)) (y_box rfl (by rw [a6, a3]; kernel_rfl)) ?_
 have h0 := h0.ext a1
 have h1 := h1.ext a1
 have hC := hC.ext a1
 have hO := hO.new1 a1 a3 a2.lt
 refine pl_val (.bool false) (y_assign rfl) ?_
 refine pl_val (.bool false) (y_assign rfl) ?_
 refine c_nil ?_
 refine c_sr ?_
 refine pl_val (.agg #[(.int .i64 a_.1), (.slice pa0 pn0 pc0)]) (y_load rfl ((box_load Ag30 Sz30 a2 [] [(.int .i64 a_.1), (.slice pa0 pn0 pc0)] [] rfl rfl (fun h => nomatch h)) _ (Chg.refl _ _))) ?_
 refine pl_val (.slice pa1 pn1 pc1) (y_move rfl) ?_
 obtain ⟨r5, a7, hs⟩ := bind_some hs
 refine pl_call Bd69 rfl (c_impl_checkChain__impl_chainer__direct (M := M) (a_.1, a_.2) list 12 h0 h1 hO.fut a7) ?_
 rintro _ a9 ⟨rfl, a0⟩
 have h0 := h0.ext a0
 have h1 := h1.ext a0
 have a2 := a2.cn a0
 have hC := hC.ext a0
 have hO := hO.ext a0
 refine pl_val (.bool r5.1) (y_extract rfl (by kernel_rfl)) ?_
 refine pl_val (.bool r5.2) (y_extract rfl (by kernel_rfl)) ?_
 refine pl_val (.bool r5.1) (y_assign rfl) ?_
 refine pl_val (.bool r5.2) (y_assign rfl) ?_
 refine c_nil ?_
 refine wp_ret ?_
 cases hs
 exact ⟨_, fr_ovl 11 ⟨rfl, rfl, trivial⟩, hC⟩

def k_laws_eqIntS (M : Nat → Prop) (w0 : World) (r : Bool) (a : Act) (w : World) : Prop :=
  ∃ (σ : Nat → Value) , a = fr 26 (ovl σ [(4, (.bool r))]) ∧ Chg [] w0 w
def s_laws_eqIntS (a_ : List Int) (b : List Int) : Option (Bool) :=
  (bif ((a_.length : Int) != (b.length : Int)) then some false else (forC (S := Unit) (R := Bool) (fun k12 s10 =>
  (idx a_ k12).bind fun x17 =>
  (idx b k12).bind fun x19 =>
  (bif (x17 != x19) then some (.rt false) else some (.nx ()))) 0 (a_.length : Int) ()).bind fun o14 => after o14 (fun r_ => some r_) (fun s10 =>
  some true))
set_option maxHeartbeats 4000000 in
theorem c_laws_eqIntS {M : Nat → Prop} {w : World} {pa0 : Option Addr} {pn0 pc0 : Nat} {pa1 : Option Addr} {pn1 pc1 : Nat} (a_ : List Int) (b : List Int) (h0 : (RT.rs (RT.int .i64)).val M w (.slice pa0 pn0 pc0) a_ ([])) (h1 : (RT.rs (RT.int .i64)).val M w (.slice pa1 pn1 pc1) b ([])) (hM : ∀ g, w.heap.size ≤ g → M g) {r : Bool} (hs : s_laws_eqIntS a_ b = some r) :
    Gives Try.prog 27 [(.slice pa0 pn0 pc0), (.slice pa1 pn1 pc1)] w (fun v w' => v = (.bool r) ∧ Chg [] w w') := by
 refine calls_fr Try.func27 rfl Try.ntmps27 (Nat.le_of_ble_eq_true rfl) ?_
 have hO := Own.start (N := Nw w []) hM Nw.fut
 have hC := Chg.refl [] w
 unfold s_laws_eqIntS at hs
 refine wp_mono (Q := KPost (k_laws_eqIntS M w r)) ?_ (fun e a a4 h => ?_)
 rotate_left
 ·cases e
  case ret =>
   obtain ⟨σ, rfl, hrest⟩ := h
   exact ret1x Try.results27 (res_tmp rfl) ⟨rfl, hrest⟩
  all_goals exact (h : False).elim
 refine c_sr ?_
 refine pl_val (.bool false) (y_assign rfl) ?_
 refine c_nil ?_
 refine c_seq ?_
 refine c_sr ?_
 refine pl_val (.slice pa0 pn0 pc0) (y_move rfl) ?_
 refine pl_val (.int .i64 (a_.length : Int)) (y_len' Sl37 (rs_len h0) rfl) ?_
 refine pl_val (.slice pa1 pn1 pc1) (y_move rfl) ?_
 refine pl_val (.int .i64 (b.length : Int)) (y_len' Sl37 (rs_len h1) rfl) ?_
 refine pl_val (.bool ((a_.length : Int) != (b.length : Int))) (y_neq rfl rfl) ?_
 refine c_nil ?_
 rcases bif_some hs with ⟨a2, hs⟩ | ⟨a2, hs⟩
 ·refine c_condT (congrArg Value.bool a2) ?_
  refine c_sr ?_
  refine pl_val (.bool false) (y_assign rfl) ?_
  refine c_nil ?_
  refine wp_ret ?_
  cases hs
  exact ⟨_, fr_ovl 26 ⟨rfl, trivial⟩, hC⟩
 refine c_condF (congrArg Value.bool a2) ?_
 refine wp_skip ?_
 refine c_seq ?_
 refine c_sr ?_
 refine pl_val (.int .i64 0) (y_assign rfl) ?_
 refine c_nil ?_
 obtain ⟨o14, a5, hs⟩ := bind_some hs
 refine wp_block ?_
 refine wp_forC (id := 0) (a_.length : Int) (I := fun k12 s10 a a0 => ∃ (σ : Nat → Value), a = fr 26 (ovl σ [(0, (.slice pa0 pn0 pc0)), (1, (.slice pa1 pn1 pc1)), (5, (.int .i64 k12))]) ∧ Chg [] w a0 ∧ Own (Nw w []) M a0 ([]) ∧ (RT.rs (RT.int .i64)).val M a0 (.slice pa0 pn0 pc0) a_ ([]) ∧ (RT.rs (RT.int .i64)).val M a0 (.slice pa1 pn1 pc1) b ([])) (J := fun s10 a a0 => ∃ (σ : Nat → Value), a = fr 26 (ovl σ []) ∧ Chg [] w a0 ∧ Own (Nw w []) M a0 ([]) ∧ (RT.rs (RT.int .i64)).val M a0 (.slice pa0 pn0 pc0) a_ ([]) ∧ (RT.rs (RT.int .i64)).val M a0 (.slice pa1 pn1 pc1) b ([])) (K := (k_laws_eqIntS M w)) ?_ ?_ 0 () o14 _ _ ?_ a5 ?_
 ·rintro k12 s10 a a0 ⟨σ, rfl, hC, hO, h0, h1⟩ hlt
  refine c_seq ?_
  refine c_sr ?_
  refine pl_val (.int .i64 k12) (y_move rfl) ?_
  refine pl_val (.slice pa0 pn0 pc0) (y_move rfl) ?_
  refine pl_val (.int .i64 (a_.length : Int)) (y_len' Sl37 (rs_len h0) rfl) ?_
  refine pl_val (.bool (decide (k12 < (a_.length : Int)))) (y_lss rfl rfl) ?_
  refine c_nil ?_
  refine c_condF (congrArg Value.bool (decide_eq_false hlt)) ?_
  refine wp_exit ?_
  exact ⟨rfl, _, fr_ovl 26 trivial, hC, hO, h0, h1⟩
 ·rintro k12 s10 o14 a a0 ⟨σ, rfl, hC, hO, h0, h1⟩ hlt hw hs
  refine c_seq ?_
  refine c_sr ?_
  refine pl_val (.int .i64 k12) (y_move rfl) ?_
  refine pl_val (.slice pa0 pn0 pc0) (y_move rfl) ?_
  refine pl_val (.int .i64 (a_.length : Int)) (y_len' Sl37 (rs_len h0) rfl) ?_
  refine pl_val (.bool (decide (k12 < (a_.length : Int)))) (y_lss rfl rfl) ?_
  refine c_nil ?_
  refine c_condT (congrArg Value.bool (decide_eq_true hlt)) ?_
  refine wp_skip ?_
  refine c_seq ?_
  refine wp_block ?_
  refine c_seq ?_
  refine x_start [] Mx rfl ?_
  have a1 := Chg.drew a0
  generalize World.drew a0 = a6 at a1 ⊢
  have h0 := h0.ext a1
  have h1 := h1.ext a1
  have hC := hC.ext a1
  have hO := hO.ext a1
  have hS := Chg.refl [] a6
  refine x_p 0 (.slice pa0 pn0 pc0) rfl (by kernel_rfl)  (fun _ => y_move rfl) (fun _ => hS) ?_
  refine x_p 1 (.int .i64 k12) rfl (by kernel_rfl)  (fun _ => y_move rfl) (fun _ => hS) ?_
  obtain ⟨x17, a7, hs⟩ := bind_some hs
  obtain ⟨a8, a9, b0, b1⟩ := rs_idx Sl37 Sz3 h0 a7
  refine x_p 2 (.pointer (some ⟨a8, a9, none⟩)) rfl (by kernel_rfl)  (fun _ => b0 _ _ _ _ _ _ _ _ _ rfl rfl) (fun _ => hS) ?_
  refine x_l 3 (.int .i64 x17) rfl (by kernel_rfl)  (fun w' hw' => y_load rfl ((at_load_int Ag3 Sz3 b1) w' hw')) hS ?_
  refine x_p 4 (.slice pa1 pn1 pc1) rfl (by kernel_rfl)  (fun _ => y_move rfl) (fun _ => hS) ?_
  refine x_p 5 (.int .i64 k12) rfl (by kernel_rfl)  (fun _ => y_move rfl) (fun _ => hS) ?_
  obtain ⟨x19, b2, hs⟩ := bind_some hs
  obtain ⟨b3, b4, b5, b6⟩ := rs_idx Sl37 Sz3 h1 b2
  refine x_p 6 (.pointer (some ⟨b3, b4, none⟩)) rfl (by kernel_rfl)  (fun _ => b5 _ _ _ _ _ _ _ _ _ rfl rfl) (fun _ => hS) ?_
  refine x_l 7 (.int .i64 x19) rfl (by kernel_rfl)  (fun w' hw' => y_load rfl ((at_load_int Ag3 Sz3 b6) w' hw')) hS ?_
  refine x_p 8 (.bool (x17 != x19)) rfl (by kernel_rfl)  (fun _ => y_neq rfl rfl) (fun _ => hS) ?_
  refine x_end (by kernel_rfl) ?_
  clear hS
  rcases bif_some hs with ⟨a3, hs⟩ | ⟨a3, hs⟩
  ·refine c_condT (congrArg Value.bool a3) ?_
   refine c_sr ?_
   refine pl_val (.bool false) (y_assign rfl) ?_
   refine c_nil ?_
   refine wp_ret ?_
   cases hs
   exact ⟨_, fr_ovl 26 ⟨rfl, trivial⟩, hC⟩
  refine c_condF (congrArg Value.bool a3) ?_
  refine wp_skip ?_
  refine c_region ?_
  refine pl_val (.int .i64 k12) (y_move rfl) ?_
  refine pl_val (.int .i64 (w64 (k12 + 1))) (y_add rfl rfl) ?_
  refine pl_val (.int .i64 (w64 (k12 + 1))) (y_assign rfl) ?_
  refine c_nil ?_
  cases hs
  exact ⟨_, fr_ovl 26 ⟨rfl, rfl, congrArg (Value.int .i64) hw, trivial⟩, hC, hO, h0, h1⟩
 ·skip
  exact ⟨_, fr_ovl 26 ⟨rfl, rfl, rfl, trivial⟩, hC, hO, h0, h1⟩
 cases o14 with
 | nx _ => exact True.intro
 | rt r_ =>
  have hs := after_rt hs
  intro b7 a4 hK
  cases hs
  exact hK
 | br s10 =>
  have hs := after_br hs
  rintro b7 a0 ⟨σ, rfl, hC, hO, h0, h1⟩
  refine c_sr ?_
  refine pl_val (.bool true) (y_assign rfl) ?_
  refine c_nil ?_
  refine wp_ret ?_
  cases hs
  exact ⟨_, fr_ovl 26 ⟨rfl, trivial⟩, hC⟩

theorem Bd27 : Bodied Try.prog 27 := bodied Try.func27 (by kernel_rfl) rfl

def k_laws_eqOp (M : Nat → Prop) (w0 : World) (r : Bool) (a : Act) (w : World) : Prop :=
  ∃ (σ : Nat → Value) , a = fr 16 (ovl σ [(4, (.bool r))]) ∧ Chg [] w0 w
def s_laws_eqOp (a_ : Int × (List Int)) (b : Int × (List Int)) : Option (Bool) :=
  (bif (a_.1 != b.1) then some false else (s_laws_eqIntS a_.2 b.2).bind fun r7 =>
  (bif (!r7) then some false else some true))
set_option maxHeartbeats 4000000 in
theorem c_laws_eqOp {M : Nat → Prop} {w : World} {pa0 : Option Addr} {pn0 pc0 : Nat} {pa1 : Option Addr} {pn1 pc1 : Nat} (a_ : Int × (List Int)) (b : Int × (List Int)) (h0 : (RT.rs (RT.int .i64)).val M w (.slice pa0 pn0 pc0) a_.2 ([])) (h1 : (RT.rs (RT.int .i64)).val M w (.slice pa1 pn1 pc1) b.2 ([])) (hM : ∀ g, w.heap.size ≤ g → M g) {r : Bool} (hs : s_laws_eqOp a_ b = some r) :
    Gives Try.prog 47 [(.agg #[(.int .i64 a_.1), (.slice pa0 pn0 pc0)]), (.agg #[(.int .i64 b.1), (.slice pa1 pn1 pc1)])] w (fun v w' => v = (.bool r) ∧ Chg [] w w') := by
 refine calls_fr Try.func47 rfl Try.ntmps47 (Nat.le_of_ble_eq_true rfl) ?_
 have hO := Own.start (N := Nw w []) hM Nw.fut
 have hC := Chg.refl [] w
 unfold s_laws_eqOp at hs
 refine wp_mono (Q := KPost (k_laws_eqOp M w r)) ?_ (fun e a b6 h => ?_)
 rotate_left
 ·cases e
  case ret =>
   obtain ⟨σ, rfl, hrest⟩ := h
   exact ret1x Try.results47 (res_tmp rfl) ⟨rfl, hrest⟩
  all_goals exact (h : False).elim
 refine c_sr ?_
 obtain ⟨a9, a5, b2, b0, a4, a0⟩ := new_block w [(.int .i64 a_.1), (.slice pa0 pn0 pc0)] 64
 refine pl_val (w' := a9) (.pointer (some ⟨a5, 0, none⟩)) (y_box rfl (by rw [b2, b0]; kernel_rfl)) ?_
 have h0 := h0.ext a4
 have h1 := h1.ext a4
 have hC := hC.ext a4
 have hO := hO.new1 a4 b0 a0.lt
 obtain ⟨b3, a6, b4, b1, a2, a3⟩ := new_block a9 [(.int .i64 b.1), (.slice pa1 pn1 pc1)] 64
 refine pl_val (w' := b3) (.pointer (some ⟨a6, 0, none⟩)) (y_box rfl (by rw [b4, b1]; kernel_rfl)) ?_
 have h0 := h0.ext a2
 have h1 := h1.ext a2
 have a0 := a0.cn a2
 have hC := hC.ext a2
 have hO := hO.new1 a2 b1 a3.lt
 refine pl_val (.bool false) (y_assign rfl) ?_
 refine c_nil ?_
 refine c_seq ?_
 refine c_sr ?_
 refine pl_val (.pointer (some ⟨a5, 0, none⟩)) (y_faddr rfl Fa64x0) ?_
 refine pl_val (.int .i64 a_.1) (y_load rfl ((box_load Ag3 Sz3 a0 [] [(.int .i64 a_.1)] [(.slice pa0 pn0 pc0)] rfl rfl (fun _ => rfl)) _ (Chg.refl _ _))) ?_
 refine pl_val (.pointer (some ⟨a6, 0, none⟩)) (y_faddr rfl Fa64x0) ?_
 refine pl_val (.int .i64 b.1) (y_load rfl ((box_load Ag3 Sz3 a3 [] [(.int .i64 b.1)] [(.slice pa1 pn1 pc1)] rfl rfl (fun _ => rfl)) _ (Chg.refl _ _))) ?_
 refine pl_val (.bool (a_.1 != b.1)) (y_neq rfl rfl) ?_
 refine c_nil ?_
 rcases bif_some hs with ⟨a7, hs⟩ | ⟨a7, hs⟩
 ·refine c_condT (congrArg Value.bool a7) ?_
  refine c_sr ?_
  refine pl_val (.bool false) (y_assign rfl) ?_
  refine c_nil ?_
  refine wp_ret ?_
  cases hs
  exact ⟨_, fr_ovl 16 ⟨rfl, trivial⟩, hC⟩
 refine c_condF (congrArg Value.bool a7) ?_
 refine wp_skip ?_
 refine c_seq ?_
 refine c_sr ?_
 refine pl_val (.pointer (some ⟨a5, 1, none⟩)) (y_faddr rfl Fa64x1) ?_
 refine pl_val (.slice pa0 pn0 pc0) (y_load rfl ((box_load Ag37 Sz37 a0 [(.int .i64 a_.1)] [(.slice pa0 pn0 pc0)] [] rfl rfl (fun _ => rfl)) _ (Chg.refl _ _))) ?_
 refine pl_val (.pointer (some ⟨a6, 1, none⟩)) (y_faddr rfl Fa64x1) ?_
 refine pl_val (.slice pa1 pn1 pc1) (y_load rfl ((box_load Ag37 Sz37 a3 [(.int .i64 b.1)] [(.slice pa1 pn1 pc1)] [] rfl rfl (fun _ => rfl)) _ (Chg.refl _ _))) ?_
 obtain ⟨r7, b5, hs⟩ := bind_some hs
 refine pl_call Bd27 rfl (c_laws_eqIntS (M := M) a_.2 b.2 h0 h1 hO.fut b5) ?_
 rintro _ b7 ⟨rfl, a1⟩
 have h0 := h0.ext a1
 have h1 := h1.ext a1
 have a0 := a0.cn a1
 have a3 := a3.cn a1
 have hC := hC.ext a1
 have hO := hO.ext a1
 refine pl_val (.bool (!r7)) (y_not rfl) ?_
 refine c_nil ?_
 have hO := hO.drop
 have hO := hO.drop
 rcases bif_some hs with ⟨a8, hs⟩ | ⟨a8, hs⟩
 ·refine c_condT (congrArg Value.bool a8) ?_
  refine c_sr ?_
  refine pl_val (.bool false) (y_assign rfl) ?_
  refine c_nil ?_
  refine wp_ret ?_
  cases hs
  exact ⟨_, fr_ovl 16 ⟨rfl, trivial⟩, hC⟩
 refine c_condF (congrArg Value.bool a8) ?_
 refine wp_skip ?_
 refine c_sr ?_
 refine pl_val (.bool true) (y_assign rfl) ?_
 refine c_nil ?_
 refine wp_ret ?_
 cases hs
 exact ⟨_, fr_ovl 16 ⟨rfl, trivial⟩, hC⟩

theorem Bd47 : Bodied Try.prog 47 := bodied Try.func47 (by kernel_rfl) rfl

def k_laws_eqOpS (M : Nat → Prop) (w0 : World) (r : Bool) (a : Act) (w : World) : Prop :=
  ∃ (σ : Nat → Value) , a = fr 27 (ovl σ [(4, (.bool r))]) ∧ Chg [] w0 w
def s_laws_eqOpS (a_ : List (Int × (List Int))) (b : List (Int × (List Int))) : Option (Bool) :=
  (bif ((a_.length : Int) != (b.length : Int)) then some false else (forC (S := Unit) (R := Bool) (fun k18 s16 =>
  (idx a_ k18).bind fun x23 =>
  (idx b k18).bind fun x27 =>
  (s_laws_eqOp (x23.1, x23.2) (x27.1, x27.2)).bind fun r32 =>
  (bif (!r32) then some (.rt false) else some (.nx ()))) 0 (a_.length : Int) ()).bind fun o20 => after o20 (fun r_ => some r_) (fun s16 =>
  some true))
set_option maxHeartbeats 4000000 in
theorem c_laws_eqOpS {M : Nat → Prop} {w : World} {pa0 : Option Addr} {pn0 pc0 : Nat} {pa1 : Option Addr} {pn1 pc1 : Nat} (a_ : List (Int × (List Int))) (b : List (Int × (List Int))) (h0 : (RT.rs (RT.pr (RT.int .i64) (RT.rs (RT.int .i64)))).val M w (.slice pa0 pn0 pc0) a_ ([])) (h1 : (RT.rs (RT.pr (RT.int .i64) (RT.rs (RT.int .i64)))).val M w (.slice pa1 pn1 pc1) b ([])) (hM : ∀ g, w.heap.size ≤ g → M g) {r : Bool} (hs : s_laws_eqOpS a_ b = some r) :
    Gives Try.prog 15 [(.slice pa0 pn0 pc0), (.slice pa1 pn1 pc1)] w (fun v w' => v = (.bool r) ∧ Chg [] w w') := by
 refine calls_fr Try.func15 rfl Try.ntmps15 (Nat.le_of_ble_eq_true rfl) ?_
 have hO := Own.start (N := Nw w []) hM Nw.fut
 have hC := Chg.refl [] w
 unfold s_laws_eqOpS at hs
 refine wp_mono (Q := KPost (k_laws_eqOpS M w r)) ?_ (fun e a a9 h => ?_)
 rotate_left
 ·cases e
  case ret =>
   obtain ⟨σ, rfl, hrest⟩ := h
   exact ret1x Try.results15 (res_tmp rfl) ⟨rfl, hrest⟩
  all_goals exact (h : False).elim
 refine c_sr ?_
 refine pl_val (.bool false) (y_assign rfl) ?_
 refine c_nil ?_
 refine c_seq ?_
 refine c_sr ?_
 refine pl_val (.slice pa0 pn0 pc0) (y_move rfl) ?_
 refine pl_val (.int .i64 (a_.length : Int)) (y_len' Sl26 (rs_len h0) rfl) ?_
 refine pl_val (.slice pa1 pn1 pc1) (y_move rfl) ?_
 refine pl_val (.int .i64 (b.length : Int)) (y_len' Sl26 (rs_len h1) rfl) ?_
 refine pl_val (.bool ((a_.length : Int) != (b.length : Int))) (y_neq rfl rfl) ?_
 refine c_nil ?_
 rcases bif_some hs with ⟨a3, hs⟩ | ⟨a3, hs⟩
 ·refine c_condT (congrArg Value.bool a3) ?_
  refine c_sr ?_
  refine pl_val (.bool false) (y_assign rfl) ?_
  refine c_nil ?_
  refine wp_ret ?_
  cases hs
  exact ⟨_, fr_ovl 27 ⟨rfl, trivial⟩, hC⟩
 refine c_condF (congrArg Value.bool a3) ?_
 refine wp_skip ?_
 refine c_seq ?_
 refine c_sr ?_
 refine pl_val (.int .i64 0) (y_assign rfl) ?_
 refine c_nil ?_
 obtain ⟨o20, b0, hs⟩ := bind_some hs
 refine wp_block ?_
 refine wp_forC (id := 0) (a_.length : Int) (I := fun k18 s16 a a0 => ∃ (σ : Nat → Value), a = fr 27 (ovl σ [(0, (.slice pa0 pn0 pc0)), (1, (.slice pa1 pn1 pc1)), (5, (.int .i64 k18))]) ∧ Chg [] w a0 ∧ Own (Nw w []) M a0 ([]) ∧ (RT.rs (RT.pr (RT.int .i64) (RT.rs (RT.int .i64)))).val M a0 (.slice pa0 pn0 pc0) a_ ([]) ∧ (RT.rs (RT.pr (RT.int .i64) (RT.rs (RT.int .i64)))).val M a0 (.slice pa1 pn1 pc1) b ([])) (J := fun s16 a a0 => ∃ (σ : Nat → Value), a = fr 27 (ovl σ []) ∧ Chg [] w a0 ∧ Own (Nw w []) M a0 ([]) ∧ (RT.rs (RT.pr (RT.int .i64) (RT.rs (RT.int .i64)))).val M a0 (.slice pa0 pn0 pc0) a_ ([]) ∧ (RT.rs (RT.pr (RT.int .i64) (RT.rs (RT.int .i64)))).val M a0 (.slice pa1 pn1 pc1) b ([])) (K := (k_laws_eqOpS M w)) ?_ ?_ 0 () o20 _ _ ?_ b0 ?_
 ·rintro k18 s16 a a0 ⟨σ, rfl, hC, hO, h0, h1⟩ hlt
  refine c_seq ?_
  refine c_sr ?_
  refine pl_val (.int .i64 k18) (y_move rfl) ?_
  refine pl_val (.slice pa0 pn0 pc0) (y_move rfl) ?_
  refine pl_val (.int .i64 (a_.length : Int)) (y_len' Sl26 (rs_len h0) rfl) ?_
  refine pl_val (.bool (decide (k18 < (a_.length : Int)))) (y_lss rfl rfl) ?_
  refine c_nil ?_
  refine c_condF (congrArg Value.bool (decide_eq_false hlt)) ?_
  refine wp_exit ?_
  exact ⟨rfl, _, fr_ovl 27 trivial, hC, hO, h0, h1⟩
 ·rintro k18 s16 o20 a a0 ⟨σ, rfl, hC, hO, h0, h1⟩ hlt hw hs
  refine c_seq ?_
  refine c_sr ?_
  refine pl_val (.int .i64 k18) (y_move rfl) ?_
  refine pl_val (.slice pa0 pn0 pc0) (y_move rfl) ?_
  refine pl_val (.int .i64 (a_.length : Int)) (y_len' Sl26 (rs_len h0) rfl) ?_
  refine pl_val (.bool (decide (k18 < (a_.length : Int)))) (y_lss rfl rfl) ?_
  refine c_nil ?_
  refine c_condT (congrArg Value.bool (decide_eq_true hlt)) ?_
  refine wp_skip ?_
  refine c_seq ?_
  refine wp_block ?_
  refine c_seq ?_
  refine x_start [] Mx rfl ?_
  have a2 := Chg.drew a0
  generalize World.drew a0 = b1 at a2 ⊢
  have h0 := h0.ext a2
  have h1 := h1.ext a2
  have hC := hC.ext a2
  have hO := hO.ext a2
  have hS := Chg.refl [] b1
  refine x_p 0 (.slice pa0 pn0 pc0) rfl (by kernel_rfl)  (fun _ => y_move rfl) (fun _ => hS) ?_
  refine x_p 1 (.int .i64 k18) rfl (by kernel_rfl)  (fun _ => y_move rfl) (fun _ => hS) ?_
  obtain ⟨x23, b2, hs⟩ := bind_some hs
  obtain ⟨b3, b4, b5, a4⟩ := rs_idx Sl26 Sz64 h0 b2
  refine x_p 2 (.pointer (some ⟨b3, b4, none⟩)) rfl (by kernel_rfl)  (fun _ => b5 _ _ _ _ _ _ _ _ _ rfl rfl) (fun _ => hS) ?_
  obtain ⟨d8, b6, b7⟩ := at_load Ag64 Sz64 (by intro h; cases h) a4
  obtain ⟨d9, rfl, b8⟩ := b7
  obtain ⟨e0, e1, rfl, b9, c0⟩ := pr_open b8
  obtain rfl := int_rel b9
  obtain ⟨c1, c2, c3, rfl, a5⟩ := rs_rel c0
  refine x_l 3 (.agg #[(.int .i64 x23.1), (.slice c1 c2 c3)]) rfl (by kernel_rfl)  (fun w' hw' => y_load rfl (b6 w' hw')) hS ?_
  refine x_p 4 (.slice pa1 pn1 pc1) rfl (by kernel_rfl)  (fun _ => y_move rfl) (fun _ => hS) ?_
  refine x_p 5 (.int .i64 k18) rfl (by kernel_rfl)  (fun _ => y_move rfl) (fun _ => hS) ?_
  obtain ⟨x27, c4, hs⟩ := bind_some hs
  obtain ⟨c5, c6, c7, a6⟩ := rs_idx Sl26 Sz64 h1 c4
  refine x_p 6 (.pointer (some ⟨c5, c6, none⟩)) rfl (by kernel_rfl)  (fun _ => c7 _ _ _ _ _ _ _ _ _ rfl rfl) (fun _ => hS) ?_
  obtain ⟨e2, c8, c9⟩ := at_load Ag64 Sz64 (by intro h; cases h) a6
  obtain ⟨e3, rfl, d0⟩ := c9
  obtain ⟨e4, e5, rfl, d1, d2⟩ := pr_open d0
  obtain rfl := int_rel d1
  obtain ⟨d3, d4, d5, rfl, a7⟩ := rs_rel d2
  refine x_l 7 (.agg #[(.int .i64 x27.1), (.slice d3 d4 d5)]) rfl (by kernel_rfl)  (fun w' hw' => y_load rfl (c8 w' hw')) hS ?_
  refine x_one (i := 8) (by kernel_rfl) ?_
  obtain ⟨r32, d6, hs⟩ := bind_some hs
  refine xk_call (b := false) rfl  Bd47 rfl (c_laws_eqOp (M := M) (x23.1, x23.2) (x27.1, x27.2) a5 a7 hO.fut d6) rfl (by rintro _ _ _ ⟨rfl, a1⟩; exact hS.ext a1) ?_
  rintro _ e6 ⟨rfl, a1⟩
  have h0 := h0.ext a1
  have h1 := h1.ext a1
  have a5 := a5.ext a1
  have a7 := a7.ext a1
  have a4 := at_ext a4 a1
  have a6 := at_ext a6 a1
  have hC := hC.ext a1
  have hO := hO.ext a1
  have hS := hS.ext a1
  refine x_p 9 (.bool (!r32)) rfl (by kernel_rfl)  (fun _ => y_not rfl) (fun _ => hS) ?_
  refine x_end (by kernel_rfl) ?_
  clear hS
  rcases bif_some hs with ⟨a8, hs⟩ | ⟨a8, hs⟩
  ·refine c_condT (congrArg Value.bool a8) ?_
   refine c_sr ?_
   refine pl_val (.bool false) (y_assign rfl) ?_
   refine c_nil ?_
   refine wp_ret ?_
   cases hs
   exact ⟨_, fr_ovl 27 ⟨rfl, trivial⟩, hC⟩
  refine c_condF (congrArg Value.bool a8) ?_
  refine wp_skip ?_
  refine c_region ?_
  refine pl_val (.int .i64 k18) (y_move rfl) ?_
  refine pl_val (.int .i64 (w64 (k18 + 1))) (y_add rfl rfl) ?_
  refine pl_val (.int .i64 (w64 (k18 + 1))) (y_assign rfl) ?_
  refine c_nil ?_
  cases hs
  exact ⟨_, fr_ovl 27 ⟨rfl, rfl, congrArg (Value.int .i64) hw, trivial⟩, hC, hO, h0, h1⟩
 ·skip
  exact ⟨_, fr_ovl 27 ⟨rfl, rfl, rfl, trivial⟩, hC, hO, h0, h1⟩
 cases o20 with
 | nx _ => exact True.intro
 | rt r_ =>
  have hs := after_rt hs
  intro d7 a9 hK
  cases hs
  exact hK
 | br s16 =>
  have hs := after_br hs
  rintro d7 a0 ⟨σ, rfl, hC, hO, h0, h1⟩
  refine c_sr ?_
  refine pl_val (.bool true) (y_assign rfl) ?_
  refine c_nil ?_
  refine wp_ret ?_
  cases hs
  exact ⟨_, fr_ovl 27 ⟨rfl, trivial⟩, hC⟩

theorem Bd15 : Bodied Try.prog 15 := bodied Try.func15 (by kernel_rfl) rfl

def k_laws_eqAlgebra (M : Nat → Prop) (w0 : World) (r : Bool) (a : Act) (w : World) : Prop :=
  ∃ (σ : Nat → Value) , a = fr 16 (ovl σ [(4, (.bool r))]) ∧ Chg [] w0 w
def s_laws_eqAlgebra (a_ : Int × (List (Int × (List Int)))) (b : Int × (List (Int × (List Int)))) : Option (Bool) :=
  (bif (a_.1 != b.1) then some false else (s_laws_eqOpS a_.2 b.2).bind fun r7 =>
  (bif (!r7) then some false else some true))
set_option maxHeartbeats 4000000 in
theorem c_laws_eqAlgebra {M : Nat → Prop} {w : World} {pa0 : Option Addr} {pn0 pc0 : Nat} {pa1 : Option Addr} {pn1 pc1 : Nat} (a_ : Int × (List (Int × (List Int)))) (b : Int × (List (Int × (List Int)))) (h0 : (RT.rs (RT.pr (RT.int .i64) (RT.rs (RT.int .i64)))).val M w (.slice pa0 pn0 pc0) a_.2 ([])) (h1 : (RT.rs (RT.pr (RT.int .i64) (RT.rs (RT.int .i64)))).val M w (.slice pa1 pn1 pc1) b.2 ([])) (hM : ∀ g, w.heap.size ≤ g → M g) {r : Bool} (hs : s_laws_eqAlgebra a_ b = some r) :
    Gives Try.prog 16 [(.agg #[(.int .i64 a_.1), (.slice pa0 pn0 pc0)]), (.agg #[(.int .i64 b.1), (.slice pa1 pn1 pc1)])] w (fun v w' => v = (.bool r) ∧ Chg [] w w') := by
 refine calls_fr Try.func16 rfl Try.ntmps16 (Nat.le_of_ble_eq_true rfl) ?_
 have hO := Own.start (N := Nw w []) hM Nw.fut
 have hC := Chg.refl [] w
 unfold s_laws_eqAlgebra at hs
 refine wp_mono (Q := KPost (k_laws_eqAlgebra M w r)) ?_ (fun e a b6 h => ?_)
 rotate_left
 ·cases e
  case ret =>
   obtain ⟨σ, rfl, hrest⟩ := h
   exact ret1x Try.results16 (res_tmp rfl) ⟨rfl, hrest⟩
  all_goals exact (h : False).elim
 refine c_sr ?_
 obtain ⟨a9, a5, b2, b0, a4, a0⟩ := new_block w [(.int .i64 a_.1), (.slice pa0 pn0 pc0)] 30
 refine pl_val (w' := a9) (.pointer (some ⟨a5, 0, none⟩)) (y_box rfl (by rw [b2, b0]; kernel_rfl)) ?_
 have h0 := h0.ext a4
 have h1 := h1.ext a4
 have hC := hC.ext a4
 have hO := hO.new1 a4 b0 a0.lt
 obtain ⟨b3, a6, b4, b1, a2, a3⟩ := new_block a9 [(.int .i64 b.1), (.slice pa1 pn1 pc1)] 30
 refine pl_val (w' := b3) (.pointer (some ⟨a6, 0, none⟩)) (y_box rfl (by rw [b4, b1]; kernel_rfl)) ?_
 have h0 := h0.ext a2
 have h1 := h1.ext a2
 have a0 := a0.cn a2
 have hC := hC.ext a2
 have hO := hO.new1 a2 b1 a3.lt
 refine pl_val (.bool false) (y_assign rfl) ?_
 refine c_nil ?_
 refine c_seq ?_
 refine c_sr ?_
 refine pl_val (.pointer (some ⟨a5, 0, none⟩)) (y_faddr rfl Fa30x0) ?_
 refine pl_val (.int .i64 a_.1) (y_load rfl ((box_load Ag3 Sz3 a0 [] [(.int .i64 a_.1)] [(.slice pa0 pn0 pc0)] rfl rfl (fun _ => rfl)) _ (Chg.refl _ _))) ?_
 refine pl_val (.pointer (some ⟨a6, 0, none⟩)) (y_faddr rfl Fa30x0) ?_
 refine pl_val (.int .i64 b.1) (y_load rfl ((box_load Ag3 Sz3 a3 [] [(.int .i64 b.1)] [(.slice pa1 pn1 pc1)] rfl rfl (fun _ => rfl)) _ (Chg.refl _ _))) ?_
 refine pl_val (.bool (a_.1 != b.1)) (y_neq rfl rfl) ?_
 refine c_nil ?_
 rcases bif_some hs with ⟨a7, hs⟩ | ⟨a7, hs⟩
 ·refine c_condT (congrArg Value.bool a7) ?_
  refine c_sr ?_
  refine pl_val (.bool false) (y_assign rfl) ?_
  refine c_nil ?_
  refine wp_ret ?_
  cases hs
  exact ⟨_, fr_ovl 16 ⟨rfl, trivial⟩, hC⟩
 refine c_condF (congrArg Value.bool a7) ?_
 refine wp_skip ?_
 refine c_seq ?_
 refine c_sr ?_
 refine pl_val (.pointer (some ⟨a5, 1, none⟩)) (y_faddr rfl Fa30x1) ?_
 refine pl_val (.slice pa0 pn0 pc0) (y_load rfl ((box_load Ag26 Sz26 a0 [(.int .i64 a_.1)] [(.slice pa0 pn0 pc0)] [] rfl rfl (fun _ => rfl)) _ (Chg.refl _ _))) ?_
 refine pl_val (.pointer (some ⟨a6, 1, none⟩)) (y_faddr rfl Fa30x1) ?_
 refine pl_val (.slice pa1 pn1 pc1) (y_load rfl ((box_load Ag26 Sz26 a3 [(.int .i64 b.1)] [(.slice pa1 pn1 pc1)] [] rfl rfl (fun _ => rfl)) _ (Chg.refl _ _))) ?_
 obtain ⟨r7, b5, hs⟩ := bind_some hs
 refine pl_call Bd15 rfl (c_laws_eqOpS (M := M) a_.2 b.2 h0 h1 hO.fut b5) ?_
 rintro _ b7 ⟨rfl, a1⟩
 have h0 := h0.ext a1
 have h1 := h1.ext a1
 have a0 := a0.cn a1
 have a3 := a3.cn a1
 have hC := hC.ext a1
 have hO := hO.ext a1
 refine pl_val (.bool (!r7)) (y_not rfl) ?_
 refine c_nil ?_
 have hO := hO.drop
 have hO := hO.drop
 rcases bif_some hs with ⟨a8, hs⟩ | ⟨a8, hs⟩
 ·refine c_condT (congrArg Value.bool a8) ?_
  refine c_sr ?_
  refine pl_val (.bool false) (y_assign rfl) ?_
  refine c_nil ?_
  refine wp_ret ?_
  cases hs
  exact ⟨_, fr_ovl 16 ⟨rfl, trivial⟩, hC⟩
 refine c_condF (congrArg Value.bool a8) ?_
 refine wp_skip ?_
 refine c_sr ?_
 refine pl_val (.bool true) (y_assign rfl) ?_
 refine c_nil ?_
 refine wp_ret ?_
 cases hs
 exact ⟨_, fr_ovl 16 ⟨rfl, trivial⟩, hC⟩

theorem Ag24 : AggT Try.prog 24 true := fun _ => by kernel_rfl

theorem Sz24 : SzT Try.prog 24 2 := ⟨_, rfl, rfl⟩

theorem Bd11 : Bodied Try.prog 11 := bodied Try.func11 (by kernel_rfl) rfl

theorem Bd13 : Bodied Try.prog 13 := bodied Try.func13 (by kernel_rfl) rfl

theorem Bd32 : Bodied Try.prog 32 := bodied Try.func32 (by kernel_rfl) rfl

theorem Bd33 : Bodied Try.prog 33 := bodied Try.func33 (by kernel_rfl) rfl

theorem Bd16 : Bodied Try.prog 16 := bodied Try.func16 (by kernel_rfl) rfl

def k_laws_FnExactIsDirectChain (M : Nat → Prop) (w0 : World) (r : Bool) (a : Act) (w : World) : Prop :=
  ∃ (σ : Nat → Value) , a = fr 58 (ovl σ [(4, (.bool r))]) ∧ Chg [] w0 w
def s_laws_FnExactIsDirectChain (aA : Int × (List (Int × (List Int)))) (aList : List (Int × (List Int))) : Option (Bool) :=
  (s_laws_szAlgebra (aA.1, aA.2) 1048576).bind fun r5 =>
  (bif (decide (r5 < 0)) then some true else (s_laws_szOpS aList r5).bind fun r8 =>
  (bif (decide (r8 < 0)) then some true else (s_laws_toAlgebra (aA.1, aA.2)).bind fun r11 =>
  (s_laws_toOpS aList).bind fun r14 =>
  (s_spec_IsDirectChain (r11.1, r11.2) r14).bind fun r17 =>
  (s_laws_toAlgebra (aA.1, aA.2)).bind fun r19 =>
  (s_laws_toOpS aList).bind fun r24 =>
  (s_impl_IsDirectChain (r19.1, r19.2) r24).bind fun r27 =>
  (bif ((!(r27.1 == r17.1)) || (!(r27.2 == r17.2))) then some false else (s_laws_toAlgebra (aA.1, aA.2)).bind fun r41 =>
  (s_laws_eqAlgebra (r19.1, r19.2) (r41.1, r41.2)).bind fun r44 =>
  (bif (!r44) then some false else (s_laws_toOpS aList).bind fun r47 =>
  (s_laws_eqOpS r24 r47).bind fun r50 =>
  (bif (!r50) then some false else some true)))))
set_option maxHeartbeats 4000000 in
theorem c_laws_FnExactIsDirectChain {M : Nat → Prop} {w : World} {pa0 : Option Addr} {pn0 pc0 : Nat} {pa1 : Option Addr} {pn1 pc1 : Nat} (aA : Int × (List (Int × (List Int)))) (aList : List (Int × (List Int))) (h0 : (RT.rs (RT.pr (RT.int .i64) (RT.rs (RT.int .i64)))).val M w (.slice pa0 pn0 pc0) aA.2 ([])) (h1 : (RT.rs (RT.pr (RT.int .i64) (RT.rs (RT.int .i64)))).val M w (.slice pa1 pn1 pc1) aList ([])) (hM : ∀ g, w.heap.size ≤ g → M g) {r : Bool} (hs : s_laws_FnExactIsDirectChain aA aList = some r) :
    Gives Try.prog 8 [(.agg #[(.int .i64 aA.1), (.slice pa0 pn0 pc0)]), (.slice pa1 pn1 pc1)] w (fun v w' => v = (.bool r) ∧ Chg [] w w') := by
 refine calls_fr Try.func8 rfl Try.ntmps8 (Nat.le_of_ble_eq_true rfl) ?_
 have hO := Own.start (N := Nw w []) hM Nw.fut
 have hC := Chg.refl [] w
 unfold s_laws_FnExactIsDirectChain at hs
 refine wp_mono (Q := KPost (k_laws_FnExactIsDirectChain M w r)) ?_ (fun e a i1 h => ?_)
 rotate_left
 ·cases e
  case ret =>
   obtain ⟨σ, rfl, hrest⟩ := h
   exact ret1x Try.results8 (res_tmp rfl) ⟨rfl, hrest⟩
  all_goals exact (h : False).elim
 refine c_sr ?_
 obtain ⟨f2, b0, f3, e4, d0, a0⟩ := new_block w [(.int .i64 aA.1), (.slice pa0 pn0 pc0)] 24
 refine pl_val (w' := f2) (.pointer (some ⟨b0, 0, none⟩)) (y_box rfl (by rw [f3, e4]; kernel_rfl)) ?_
 have h0 := h0.ext d0
 have h1 := h1.ext d0
 have hC := hC.ext d0
 have hO := hO.new1 d0 e4 a0.lt
 refine pl_val (.bool false) (y_assign rfl) ?_
 refine c_nil ?_
 refine c_sr ?_
 refine pl_val (.int .i64 1048576) (y_assign rfl) ?_
 refine c_nil ?_
 refine c_sr ?_
 refine pl_val (.agg #[(.int .i64 aA.1), (.slice pa0 pn0 pc0)]) (y_load rfl ((box_load Ag24 Sz24 a0 [] [(.int .i64 aA.1), (.slice pa0 pn0 pc0)] [] rfl rfl (fun h => nomatch h)) _ (Chg.refl _ _))) ?_
 refine pl_val (.int .i64 1048576) (y_move rfl) ?_
 obtain ⟨r5, f4, hs⟩ := bind_some hs
 refine pl_call Bd11 rfl (c_laws_szAlgebra (M := M) (aA.1, aA.2) 1048576 h0 hO.fut f4) ?_
 rintro _ i2 ⟨rfl, c4⟩
 have h0 := h0.ext c4
 have h1 := h1.ext c4
 have a0 := a0.cn c4
 have hC := hC.ext c4
 have hO := hO.ext c4
 refine pl_val (.int .i64 r5) (y_assign rfl) ?_
 refine c_nil ?_
 refine c_seq ?_
 refine c_sr ?_
 refine pl_val (.int .i64 r5) (y_move rfl) ?_
 refine pl_val (.bool (decide (r5 < 0))) (y_lss rfl rfl) ?_
 refine c_nil ?_
 rcases bif_some hs with ⟨d6, hs⟩ | ⟨d6, hs⟩
 ·refine c_condT (congrArg Value.bool d6) ?_
  refine c_sr ?_
  refine pl_val (.bool true) (y_assign rfl) ?_
  refine c_nil ?_
  refine wp_ret ?_
  cases hs
  exact ⟨_, fr_ovl 58 ⟨rfl, trivial⟩, hC⟩
 refine c_condF (congrArg Value.bool d6) ?_
 refine wp_skip ?_
 refine c_sr ?_
 refine pl_val (.slice pa1 pn1 pc1) (y_move rfl) ?_
 refine pl_val (.int .i64 r5) (y_move rfl) ?_
 obtain ⟨r8, f5, hs⟩ := bind_some hs
 refine pl_call Bd28 rfl (c_laws_szOpS (M := M) aList r5 h1 hO.fut f5) ?_
 rintro _ i3 ⟨rfl, c5⟩
 have h0 := h0.ext c5
 have h1 := h1.ext c5
 have a0 := a0.cn c5
 have hC := hC.ext c5
 have hO := hO.ext c5
 refine pl_val (.int .i64 r8) (y_assign rfl) ?_
 refine c_nil ?_
 refine c_seq ?_
 refine c_sr ?_
 refine pl_val (.int .i64 r8) (y_move rfl) ?_
 refine pl_val (.bool (decide (r8 < 0))) (y_lss rfl rfl) ?_
 refine c_nil ?_
 rcases bif_some hs with ⟨d7, hs⟩ | ⟨d7, hs⟩
 ·refine c_condT (congrArg Value.bool d7) ?_
  refine c_sr ?_
  refine pl_val (.bool true) (y_assign rfl) ?_
  refine c_nil ?_
  refine wp_ret ?_
  cases hs
  exact ⟨_, fr_ovl 58 ⟨rfl, trivial⟩, hC⟩
 refine c_condF (congrArg Value.bool d7) ?_
 refine wp_skip ?_
 refine c_sr ?_
 refine pl_val (.agg #[(.int .i64 aA.1), (.slice pa0 pn0 pc0)]) (y_load rfl ((box_load Ag24 Sz24 a0 [] [(.int .i64 aA.1), (.slice pa0 pn0 pc0)] [] rfl rfl (fun h => nomatch h)) _ (Chg.refl _ _))) ?_
 obtain ⟨r11, f6, hs⟩ := bind_some hs
 refine pl_call Bd13 rfl (c_laws_toAlgebra (M := M) (aA.1, aA.2) h0 hO.fut f6) ?_
 rintro _ i4 ⟨i5, i6, i7, d8, rfl, c6, c7, f7⟩
 have h0 := h0.ext c6
 have h1 := h1.ext c6
 have a0 := a0.cn c6
 have hC := hC.ext c6
 have hO := Own.join0 hO c6 f7
 have hO := hO.perm (R := d8 ++ (([b0]) ++ ([]))) (by simp)
 refine pl_val (.slice pa1 pn1 pc1) (y_move rfl) ?_
 obtain ⟨r14, f8, hs⟩ := bind_some hs
 refine pl_call Bd30 rfl (c_laws_toOpS (M := M) aList h1 hO.fut f8) ?_
 rintro _ i9 ⟨j0, j1, j2, e5, rfl, b6, d9, f9⟩
 have h0 := h0.ext b6
 have h1 := h1.ext b6
 have a0 := a0.cn b6
 have c7 := c7.ext b6
 have hC := hC.ext b6
 have hO := Own.join0 hO b6 f9
 have hO := hO.perm (R := e5 ++ (d8 ++ (([b0]) ++ ([])))) (by simp)
 have hO := hO.fr1
 obtain ⟨r17, g0, hs⟩ := bind_some hs
 refine pl_call Bd32 rfl (c_spec_IsDirectChain (M := (Less (Less M d8) e5)) (r11.1, r11.2) r14 ((((Frz.os (Frz.pr Frz.int (Frz.os Frz.int)))).val c7 Less.sub Less.not).sub Less.sub) (((Frz.os (Frz.pr Frz.int (Frz.os Frz.int)))).val (d9.sub Less.sub) Less.sub Less.not) (hO.less).less.fut g0) ?_
 rintro _ j3 ⟨rfl, b4⟩
 have h0 := h0.ext b4
 have h1 := h1.ext b4
 have a0 := a0.cn b4
 have c7 := c7.ext b4
 have d9 := d9.ext b4
 have hC := hC.ext b4
 have hO := hO.ext b4
 refine pl_val (.tuple #[(.bool r17.1), (.bool r17.2)]) (y_move rfl) ?_
 refine pl_val (.bool r17.1) (y_extract rfl (by kernel_rfl)) ?_
 refine pl_val (.bool r17.2) (y_extract rfl (by kernel_rfl)) ?_
 refine pl_val (.bool r17.1) (y_assign rfl) ?_
 refine pl_val (.bool r17.2) (y_assign rfl) ?_
 refine c_nil ?_
 have hO := hO.drop
 have hO := hO.drop
 refine c_sr ?_
 refine pl_val (.agg #[(.int .i64 aA.1), (.slice pa0 pn0 pc0)]) (y_load rfl ((box_load Ag24 Sz24 a0 [] [(.int .i64 aA.1), (.slice pa0 pn0 pc0)] [] rfl rfl (fun h => nomatch h)) _ (Chg.refl _ _))) ?_
 obtain ⟨r19, g1, hs⟩ := bind_some hs
 refine pl_call Bd13 rfl (c_laws_toAlgebra (M := M) (aA.1, aA.2) h0 hO.fut g1) ?_
 rintro _ g2 ⟨b7, b8, b9, c0, rfl, c8, a1, g3⟩
 have h0 := h0.ext c8
 have h1 := h1.ext c8
 have a0 := a0.cn c8
 have hC := hC.ext c8
 have hO := Own.join0 hO c8 g3
 have hO := hO.perm (R := c0 ++ (([b0]) ++ ([]))) (by simp)
 obtain ⟨g4, c1, g5, e6, c2, e7⟩ := new_block g2 [(.int .i64 0), (.slice none 0 0)] 30
 refine pl_val (w' := g4) (.pointer (some ⟨c1, 0, none⟩)) (y_alloc (by rw [g5, e6]; kernel_rfl)) ?_
 have h0 := h0.ext c2
 have h1 := h1.ext c2
 have a0 := a0.cn c2
 have a1 := a1.ext c2
 have hC := hC.ext c2
 have hO := hO.new1 c2 e6 e7.lt
 obtain ⟨e8, g6, c3, a2⟩ := box_store (P := Try.prog) e7 [] [(.int .i64 0), (.slice none 0 0)] [] [(.int .i64 r19.1), (.slice b7 b8 b9)] rfl rfl (by intro u hu; simp only [List.mem_cons, List.not_mem_nil, or_false] at hu; rcases hu with rfl | rfl <;> rfl)
 refine pl_skip (w' := e8) (ys_store rfl rfl (g6 _ _ rfl Sz30)) ?_
 have h0 := h0.mt c3 hO same_
 have h1 := h1.mt c3 hO same_
 have a0 := a0.ap c3 hO same_ (mem_r (mem_l (List.mem_singleton.2 rfl)))
 have a1 := a1.ma c3 hO same_ (fun _ e => (mem_l (e)))
 have hC := hC.st c3 hO same_
 have hO := hO.ext c3
 have a2 : BoxV e8 c1 30 [(.int .i64 r19.1), (.slice b7 b8 b9)] := a2
 refine c_nil ?_
 refine c_sr ?_
 refine pl_val (.slice pa1 pn1 pc1) (y_move rfl) ?_
 obtain ⟨r24, g7, hs⟩ := bind_some hs
 refine pl_call Bd30 rfl (c_laws_toOpS (M := M) aList h1 hO.fut g7) ?_
 rintro _ j4 ⟨d1, d2, d3, c9, rfl, b5, a3, g8⟩
 have h0 := h0.ext b5
 have h1 := h1.ext b5
 have a0 := a0.cn b5
 have a1 := a1.ext b5
 have a2 := a2.cn b5
 have hC := hC.ext b5
 have hO := Own.join0 hO b5 g8
 have hO := hO.perm (R := c9 ++ (([c1]) ++ (c0 ++ (([b0]) ++ ([]))))) (by simp)
 refine pl_val (.slice d1 d2 d3) (y_assign rfl) ?_
 refine c_nil ?_
 refine c_sr ?_
 refine pl_val (.agg #[(.int .i64 r19.1), (.slice b7 b8 b9)]) (y_load rfl ((box_load Ag30 Sz30 a2 [] [(.int .i64 r19.1), (.slice b7 b8 b9)] [] rfl rfl (fun h => nomatch h)) _ (Chg.refl _ _))) ?_
 refine pl_val (.slice d1 d2 d3) (y_move rfl) ?_
 have hO := hO.fr2
 obtain ⟨r27, g9, hs⟩ := bind_some hs
 refine pl_call Bd33 rfl (c_impl_IsDirectChain (M := (Less (Less M c0) c9)) (r19.1, r19.2) r24 ((((Frz.os (Frz.pr Frz.int (Frz.os Frz.int)))).val a1 Less.sub Less.not).sub Less.sub) (((Frz.os (Frz.pr Frz.int (Frz.os Frz.int)))).val (a3.sub Less.sub) Less.sub Less.not) (hO.less).less.fut g9) ?_
 rintro _ e9 ⟨rfl, b1⟩
 have h0 := h0.ext b1
 have h1 := h1.ext b1
 have a0 := a0.cn b1
 have a1 := a1.ext b1
 have a2 := a2.cn b1
 have a3 := a3.ext b1
 have hC := hC.ext b1
 have hO := hO.ext b1
 refine pl_val (.tuple #[(.bool r27.1), (.bool r27.2)]) (y_move rfl) ?_
 refine pl_val (.bool r27.1) (y_extract rfl (by kernel_rfl)) ?_
 refine pl_val (.bool r27.2) (y_extract rfl (by kernel_rfl)) ?_
 refine pl_val (.bool r27.1) (y_assign rfl) ?_
 refine pl_val (.bool r27.2) (y_assign rfl) ?_
 refine c_nil ?_
 refine c_seq ?_
 refine c_seq ?_
 refine c_mid (I := fun a d4 => ∃ (σ : Nat → Value), a = fr 58 (ovl σ [(1, (.slice pa1 pn1 pc1)), (2, (.pointer (some ⟨b0, 0, none⟩))), (4, (.bool false)), (8, (.pointer (some ⟨c1, 0, none⟩))), (9, (.slice d1 d2 d3)), (47, (.bool ((!(r27.1 == r17.1)) || (!(r27.2 == r17.2)))))]) ∧ Chg [] e9 d4) ?_ ?_
 ·have hMid := Chg.refl [] e9
  refine c_region ?_
  refine pl_val (.bool r27.1) (y_move rfl) ?_
  refine pl_val (.bool r17.1) (y_move rfl) ?_
  refine pl_val (.bool (!(r27.1 == r17.1))) (y_bneq Try.underlying4 rfl rfl) ?_
  refine pl_val (.bool (!(r27.1 == r17.1))) (y_move rfl) ?_
  rcases Bool.eq_false_or_eq_true ((!(r27.1 == r17.1))) with a5 | a5
  ·skip
   refine pl_not (tg := 43) (by kernel_rfl) (congrArg Value.bool a5) ?_
   refine pl_not (tg := 43) (by kernel_rfl) (congrArg Value.bool a5) ?_
   refine pl_not (tg := 43) (by kernel_rfl) (congrArg Value.bool a5) ?_
   refine pl_val (.bool ((!(r27.1 == r17.1)) || (!(r27.2 == r17.2)))) (y_pick_t (congrArg Value.bool a5) (congrArg Value.bool (by rw [a5]; rfl))) ?_
   refine c_nil ?_
   exact ⟨_, fr_ovl 58 ⟨rfl, rfl, rfl, rfl, rfl, rfl, trivial⟩, hMid⟩
  refine pl_yes (.bool r27.2) (tg := 43) (by kernel_rfl) (congrArg Value.bool a5) (y_move rfl) ?_
  refine pl_yes (.bool r17.2) (tg := 43) (by kernel_rfl) (congrArg Value.bool a5) (y_move rfl) ?_
  refine pl_yes (.bool (!(r27.2 == r17.2))) (tg := 43) (by kernel_rfl) (congrArg Value.bool a5) (y_bneq Try.underlying4 rfl rfl) ?_
  refine pl_val (.bool ((!(r27.1 == r17.1)) || (!(r27.2 == r17.2)))) (y_pick_f (congrArg Value.bool a5) (congrArg Value.bool (by rw [a5]; rfl))) ?_
  refine c_nil ?_
  exact ⟨_, fr_ovl 58 ⟨rfl, rfl, rfl, rfl, rfl, rfl, trivial⟩, hMid⟩
 rintro j5 d4 ⟨σ, rfl, b2⟩
 have h0 := h0.ext b2
 have h1 := h1.ext b2
 have a0 := a0.cn b2
 have a1 := a1.ext b2
 have a2 := a2.cn b2
 have a3 := a3.ext b2
 have hC := hC.ext b2
 have hO := hO.ext b2
 rcases bif_some hs with ⟨e0, hs⟩ | ⟨e0, hs⟩
 ·refine c_condT (congrArg Value.bool e0) ?_
  refine c_sr ?_
  refine pl_val (.bool false) (y_assign rfl) ?_
  refine c_nil ?_
  refine wp_ret ?_
  cases hs
  exact ⟨_, fr_ovl 58 ⟨rfl, trivial⟩, hC⟩
 refine c_condF (congrArg Value.bool e0) ?_
 refine wp_skip ?_
 refine c_seq ?_
 refine c_seq ?_
 refine x_start [] Mx rfl ?_
 have a8 := Chg.drew d4
 generalize World.drew d4 = h2 at a8 ⊢
 have h0 := h0.ext a8
 have h1 := h1.ext a8
 have a0 := a0.cn a8
 have a1 := a1.ext a8
 have a2 := a2.cn a8
 have a3 := a3.ext a8
 have hC := hC.ext a8
 have hO := hO.ext a8
 have hS := Chg.refl [] h2
 refine x_l 0 (.agg #[(.int .i64 r19.1), (.slice b7 b8 b9)]) rfl (by kernel_rfl)  (fun w' hw' => y_load rfl ((box_load Ag30 Sz30 a2 [] [(.int .i64 r19.1), (.slice b7 b8 b9)] [] rfl rfl (fun h => nomatch h)) w' hw')) hS ?_
 refine x_l 1 (.agg #[(.int .i64 aA.1), (.slice pa0 pn0 pc0)]) rfl (by kernel_rfl)  (fun w' hw' => y_load rfl ((box_load Ag24 Sz24 a0 [] [(.int .i64 aA.1), (.slice pa0 pn0 pc0)] [] rfl rfl (fun h => nomatch h)) w' hw')) hS ?_
 refine x_one (i := 2) (by kernel_rfl) ?_
 obtain ⟨r41, h3, hs⟩ := bind_some hs
 refine xk_call (b := false) rfl  Bd13 rfl (c_laws_toAlgebra (M := M) (aA.1, aA.2) h0 hO.fut h3) rfl (by rintro _ _ _ ⟨h4, h5, h6, d5, rfl, a6, b3, f0⟩; exact hS.ext a6) ?_
 rintro _ j6 ⟨h4, h5, h6, d5, rfl, a6, b3, f0⟩
 have h0 := h0.ext a6
 have h1 := h1.ext a6
 have a0 := a0.cn a6
 have a1 := a1.ext a6
 have a2 := a2.cn a6
 have a3 := a3.ext a6
 have hC := hC.ext a6
 have hO := Own.join0 hO a6 f0
 have hO := hO.perm (R := d5 ++ (c0 ++ (c9 ++ (([c1]) ++ (([b0]) ++ ([])))))) (by simp)
 have hS := hS.ext a6
 refine x_one (i := 3) (by kernel_rfl) ?_
 have hO := hO.fr1
 obtain ⟨r44, h7, hs⟩ := bind_some hs
 refine xk_call (b := false) rfl  Bd16 rfl (c_laws_eqAlgebra (M := (Less (Less M c0) d5)) (r19.1, r19.2) (r41.1, r41.2) ((((Frz.os (Frz.pr Frz.int (Frz.os Frz.int)))).val a1 Less.sub Less.not).sub Less.sub) (((Frz.os (Frz.pr Frz.int (Frz.os Frz.int)))).val (b3.sub Less.sub) Less.sub Less.not) (hO.less).less.fut h7) rfl (by rintro _ _ _ ⟨rfl, a4⟩; exact hS.ext a4) ?_
 rintro _ j7 ⟨rfl, a4⟩
 have h0 := h0.ext a4
 have h1 := h1.ext a4
 have a0 := a0.cn a4
 have a1 := a1.ext a4
 have a2 := a2.cn a4
 have a3 := a3.ext a4
 have b3 := b3.ext a4
 have hC := hC.ext a4
 have hO := hO.ext a4
 have hS := hS.ext a4
 refine x_p 4 (.bool (!r44)) rfl (by kernel_rfl)  (fun _ => y_not rfl) (fun _ => hS) ?_
 refine x_end (by kernel_rfl) ?_
 clear hS
 rcases bif_some hs with ⟨e1, hs⟩ | ⟨e1, hs⟩
 ·refine c_condT (congrArg Value.bool e1) ?_
  refine c_sr ?_
  refine pl_val (.bool false) (y_assign rfl) ?_
  refine c_nil ?_
  have hO := hO.drop
  have hO := hO.drop
  have hO := hO.fr1
  have hO := hO.drop
  have hO := hO.fr1
  have hO := hO.drop
  refine wp_ret ?_
  cases hs
  exact ⟨_, fr_ovl 58 ⟨rfl, trivial⟩, hC⟩
 refine c_condF (congrArg Value.bool e1) ?_
 refine wp_skip ?_
 refine c_seq ?_
 refine c_sr ?_
 refine pl_val (.slice d1 d2 d3) (y_move rfl) ?_
 refine pl_val (.slice pa1 pn1 pc1) (y_move rfl) ?_
 obtain ⟨r47, h8, hs⟩ := bind_some hs
 refine pl_call Bd30 rfl (c_laws_toOpS (M := M) aList h1 hO.fut h8) ?_
 rintro _ j8 ⟨j9, k0, k1, f1, rfl, a9, e2, h9⟩
 have h0 := h0.ext a9
 have h1 := h1.ext a9
 have a0 := a0.cn a9
 have a1 := a1.ext a9
 have a2 := a2.cn a9
 have a3 := a3.ext a9
 have b3 := b3.ext a9
 have hC := hC.ext a9
 have hO := Own.join0 hO a9 h9
 have hO := hO.perm (R := f1 ++ (c0 ++ (d5 ++ (c9 ++ (([c1]) ++ (([b0]) ++ ([]))))))) (by simp)
 have hO := hO.fr3
 obtain ⟨r50, i0, hs⟩ := bind_some hs
 refine pl_call Bd15 rfl (c_laws_eqOpS (M := (Less (Less M c9) f1)) r24 r47 ((((Frz.os (Frz.pr Frz.int (Frz.os Frz.int)))).val a3 Less.sub Less.not).sub Less.sub) (((Frz.os (Frz.pr Frz.int (Frz.os Frz.int)))).val (e2.sub Less.sub) Less.sub Less.not) (hO.less).less.fut i0) ?_
 rintro _ k2 ⟨rfl, a7⟩
 have h0 := h0.ext a7
 have h1 := h1.ext a7
 have a0 := a0.cn a7
 have a1 := a1.ext a7
 have a2 := a2.cn a7
 have a3 := a3.ext a7
 have b3 := b3.ext a7
 have e2 := e2.ext a7
 have hC := hC.ext a7
 have hO := hO.ext a7
 refine pl_val (.bool (!r50)) (y_not rfl) ?_
 refine c_nil ?_
 have hO := hO.drop
 have hO := hO.drop
 have hO := hO.drop
 have hO := hO.drop
 have hO := hO.drop
 have hO := hO.drop
 rcases bif_some hs with ⟨e3, hs⟩ | ⟨e3, hs⟩
 ·refine c_condT (congrArg Value.bool e3) ?_
  refine c_sr ?_
  refine pl_val (.bool false) (y_assign rfl) ?_
  refine c_nil ?_
  refine wp_ret ?_
  cases hs
  exact ⟨_, fr_ovl 58 ⟨rfl, trivial⟩, hC⟩
 refine c_condF (congrArg Value.bool e3) ?_
 refine wp_skip ?_
 refine c_sr ?_
 refine pl_val (.bool true) (y_assign rfl) ?_
 refine c_nil ?_
 refine wp_ret ?_
 cases hs
 exact ⟨_, fr_ovl 58 ⟨rfl, trivial⟩, hC⟩

end Go.Proofs
