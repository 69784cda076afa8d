/- What functions of the program compute, as plain functions, and that a call gives just that. Conditions: those named in each theorem. -/
import Derived.Test.YtmghggenjagioaaF2
set_option linter.unusedVariables false
namespace Go.Proofs
open Go.G Go.RowKit
set_option maxRecDepth 100000

def k_impl_clone (M : Nat → Prop) (w0 : World) (r : (List Int)) (a : Act) (w : World) : Prop :=
  ∃ (σ : Nat → Value) (ra0 : Option Addr) (rn0 rc0 : Nat) (rf0 : List Nat), a = fr 6 (ovl σ [(2, (.slice ra0 rn0 rc0))]) ∧ Chg [] w0 w ∧ (RT.os 3 (RT.int .i64)).val M w (.slice ra0 rn0 rc0) r rf0 ∧ Option.isNone ra0 = false ∧ Own (Nw w0 []) (fun _ => True) w (rf0 ++ ([]))
def s_impl_clone (list : List Int) : Option ((List Int)) :=
  (app ([]) list).bind fun y5 =>
  some y5
set_option maxHeartbeats 4000000 in
theorem c_impl_clone {M : Nat → Prop} {w : World} {pa0 : Option Addr} {pn0 pc0 : Nat} (list : List Int) (h0 : (RT.rs (RT.int .i64)).val M w (.slice pa0 pn0 pc0) list ([])) (hM : ∀ g, w.heap.size ≤ g → M g) {r : (List Int)} (hs : s_impl_clone list = some r) :
    Gives Try.prog 113 [(.slice pa0 pn0 pc0)] w (fun v w' => ∃ (ra0 : Option Addr) (rn0 rc0 : Nat) (rf0 : List Nat), v = (.slice ra0 rn0 rc0) ∧ Chg [] w w' ∧ (RT.os 3 (RT.int .i64)).val M w' (.slice ra0 rn0 rc0) r rf0 ∧ Option.isNone ra0 = false ∧ Own (Nw w []) (fun _ => True) w' (rf0 ++ ([]))) := by
 refine calls_fr Try.func113 rfl Try.ntmps113 (Nat.le_of_ble_eq_true rfl) ?_
 have hO := Own.start (N := Nw w []) hM Nw.fut
 have hC := Chg.refl [] w
 unfold s_impl_clone at hs
 refine wp_mono (Q := KPost (k_impl_clone M w r)) ?_ (fun e a b9 h => ?_)
 rotate_left
 ·cases e
  case ret =>
   obtain ⟨σ, ra0, rn0, rc0, rf0, rfl, hrest⟩ := h
   exact ret1x Try.results113 (res_tmp rfl) ⟨ra0, rn0, rc0, rf0, rfl, hrest⟩
  all_goals exact (h : False).elim
 refine c_sr ?_
 refine pl_val (.slice none 0 0) (y_assign rfl) ?_
 refine c_nil ?_
 refine c_sr ?_
 obtain ⟨a8, a1, b2, a9, a2, b0⟩ := new_block w [] 3
 refine pl_val (w' := a8) (.slice (some ⟨a1, 0, none⟩) 0 0) (y_bslice rfl (by rw [b2, a9]; kernel_rfl)) ?_
 have h0 := h0.ext a2
 have hC := hC.ext a2
 have hO := hO.new1 a2 a9 b0.lt
 have a0 := os_of_box (r := (RT.int .i64)) (M := M) (css := []) (fps := []) (xs := ([] : List Int)) b0 trivial (Nat.zero_le _) (List.nodup_cons.2 ⟨(fun h => nomatch h), List.nodup_nil⟩)
 have a0 : (RT.os 3 (RT.int .i64)).val M a8 (.slice (some ⟨a1, 0, none⟩) 0 0) [] [a1] := a0
 refine pl_val (.slice pa0 pn0 pc0) (y_move rfl) ?_
 obtain ⟨y5, b3, hs⟩ := bind_some hs
 obtain ⟨a3, a4, a5, b4, b5, b6, a6, b7, a7, b8⟩ := app_rs_nn Rw37 b3 a0 h0 hO.inM
 have b1 := os_block a0
 refine pl_val (w' := b4) (.slice a3 a4 a5) (y_append rfl rfl (b6 _)) ?_
 have h0 := h0.mt a6 hO b1
 have hC := hC.st a6 hO b1
 have hO := hO.grow a6 b7 (os_nodup a7) a7.fpl
 refine pl_val (.slice a3 a4 a5) (y_assign rfl) ?_
 refine c_nil ?_
 refine wp_ret ?_
 cases hs
 exact ⟨_, a3, a4, a5, b5, fr_ovl 6 ⟨rfl, trivial⟩, hC, a7, b8, hO.top⟩

theorem Bd121 : Bodied Try.prog 121 := bodied Try.func121 (by kernel_rfl) rfl

theorem Fa97x2 : ∀ (a : Addr) (w : World), (Instr.fieldAt 97 (.pointer (some a)) 2).run Try.prog w = .ok (.pointer (some (a.add 2))) w := fun _ _ => by kernel_rfl

theorem Ag95 : AggT Try.prog 95 false := fun _ => by kernel_rfl

theorem Sz95 : SzT Try.prog 95 1 := ⟨_, rfl, rfl⟩

theorem Zv4 : ∀ w, (zeroValue 4).run Try.prog w = .ok (Value.bool false) w := fun _ => by kernel_rfl

theorem Fa97x0 : ∀ (a : Addr) (w : World), (Instr.fieldAt 97 (.pointer (some a)) 0).run Try.prog w = .ok (.pointer (some (a.add 0))) w := fun _ _ => by kernel_rfl

theorem Fa97x1 : ∀ (a : Addr) (w : World), (Instr.fieldAt 97 (.pointer (some a)) 1).run Try.prog w = .ok (.pointer (some (a.add 1))) w := fun _ _ => by kernel_rfl

theorem Bd113 : Bodied Try.prog 113 := bodied Try.func113 (by kernel_rfl) rfl

def k_impl_found__add (M : Nat → Prop) (w0 : World) (vg0 : Nat) (pa0 : Option Addr) (pn0 pc0 : Nat) (pa1 : Option Addr) (pn1 pc1 : Nat) (va0x0 : Option Addr) (vn0x0 vc0x0 : Nat) (vf0x0 : List Nat) (va0x1 : Option Addr) (vn0x1 vc0x1 : Nat) (vf0x1 : List Nat) (vn0x2 : Nat) (vf0x2 : List Nat) (table : List Int) (op : Int) (args : List Int) (b0 : (List (List Int)) × (List (Int × (List Int))) × (List (ByteArray × Bool))) (r : (List (List Int)) × (List (Int × (List Int))) × (List (ByteArray × Bool))) (a : Act) (w : World) : Prop :=
  ∃ (σ : Nat → Value) (oa0x0 : Option Addr) (on0x0 : Nat) (oc0x0 : Nat) (of0x0 : List Nat) (oa0x1 : Option Addr) (on0x1 : Nat) (oc0x1 : Nat) (of0x1 : List Nat) (on0x2 : Nat) (of0x2 : List Nat), a = fr 46 (ovl σ []) ∧ Chg ([vg0] ++ (vf0x0 ++ (vf0x1 ++ (vf0x2 ++ ([]))))) w0 w ∧ BoxV w vg0 97 [(.slice oa0x0 on0x0 oc0x0), (.slice oa0x1 on0x1 oc0x1), (.map (some on0x2))] ∧ (RT.os 37 (RT.rs (RT.int .i64))).val M w (.slice oa0x0 on0x0 oc0x0) r.1 of0x0 ∧ (RT.os 119 (RT.pr (RT.int .i64) (RT.os 3 (RT.int .i64)))).val M w (.slice oa0x1 on0x1 oc0x1) r.2.1 of0x1 ∧ (RT.mo Value.bool).val M w (.map (some on0x2)) r.2.2 of0x2 ∧ Own (Nw w0 ([vg0] ++ (vf0x0 ++ (vf0x1 ++ (vf0x2 ++ ([])))))) (fun _ => True) w ([vg0] ++ (of0x0 ++ (of0x1 ++ (of0x2 ++ ([])))))
def s_impl_found__add (table : List Int) (op : Int) (args : List Int) (b0 : (List (List Int)) × (List (Int × (List Int))) × (List (ByteArray × Bool))) : Option ((List (List Int)) × (List (Int × (List Int))) × (List (ByteArray × Bool))) :=
  (s_impl_keyOf table).bind fun r8 =>
  (bif (!((mget b0.2.2 r8).getD false)) then (app b0.1 ([table])).bind fun y14 =>
  (s_impl_clone args).bind fun r19 =>
  (app b0.2.1 ([(op, r19)])).bind fun y24 =>
  some (y14, y24, mput b0.2.2 r8 true) else some (b0.1, b0.2.1, b0.2.2))
set_option maxHeartbeats 4000000 in
theorem c_impl_found__add {M : Nat → Prop} {w : World} {vg0 : Nat} {pa0 : Option Addr} {pn0 pc0 : Nat} {pa1 : Option Addr} {pn1 pc1 : Nat} {va0x0 : Option Addr} {vn0x0 vc0x0 : Nat} {vf0x0 : List Nat} {va0x1 : Option Addr} {vn0x1 vc0x1 : Nat} {vf0x1 : List Nat} {vn0x2 : Nat} {vf0x2 : List Nat} (table : List Int) (op : Int) (args : List Int) (b0 : (List (List Int)) × (List (Int × (List Int))) × (List (ByteArray × Bool))) (h0 : (RT.rs (RT.int .i64)).val M w (.slice pa0 pn0 pc0) table ([])) (h1 : (RT.rs (RT.int .i64)).val M w (.slice pa1 pn1 pc1) args ([])) (hb0 : BoxV w vg0 97 [(.slice va0x0 vn0x0 vc0x0), (.slice va0x1 vn0x1 vc0x1), (.map (some vn0x2))]) (hl0x0 : (RT.os 37 (RT.rs (RT.int .i64))).val M w (.slice va0x0 vn0x0 vc0x0) b0.1 vf0x0) (hl0x1 : (RT.os 119 (RT.pr (RT.int .i64) (RT.os 3 (RT.int .i64)))).val M w (.slice va0x1 vn0x1 vc0x1) b0.2.1 vf0x1) (hl0x2 : (RT.mo Value.bool).val M w (.map (some vn0x2)) b0.2.2 vf0x2) (hI : Own (Nw w ([vg0] ++ (vf0x0 ++ (vf0x1 ++ (vf0x2 ++ ([])))))) M w ([vg0] ++ (vf0x0 ++ (vf0x1 ++ (vf0x2 ++ ([])))))) (hM : ∀ g, w.heap.size ≤ g → M g) {r : (List (List Int)) × (List (Int × (List Int))) × (List (ByteArray × Bool))} (hs : s_impl_found__add table op args b0 = some r) :
    Gives Try.prog 117 [(.pointer (some ⟨vg0, 0, none⟩)), (.slice pa0 pn0 pc0), (.int .i64 op), (.slice pa1 pn1 pc1)] w (fun v w' => ∃ (oa0x0 : Option Addr) (on0x0 : Nat) (oc0x0 : Nat) (of0x0 : List Nat) (oa0x1 : Option Addr) (on0x1 : Nat) (oc0x1 : Nat) (of0x1 : List Nat) (on0x2 : Nat) (of0x2 : List Nat), v = (.tuple #[]) ∧ Chg ([vg0] ++ (vf0x0 ++ (vf0x1 ++ (vf0x2 ++ ([]))))) w w' ∧ BoxV w' vg0 97 [(.slice oa0x0 on0x0 oc0x0), (.slice oa0x1 on0x1 oc0x1), (.map (some on0x2))] ∧ (RT.os 37 (RT.rs (RT.int .i64))).val M w' (.slice oa0x0 on0x0 oc0x0) r.1 of0x0 ∧ (RT.os 119 (RT.pr (RT.int .i64) (RT.os 3 (RT.int .i64)))).val M w' (.slice oa0x1 on0x1 oc0x1) r.2.1 of0x1 ∧ (RT.mo Value.bool).val M w' (.map (some on0x2)) r.2.2 of0x2 ∧ Own (Nw w ([vg0] ++ (vf0x0 ++ (vf0x1 ++ (vf0x2 ++ ([])))))) (fun _ => True) w' ([vg0] ++ (of0x0 ++ (of0x1 ++ (of0x2 ++ ([])))))) := by
 refine calls_fr Try.func117 rfl Try.ntmps117 (Nat.le_of_ble_eq_true rfl) ?_
 have hO := hI
 have hC := Chg.refl ([vg0] ++ (vf0x0 ++ (vf0x1 ++ (vf0x2 ++ ([]))))) w
 unfold s_impl_found__add at hs
 refine wp_mono (Q := KPostN (k_impl_found__add M w vg0 pa0 pn0 pc0 pa1 pn1 pc1 va0x0 vn0x0 vc0x0 vf0x0 va0x1 vn0x1 vc0x1 vf0x1 vn0x2 vf0x2 table op args b0 r)) ?_ (fun e a g5 h => ?_)
 rotate_left
 ·cases e
  case ret =>
   obtain ⟨σ, oa0x0, on0x0, oc0x0, of0x0, oa0x1, on0x1, oc0x1, of0x1, on0x2, of0x2, rfl, hrest⟩ := h
   exact ret0x Try.results117  ⟨oa0x0, on0x0, oc0x0, of0x0, oa0x1, on0x1, oc0x1, of0x1, on0x2, of0x2, rfl, hrest⟩
  case normal =>
   obtain ⟨σ, oa0x0, on0x0, oc0x0, of0x0, oa0x1, on0x1, oc0x1, of0x1, on0x2, of0x2, rfl, hrest⟩ := h
   exact ret0n Try.results117  ⟨oa0x0, on0x0, oc0x0, of0x0, oa0x1, on0x1, oc0x1, of0x1, on0x2, of0x2, rfl, hrest⟩
  all_goals exact (h : False).elim
 refine c_sr ?_
 refine pl_val (.slice pa0 pn0 pc0) (y_move rfl) ?_
 obtain ⟨r8, e5, hs⟩ := bind_some hs
 refine pl_call Bd121 rfl (c_impl_keyOf (M := M) table h0 hO.fut e5) ?_
 rintro _ g6 ⟨rfl, a5⟩
 have h0 := h0.ext a5
 have h1 := h1.ext a5
 have hl0x0 := hl0x0.ext a5
 have hl0x1 := hl0x1.ext a5
 have hl0x2 := hl0x2.ext a5
 have hb0 := hb0.cn a5
 have hC := hC.ext a5
 have hO := hO.ext a5
 refine pl_val (.string r8) (y_assign rfl) ?_
 refine c_nil ?_
 refine c_sr ?_
 refine pl_val (.pointer (some ⟨vg0, 0, none⟩)) (y_move rfl) ?_
 refine pl_val (.pointer (some ⟨vg0, 0, none⟩)) (y_nilc rfl) ?_
 refine pl_val (.pointer (some ⟨vg0, 2, none⟩)) (y_faddr rfl Fa97x2) ?_
 refine pl_val (.map (some vn0x2)) (y_load rfl ((box_load Ag95 Sz95 hb0 [(.slice va0x0 vn0x0 vc0x0), (.slice va0x1 vn0x1 vc0x1)] [(.map (some vn0x2))] [] rfl rfl (fun _ => rfl)) _ (Chg.refl _ _))) ?_
 refine pl_val (.string r8) (y_move rfl) ?_
 refine pl_val (.bool ((mget b0.2.2 r8).getD false)) (y_look (enc := Value.bool) Try.underlying95 Try.underlying9 Zv4 (mo_at hl0x2) rfl rfl) ?_
 refine pl_val (.bool (!((mget b0.2.2 r8).getD false))) (y_not rfl) ?_
 refine c_nil ?_
 rcases bif_some hs with ⟨d0, hs⟩ | ⟨d0, hs⟩
 ·refine c_condT (congrArg Value.bool d0) ?_
  refine c_sr ?_
  refine pl_val (.pointer (some ⟨vg0, 0, none⟩)) (y_move rfl) ?_
  refine pl_val (.pointer (some ⟨vg0, 0, none⟩)) (y_nilc rfl) ?_
  refine pl_val (.pointer (some ⟨vg0, 2, none⟩)) (y_faddr rfl Fa97x2) ?_
  refine pl_val (.map (some vn0x2)) (y_load rfl ((box_load Ag95 Sz95 hb0 [(.slice va0x0 vn0x0 vc0x0), (.slice va0x1 vn0x1 vc0x1)] [(.map (some vn0x2))] [] rfl rfl (fun _ => rfl)) _ (Chg.refl _ _))) ?_
  refine pl_val (.string r8) (y_move rfl) ?_
  have hO := hO.fr3
  obtain ⟨d6, e6, a8, a0⟩ := mo_put (P := Try.prog) (t := 95) (key := r8) (x := true) Try.underlying95 Try.underlying9 hl0x2
  refine pl_skip (w' := d6) (ys_put rfl rfl rfl e6) ?_
  have h0 := h0.mt a8 hO same_
  have h1 := h1.mt a8 hO same_
  have hl0x0 := hl0x0.ma a8 hO same_ (fun _ e => (mem_r (mem_l (e))))
  have hl0x1 := hl0x1.ma a8 hO same_ (fun _ e => (mem_r (mem_r (mem_l (e)))))
  have hb0 := hb0.ap a8 hO same_ (mem_l (List.mem_singleton.2 rfl))
  have hC := hC.st a8 hO same_
  have hO := hO.ext a8
  refine c_nil ?_
  refine c_sr ?_
  refine pl_val (.pointer (some ⟨vg0, 0, none⟩)) (y_move rfl) ?_
  refine pl_val (.pointer (some ⟨vg0, 0, none⟩)) (y_move rfl) ?_
  refine pl_val (.pointer (some ⟨vg0, 0, none⟩)) (y_nilc rfl) ?_
  refine pl_val (.pointer (some ⟨vg0, 0, none⟩)) (y_faddr rfl Fa97x0) ?_
  refine pl_val (.slice va0x0 vn0x0 vc0x0) (y_load rfl ((box_load Ag47 Sz47 hb0 [] [(.slice va0x0 vn0x0 vc0x0)] [(.slice va0x1 vn0x1 vc0x1), (.map (some vn0x2))] rfl rfl (fun _ => rfl)) _ (Chg.refl _ _))) ?_
  refine pl_val (.slice pa0 pn0 pc0) (y_move rfl) ?_
  obtain ⟨d7, d1, e7, d8, a6, d9⟩ := new_block d6 [(.slice pa0 pn0 pc0)] 37
  refine pl_val (w' := d7) (.slice (some ⟨d1, 0, none⟩) 1 1) (y_bslice rfl (by rw [e7, d8]; kernel_rfl)) ?_
  have h0 := h0.ext a6
  have h1 := h1.ext a6
  have hl0x0 := hl0x0.ext a6
  have hl0x1 := hl0x1.ext a6
  have a0 := a0.ext a6
  have hb0 := hb0.cn a6
  have hC := hC.ext a6
  have hO := hO.new1 a6 d8 d9.lt
  have d2 := os_of_box (r := (RT.rs (RT.int .i64))) (M := M) (css := [[(.slice pa0 pn0 pc0)]]) (fps := [([] : List Nat)]) (xs := ([table] : List (List Int))) d9 ⟨(rs_unval h0), trivial⟩ (Nat.le_of_ble_eq_true rfl) (List.nodup_cons.2 ⟨(fun h => nomatch h), List.nodup_nil⟩)
  have d2 : (RT.os 37 (RT.rs (RT.int .i64))).val M d7 (.slice (some ⟨d1, 0, none⟩) 1 1) [table] [d1] := d2
  obtain ⟨y14, e8, hs⟩ := bind_some hs
  have hO := hO.fr3
  obtain ⟨a9, b1, b2, e9, d3, f0, b3, f1, a1⟩ := app_os Rw47 e8 hl0x0 d2 hO.inM (fun g hg hq => hO.apart g hq (mem_l hg))
  have b5 := os_block hl0x0
  refine pl_val (w' := e9) (.slice a9 b1 b2) (y_append rfl rfl (f0 _)) ?_
  have hO := hO.fr1
  have hO := hO.fr1
  have h0 := h0.mt b3 hO b5
  have h1 := h1.mt b3 hO b5
  have hl0x1 := hl0x1.ma b3 hO b5 (fun _ e => (mem_r (mem_r (mem_r (mem_l (e))))))
  have a0 := a0.ma b3 hO b5 (fun _ e => (mem_r (mem_l (e))))
  have hb0 := hb0.ap b3 hO b5 (mem_r (mem_r (mem_l (List.mem_singleton.2 rfl))))
  have hC := hC.st b3 hO b5
  have hO := hO.eat b3 f1 (os_nodup a1) a1.fpl
  refine pl_val (.pointer (some ⟨vg0, 0, none⟩)) (y_nilc rfl) ?_
  refine pl_val (.pointer (some ⟨vg0, 0, none⟩)) (y_faddr rfl Fa97x0) ?_
  obtain ⟨c1, f2, b4, a2⟩ := box_store (P := Try.prog) hb0 [] [(.slice va0x0 vn0x0 vc0x0)] [(.slice va0x1 vn0x1 vc0x1), (.map (some vn0x2))] [(.slice a9 b1 b2)] rfl rfl (by intro u hu; simp only [List.mem_cons, List.not_mem_nil, or_false] at hu; rcases hu with rfl <;> rfl)
  refine pl_skip (w' := c1) (ys_store rfl rfl (f2 _ _ rfl Sz47)) ?_
  have hO := hO.fr2
  have h0 := h0.mt b4 hO same_
  have h1 := h1.mt b4 hO same_
  have hl0x1 := hl0x1.ma b4 hO same_ (fun _ e => (mem_r (mem_r (mem_l (e)))))
  have a0 := a0.ma b4 hO same_ (fun _ e => (mem_r (mem_l (e))))
  have a1 := a1.ma b4 hO same_ (fun _ e => (mem_l (e)))
  have hC := hC.st b4 hO same_
  have hO := hO.ext b4
  have a2 : BoxV c1 vg0 97 [(.slice a9 b1 b2), (.slice va0x1 vn0x1 vc0x1), (.map (some vn0x2))] := a2
  refine c_nil ?_
  refine x_start [10, 13] Mx rfl ?_
  have a7 := Chg.drew c1
  generalize World.drew c1 = f3 at a7 ⊢
  have h1 := h1.ext a7
  have hl0x1 := hl0x1.ext a7
  have a0 := a0.ext a7
  have a2 := a2.cn a7
  have a1 := a1.ext a7
  have hC := hC.ext a7
  have hO := hO.ext a7
  have hS := Chg.refl [] f3
  refine x_p 0 (.pointer (some ⟨vg0, 0, none⟩)) rfl (by kernel_rfl)  (fun _ => y_move rfl) (fun _ => hS) ?_
  refine x_p 1 (.pointer (some ⟨vg0, 0, none⟩)) rfl (by kernel_rfl)  (fun _ => y_move rfl) (fun _ => hS) ?_
  refine x_p 2 (.pointer (some ⟨vg0, 0, none⟩)) rfl (by kernel_rfl)  (fun _ => y_nilc rfl) (fun _ => hS) ?_
  refine x_p 3 (.pointer (some ⟨vg0, 1, none⟩)) rfl (by kernel_rfl)  (fun _ => y_faddr rfl Fa97x1) (fun _ => hS) ?_
  refine x_l 4 (.slice va0x1 vn0x1 vc0x1) rfl (by kernel_rfl)  (fun w' hw' => y_load rfl ((box_load Ag87 Sz87 a2 [(.slice a9 b1 b2)] [(.slice va0x1 vn0x1 vc0x1)] [(.map (some vn0x2))] rfl rfl (fun _ => rfl)) w' hw')) hS ?_
  refine x_p 5 (.int .i64 op) rfl (by kernel_rfl)  (fun _ => y_move rfl) (fun _ => hS) ?_
  refine x_p 6 (.slice pa1 pn1 pc1) rfl (by kernel_rfl)  (fun _ => y_move rfl) (fun _ => hS) ?_
  refine x_one (i := 7) (by kernel_rfl) ?_
  obtain ⟨r19, f4, hs⟩ := bind_some hs
  refine xk_call (b := false) rfl  Bd113 rfl (c_impl_clone (M := M) args h1 hO.fut f4) rfl (by rintro _ _ _ ⟨c2, c3, c4, b8, rfl, a3, c5, f5, e0⟩; exact hS.ext a3) ?_
  rintro _ f6 ⟨c2, c3, c4, b8, rfl, a3, c5, f5, e0⟩
  have h1 := h1.ext a3
  have hl0x1 := hl0x1.ext a3
  have a0 := a0.ext a3
  have a2 := a2.cn a3
  have a1 := a1.ext a3
  have hC := hC.ext a3
  have hO := Own.join0 hO a3 e0
  have hO := hO.perm (R := b8 ++ (([vg0]) ++ (d3 ++ (vf0x2 ++ (vf0x1 ++ ([])))))) (by simp)
  have hS := hS.ext a3
  refine x_p 8 (.agg #[(.int .i64 op), (.slice c2 c3 c4)]) rfl (by kernel_rfl)  (fun _ => y_build rfl (by kernel_rfl)) (fun _ => hS) ?_
  refine x_one (i := 9) (by kernel_rfl) ?_
  obtain ⟨e1, c6, f7, e2, a4, e3⟩ := new_block f6 [(.int .i64 op), (.slice c2 c3 c4)] 119
  refine xk_val (w' := e1) (b := false) (.slice (some ⟨c6, 0, none⟩) 1 1) rfl  (y_bslice rfl (by rw [f7, e2]; kernel_rfl)) rfl (fun _ => hS.ext a4) ?_
  have h1 := h1.ext a4
  have hl0x1 := hl0x1.ext a4
  have a0 := a0.ext a4
  have a2 := a2.cn a4
  have a1 := a1.ext a4
  have c5 := c5.ext a4
  have hC := hC.ext a4
  have hO := hO.new1 a4 e2 e3.lt
  have hO := hO.perm (R := (c6 :: ((b8) ++ ([]))) ++ (([vg0]) ++ (d3 ++ (vf0x2 ++ (vf0x1 ++ ([])))))) (by simp)
  have f8 := hO.nd
  have d4 := os_of_box (r := (RT.pr (RT.int .i64) (RT.os 3 (RT.int .i64)))) (M := M) (css := [[(.int .i64 op), (.slice c2 c3 c4)]]) (fps := [(b8 : List Nat)]) (xs := ([(op, r19)] : List (Int × (List Int)))) e3 ⟨⟨_, _, _, _, rfl, rfl, ⟨rfl, rfl⟩, (os_unval c5)⟩, trivial⟩ (Nat.le_of_ble_eq_true rfl) f8
  have d4 : (RT.os 119 (RT.pr (RT.int .i64) (RT.os 3 (RT.int .i64)))).val M e1 (.slice (some ⟨c6, 0, none⟩) 1 1) [(op, r19)] (c6 :: ((b8) ++ ([]))) := d4
  have hS := hS.ext a4
  refine x_one (i := 10) (by kernel_rfl) ?_
  obtain ⟨y24, f9, hs⟩ := bind_some hs
  have hO := hO.fr4
  obtain ⟨c7, c8, c9, g0, g1, g2, b6, g3, b9⟩ := app_os Rw87 f9 hl0x1 d4 hO.inM (fun g hg hq => hO.apart g hq (mem_l hg))
  have c0 := os_block hl0x1
  refine xk_val (w' := g0) (b := true) (.slice c7 c8 c9) rfl  (y_append rfl rfl (g2 _)) rfl (fun h => nomatch h) ?_
  have hO := hO.fr1
  have hO := hO.fr1
  have h1 := h1.mt b6 hO c0
  have a0 := a0.ma b6 hO c0 (fun _ e => (mem_r (mem_r (mem_r (mem_l (e))))))
  have a2 := a2.ap b6 hO c0 (mem_r (mem_l (List.mem_singleton.2 rfl)))
  have a1 := a1.ma b6 hO c0 (fun _ e => (mem_r (mem_r (mem_l (e)))))
  have hC := hC.st b6 hO c0
  have hO := hO.eat b6 g3 (os_nodup b9) b9.fpl
  refine x_p 11 (.pointer (some ⟨vg0, 0, none⟩)) rfl (by kernel_rfl)  (fun _ => y_nilc rfl) (fun h => nomatch h) ?_
  refine x_p 12 (.pointer (some ⟨vg0, 1, none⟩)) rfl (by kernel_rfl)  (fun _ => y_faddr rfl Fa97x1) (fun h => nomatch h) ?_
  refine x_one (i := 13) (by kernel_rfl) ?_
  obtain ⟨e4, g4, b7, d5⟩ := box_store (P := Try.prog) a2 [(.slice a9 b1 b2)] [(.slice va0x1 vn0x1 vc0x1)] [(.map (some vn0x2))] [(.slice c7 c8 c9)] rfl rfl (by intro u hu; simp only [List.mem_cons, List.not_mem_nil, or_false] at hu; rcases hu with rfl <;> rfl)
  refine xk_skip (w' := e4) (b := true) rfl (ys_store rfl rfl (g4 _ _ rfl Sz87)) rfl (fun h => nomatch h) ?_
  have hO := hO.fr1
  have h1 := h1.mt b7 hO same_
  have a0 := a0.ma b7 hO same_ (fun _ e => (mem_r (mem_r (mem_l (e)))))
  have a1 := a1.ma b7 hO same_ (fun _ e => (mem_r (mem_l (e))))
  have b9 := b9.ma b7 hO same_ (fun _ e => (mem_l (e)))
  have hC := hC.st b7 hO same_
  have hO := hO.ext b7
  have d5 : BoxV e4 vg0 97 [(.slice a9 b1 b2), (.slice c7 c8 c9), (.map (some vn0x2))] := d5
  refine x_end (by kernel_rfl) ?_
  clear hS
  cases hs
  have hO := hO.fr3
  have hO := hO.fr2
  have hO := hO.fr3
  have hO := hO.fr3
  exact ⟨_, a9, b1, b2, d3, c7, c8, c9, g1, vn0x2, vf0x2, fr_ovl 46 trivial, hC, d5, a1, b9, a0, hO.top⟩
 refine c_condF (congrArg Value.bool d0) ?_
 refine wp_skip ?_
 cases hs
 have hO := hO.fr3
 have hO := hO.fr3
 have hO := hO.fr3
 have hO := hO.fr3
 exact ⟨_, va0x0, vn0x0, vc0x0, vf0x0, va0x1, vn0x1, vc0x1, vf0x1, vn0x2, vf0x2, fr_ovl 46 trivial, hC, hb0, hl0x0, hl0x1, hl0x2, hO.top⟩

def k_impl_composeTables (M : Nat → Prop) (w0 : World) (r : (List Int)) (a : Act) (w : World) : Prop :=
  ∃ (σ : Nat → Value) (ra0 : Option Addr) (rn0 rc0 : Nat) (rf0 : List Nat), a = fr 46 (ovl σ [(8, (.slice ra0 rn0 rc0))]) ∧ Chg [] w0 w ∧ (RT.os 3 (RT.int .i64)).val M w (.slice ra0 rn0 rc0) r rf0 ∧ Own (Nw w0 []) (fun _ => True) w (rf0 ++ ([]))
def s_impl_composeTables (n : Int) (f : Int × (List Int)) (tables : List (List Int)) (places : Int) : Option ((List Int)) :=
  (mks places (0 : Int)).bind fun y5 =>
  (forC (S := (List Int)) (R := (List Int)) (fun k52 s50 =>
  (forR (S := Int) (R := (List Int)) (fun _ x67 s63 =>
  (idx x67 k52).bind fun x73 =>
  some (.nx (w64 ((w64 (s63 * n)) + x73)))) 0 tables 0).bind fun o68 => after o68 (fun r_ => some (.rt r_)) (fun s63 =>
  (idx f.2 s63).bind fun x75 =>
  (idx s50 k52).bind fun x77 =>
  some (.nx (List.set s50 (Int.toNat k52) x75)))) 0 (y5.length : Int) y5).bind fun o54 => after o54 (fun r_ => some r_) (fun s50 =>
  some s50)
set_option maxHeartbeats 4000000 in
theorem c_impl_composeTables {M : Nat → Prop} {w : World} {pa0 : Option Addr} {pn0 pc0 : Nat} {pa1 : Option Addr} {pn1 pc1 : Nat} (n : Int) (f : Int × (List Int)) (tables : List (List Int)) (places : Int) (h0 : (RT.rs (RT.int .i64)).val M w (.slice pa0 pn0 pc0) f.2 ([])) (h1 : (RT.rs (RT.rs (RT.int .i64))).val M w (.slice pa1 pn1 pc1) tables ([])) (hM : ∀ g, w.heap.size ≤ g → M g) {r : (List Int)} (hs : s_impl_composeTables n f tables places = some r) :
    Gives Try.prog 118 [(.int .i64 n), (.agg #[(.int .i64 f.1), (.slice pa0 pn0 pc0)]), (.slice pa1 pn1 pc1), (.int .i64 places)] w (fun v w' => ∃ (ra0 : Option Addr) (rn0 rc0 : Nat) (rf0 : List Nat), v = (.slice ra0 rn0 rc0) ∧ Chg [] w w' ∧ (RT.os 3 (RT.int .i64)).val M w' (.slice ra0 rn0 rc0) r rf0 ∧ Own (Nw w []) (fun _ => True) w' (rf0 ++ ([]))) := by
 refine calls_fr Try.func118 rfl Try.ntmps118 (Nat.le_of_ble_eq_true rfl) ?_
 have hO := Own.start (N := Nw w []) hM Nw.fut
 have hC := Chg.refl [] w
 unfold s_impl_composeTables at hs
 refine wp_mono (Q := KPost (k_impl_composeTables M w r)) ?_ (fun e a c1 h => ?_)
 rotate_left
 ·cases e
  case ret =>
   obtain ⟨σ, ra0, rn0, rc0, rf0, rfl, hrest⟩ := h
   exact ret1x Try.results118 (res_tmp rfl) ⟨ra0, rn0, rc0, rf0, rfl, hrest⟩
  all_goals exact (h : False).elim
 refine c_sr ?_
 obtain ⟨c2, a6, c7, c3, b2, a0⟩ := new_block w [(.int .i64 f.1), (.slice pa0 pn0 pc0)] 64
 refine pl_val (w' := c2) (.pointer (some ⟨a6, 0, none⟩)) (y_box rfl (by rw [c7, c3]; kernel_rfl)) ?_
 have h0 := h0.ext b2
 have h1 := h1.ext b2
 have hC := hC.ext b2
 have hO := hO.new1 b2 c3 a0.lt
 refine pl_val (.slice none 0 0) (y_assign rfl) ?_
 refine c_nil ?_
 refine c_sr ?_
 refine pl_val (.int .i64 places) (y_move rfl) ?_
 obtain ⟨y5, c8, hs⟩ := bind_some hs
 obtain ⟨a3, a4, a5, c9, d0, d1, b0, d2, b3⟩ := mk_os (M := M) (w := c2) (r := (RT.int .i64)) Rw37 c8 (fun _ _ => ⟨rfl, rfl⟩)
 refine pl_val (w' := c9) (.slice a3 a4 a5) (y_make rfl rfl d1) ?_
 have h0 := h0.ext b0
 have h1 := h1.ext b0
 have a0 := a0.cn b0
 have hC := hC.ext b0
 have hO := hO.new b0 d2 (os_nodup b3) b3.fpl
 refine pl_val (.slice a3 a4 a5) (y_assign rfl) ?_
 refine c_nil ?_
 refine c_seq ?_
 refine c_sr ?_
 refine pl_val (.slice a3 a4 a5) (y_move rfl) ?_
 refine pl_val (.int .i64 (y5.length : Int)) (y_len' Sl37 (os_len b3) rfl) ?_
 refine pl_val (.int .i64 0) (y_move rfl) ?_
 refine c_nil ?_
 obtain ⟨o54, d3, hs⟩ := bind_some hs
 refine wp_block ?_
 refine wp_forC (id := 0) (y5.length : Int) (I := fun k52 s50 a a1 => ∃ (σ : Nat → Value) (a8 : List Nat), a = fr 46 (ovl σ [(0, (.int .i64 n)), (2, (.slice pa1 pn1 pc1)), (5, (.pointer (some ⟨a6, 0, none⟩))), (9, (.slice a3 a4 a5)), (17, (.int .i64 (y5.length : Int))), (18, (.int .i64 k52))]) ∧ Chg [] w a1 ∧ Own (Nw w []) M a1 (a8 ++ (([a6]) ++ [])) ∧ (RT.rs (RT.int .i64)).val M a1 (.slice pa0 pn0 pc0) f.2 ([]) ∧ (RT.rs (RT.rs (RT.int .i64))).val M a1 (.slice pa1 pn1 pc1) tables ([]) ∧ BoxV a1 a6 64 [(.int .i64 f.1), (.slice pa0 pn0 pc0)] ∧ (RT.os 3 (RT.int .i64)).val M a1 (.slice a3 a4 a5) s50 a8) (J := fun s50 a a1 => ∃ (σ : Nat → Value) (b4 : List Nat), a = fr 46 (ovl σ [(9, (.slice a3 a4 a5))]) ∧ Chg [] w a1 ∧ Own (Nw w []) M a1 (b4 ++ (([a6]) ++ [])) ∧ (RT.rs (RT.int .i64)).val M a1 (.slice pa0 pn0 pc0) f.2 ([]) ∧ (RT.rs (RT.rs (RT.int .i64))).val M a1 (.slice pa1 pn1 pc1) tables ([]) ∧ BoxV a1 a6 64 [(.int .i64 f.1), (.slice pa0 pn0 pc0)] ∧ (RT.os 3 (RT.int .i64)).val M a1 (.slice a3 a4 a5) s50 b4) (K := (k_impl_composeTables M w)) ?_ ?_ 0 y5 o54 _ _ ?_ d3 ?_
 ·rintro k52 s50 a a1 ⟨σ, a8, rfl, hC, hO, h0, h1, a0, a7⟩ hlt
  refine c_sr ?_
  refine pl_val (.bool (decide (k52 < (y5.length : Int)))) (y_lss rfl rfl) ?_
  refine c_nil ?_
  refine c_seq ?_
  refine c_condF (congrArg Value.bool (decide_eq_false hlt)) ?_
  refine wp_exit ?_
  have hO := hO.fr1
  have hO := hO.fr1
  exact ⟨rfl, _, a8, fr_ovl 46 ⟨rfl, trivial⟩, hC, hO, h0, h1, a0, a7⟩
 ·rintro k52 s50 o54 a a1 ⟨σ, a8, rfl, hC, hO, h0, h1, a0, a7⟩ hlt hw hs
  refine c_sr ?_
  refine pl_val (.bool (decide (k52 < (y5.length : Int)))) (y_lss rfl rfl) ?_
  refine c_nil ?_
  refine c_seq ?_
  refine c_condT (congrArg Value.bool (decide_eq_true hlt)) ?_
  refine wp_skip ?_
  refine c_seq ?_
  refine wp_block ?_
  refine c_sr ?_
  refine pl_val (.int .i64 k52) (y_move rfl) ?_
  refine pl_val (.int .i64 k52) (y_assign rfl) ?_
  refine c_nil ?_
  refine c_sr ?_
  refine pl_val (.int .i64 0) (y_assign rfl) ?_
  refine c_nil ?_
  refine c_seq ?_
  refine c_sr ?_
  refine pl_val (.slice pa1 pn1 pc1) (y_move rfl) ?_
  refine pl_val (.int .i64 (tables.length : Int)) (y_len' Sl47 (rs_len h1) rfl) ?_
  refine pl_val (.int .i64 0) (y_move rfl) ?_
  refine c_nil ?_
  obtain ⟨o68, d4, hs⟩ := bind_some hs
  refine wp_block ?_
  refine wp_forR (id := 2) (I := fun i_ xs_ s63 a a2 => ∃ a9 : Nat, i_ = (a9 : Int) ∧ List.drop a9 tables = xs_ ∧ (∃ (σ : Nat → Value), a = fr 46 (ovl σ [(0, (.int .i64 n)), (2, (.slice pa1 pn1 pc1)), (5, (.pointer (some ⟨a6, 0, none⟩))), (9, (.slice a3 a4 a5)), (10, (.int .i64 k52)), (11, (.int .i64 s63)), (17, (.int .i64 (y5.length : Int))), (18, (.int .i64 k52)), (21, (.slice pa1 pn1 pc1)), (22, (.int .i64 (tables.length : Int))), (23, (.int .i64 (a9 : Int)))]) ∧ Chg [] w a2 ∧ Own (Nw w []) M a2 (a8 ++ (([a6]) ++ [])) ∧ (RT.rs (RT.int .i64)).val M a2 (.slice pa0 pn0 pc0) f.2 ([]) ∧ (RT.rs (RT.rs (RT.int .i64))).val M a2 (.slice pa1 pn1 pc1) tables ([]) ∧ BoxV a2 a6 64 [(.int .i64 f.1), (.slice pa0 pn0 pc0)] ∧ (RT.os 3 (RT.int .i64)).val M a2 (.slice a3 a4 a5) s50 a8)) (J := fun s63 a a2 => ∃ (σ : Nat → Value), a = fr 46 (ovl σ [(0, (.int .i64 n)), (2, (.slice pa1 pn1 pc1)), (5, (.pointer (some ⟨a6, 0, none⟩))), (9, (.slice a3 a4 a5)), (10, (.int .i64 k52)), (11, (.int .i64 s63)), (17, (.int .i64 (y5.length : Int))), (18, (.int .i64 k52))]) ∧ Chg [] w a2 ∧ Own (Nw w []) M a2 (a8 ++ (([a6]) ++ [])) ∧ (RT.rs (RT.int .i64)).val M a2 (.slice pa0 pn0 pc0) f.2 ([]) ∧ (RT.rs (RT.rs (RT.int .i64))).val M a2 (.slice pa1 pn1 pc1) tables ([]) ∧ BoxV a2 a6 64 [(.int .i64 f.1), (.slice pa0 pn0 pc0)] ∧ (RT.os 3 (RT.int .i64)).val M a2 (.slice a3 a4 a5) s50 a8) (K := (k_impl_composeTables M w)) ?_ ?_ tables 0 0 o68 _ _ ?_ d4 ?_
  ·rintro _ s63 a a2 ⟨a9, rfl, hd, σ, rfl, hC, hO, h0, h1, a0, a7⟩
   have hlt := drop_nil_ge hd
   refine c_sr ?_
   refine pl_val (.bool (decide ((a9 : Int) < (tables.length : Int)))) (y_lss rfl rfl) ?_
   refine c_nil ?_
   refine c_seq ?_
   refine c_condF (congrArg Value.bool (decide_eq_false hlt)) ?_
   refine wp_exit ?_
   have hO := hO.fr1
   have hO := hO.fr1
   exact ⟨rfl, _, fr_ovl 46 ⟨rfl, rfl, rfl, rfl, rfl, rfl, rfl, rfl, trivial⟩, hC, hO, h0, h1, a0, a7⟩
  ·rintro _ x67 xs_ s63 o68 a a2 ⟨a9, rfl, hd, σ, rfl, hC, hO, h0, h1, a0, a7⟩ hs
   have hlt := drop_cons_lt hd
   have d5 := drop_cons_idx hd
   refine c_sr ?_
   refine pl_val (.bool (decide ((a9 : Int) < (tables.length : Int)))) (y_lss rfl rfl) ?_
   refine c_nil ?_
   refine c_seq ?_
   refine c_condT (congrArg Value.bool (decide_eq_true hlt)) ?_
   refine wp_skip ?_
   refine c_seq ?_
   refine wp_block ?_
   refine c_sr ?_
   obtain ⟨d6, d7, d8, d9⟩ := rs_idx Sl47 Sz37 h1 d5
   refine pl_val (.pointer (some ⟨d6, d7, none⟩)) (d8 _ _ _ _ _ _ _ _ _ rfl rfl) ?_
   obtain ⟨f9, e0, c4⟩ := at_load Ag37 Sz37 (fun _ => rfl) d9
   obtain ⟨b6, b7, b8, rfl⟩ := rs_sl c4
   refine pl_val (.slice b6 b7 b8) (y_load rfl (e0 _ (Chg.refl _ _))) ?_
   refine pl_val (.slice b6 b7 b8) (y_assign rfl) ?_
   refine c_nil ?_
   refine c_region ?_
   refine pl_val (.int .i64 s63) (y_move rfl) ?_
   refine pl_val (.int .i64 n) (y_move rfl) ?_
   refine pl_val (.int .i64 (w64 (s63 * n))) (y_mul rfl rfl) ?_
   refine pl_val (.slice b6 b7 b8) (y_move rfl) ?_
   refine pl_val (.int .i64 k52) (y_move rfl) ?_
   obtain ⟨x73, e1, hs⟩ := bind_some hs
   obtain ⟨e2, e3, e4, e5⟩ := rs_idx Sl37 Sz3 c4 e1
   refine pl_val (.pointer (some ⟨e2, e3, none⟩)) (e4 _ _ _ _ _ _ _ _ _ rfl rfl) ?_
   refine pl_val (.int .i64 x73) (y_load rfl ((at_load_int Ag3 Sz3 e5) _ (Chg.refl _ _))) ?_
   refine pl_val (.int .i64 (w64 ((w64 (s63 * n)) + x73))) (y_add rfl rfl) ?_
   refine pl_val (.int .i64 (w64 ((w64 (s63 * n)) + x73))) (y_assign rfl) ?_
   refine c_nil ?_
   refine c_region ?_
   refine pl_val (.int .i64 (w64 ((a9 : Int) + 1))) (y_add rfl rfl) ?_
   refine pl_val (.int .i64 (w64 ((a9 : Int) + 1))) (y_move rfl) ?_
   refine c_nil ?_
   cases hs
   have hO := hO.fr1
   have hO := hO.fr1
   exact ⟨_, rfl, drop_cons_next hd, _, fr_ovl 46 ⟨rfl, rfl, rfl, rfl, rfl, rfl, rfl, rfl, rfl, rfl, congrArg (Value.int .i64) (w64_succ hlt (Int.natCast_nonneg _) (rs_max h1)), trivial⟩, hC, hO, h0, h1, a0, a7⟩
  ·skip
   have hO := hO.fr1
   have hO := hO.fr1
   exact ⟨0, rfl, rfl, _, fr_ovl 46 ⟨rfl, rfl, rfl, rfl, rfl, rfl, rfl, rfl, rfl, rfl, rfl, trivial⟩, hC, hO, h0, h1, a0, a7⟩
  cases o68 with
  | nx _ => exact True.intro
  | rt r_ =>
   have hs := after_rt hs
   intro b9 c1 hK
   cases hs
   exact hK
  | br s63 =>
   have hs := after_br hs
   rintro b9 a2 ⟨σ, rfl, hC, hO, h0, h1, a0, a7⟩
   refine c_region ?_
   refine pl_val (.slice a3 a4 a5) (y_move rfl) ?_
   refine pl_val (.int .i64 k52) (y_move rfl) ?_
   refine pl_val (.pointer (some ⟨a6, 1, none⟩)) (y_faddr rfl Fa64x1) ?_
   refine pl_val (.slice pa0 pn0 pc0) (y_load rfl ((box_load Ag37 Sz37 a0 [(.int .i64 f.1)] [(.slice pa0 pn0 pc0)] [] rfl rfl (fun _ => rfl)) _ (Chg.refl _ _))) ?_
   refine pl_val (.int .i64 s63) (y_move rfl) ?_
   obtain ⟨x75, e6, hs⟩ := bind_some hs
   obtain ⟨e7, e8, e9, f0⟩ := rs_idx Sl37 Sz3 h0 e6
   refine pl_val (.pointer (some ⟨e7, e8, none⟩)) (e9 _ _ _ _ _ _ _ _ _ rfl rfl) ?_
   refine pl_val (.int .i64 x75) (y_load rfl ((at_load_int Ag3 Sz3 f0) _ (Chg.refl _ _))) ?_
   obtain ⟨x77, f1, hs⟩ := bind_some hs
   obtain ⟨c5, g0, c6, f2, f3, g1, g2⟩ := os_idx Sl37 Sz3 a7 f1
   refine pl_val (.pointer (some ⟨c5, 0 + Int.toNat k52 * 1, none⟩)) (f3 _ _ _ _ _ _ _ _ _ rfl rfl) ?_
   obtain ⟨f4, f5, f6, b1, f7, c0⟩ := os_store (P := Try.prog) (c' := [(.int .i64 x75)]) c6 a7 f2 (fun g hg => hO.inM g (os_block a7 g (by simpa using hg))) ⟨rfl, rfl⟩ List.nodup_nil (fun _ h => nomatch h) (fun _ h => .inl h)
   have b5 : ∀ q ∈ [c5], q ∈ a8 := fun q hq => os_block a7 q (by rw [c6]; exact hq)
   refine pl_skip (w' := f4) (ys_store rfl rfl (f6 _ _ rfl Sz3)) ?_
   have h0 := h0.mt b1 hO b5
   have h1 := h1.mt b1 hO b5
   have a0 := a0.ap b1 hO b5 (mem_l (List.mem_singleton.2 rfl))
   have hC := hC.st b1 hO b5
   have hO := hO.grow b1 (fun q hq => .inl ((f7 q hq).resolve_right (fun h => nomatch h))) (os_nodup c0) c0.fpl
   refine c_nil ?_
   refine c_region ?_
   refine pl_val (.int .i64 (w64 (k52 + 1))) (y_add rfl rfl) ?_
   refine pl_val (.int .i64 (w64 (k52 + 1))) (y_move rfl) ?_
   refine c_nil ?_
   cases hs
   have hO := hO.fr1
   have hO := hO.fr1
   exact ⟨_, f5, fr_ovl 46 ⟨rfl, rfl, rfl, rfl, rfl, congrArg (Value.int .i64) hw, trivial⟩, hC, hO, h0, h1, a0, c0⟩
 ·skip
  have hO := hO.fr1
  have hO := hO.fr1
  exact ⟨_, d0, fr_ovl 46 ⟨rfl, rfl, rfl, rfl, rfl, rfl, trivial⟩, hC, hO, h0, h1, a0, b3⟩
 cases o54 with
 | nx _ => exact True.intro
 | rt r_ =>
  have hs := after_rt hs
  intro b9 c1 hK
  cases hs
  exact hK
 | br s50 =>
  have hs := after_br hs
  rintro b9 a1 ⟨σ, b4, rfl, hC, hO, h0, h1, a0, f8⟩
  refine c_sr ?_
  refine pl_val (.slice a3 a4 a5) (y_move rfl) ?_
  refine pl_val (.slice a3 a4 a5) (y_assign rfl) ?_
  refine c_nil ?_
  refine wp_ret ?_
  cases hs
  have hO := hO.fr1
  have hO := hO.drop
  exact ⟨_, a3, a4, a5, b4, fr_ovl 46 ⟨rfl, trivial⟩, hC, f8, hO.top⟩

theorem Bd84 : Bodied Try.prog 84 := bodied Try.func84 (by kernel_rfl) rfl

theorem Bd117 : Bodied Try.prog 117 := bodied Try.func117 (by kernel_rfl) rfl

theorem Bd118 : Bodied Try.prog 118 := bodied Try.func118 (by kernel_rfl) rfl

def k_impl_cloneOf (M : Nat → Prop) (w0 : World) (r : (Option ((List (List Int)) × (List (Int × (List Int))) × (List (ByteArray × Bool)))) × Bool) (a : Act) (w : World) : Prop :=
  ∃ (σ : Nat → Value) (rn0 : Value) (rf0 : List Nat), a = fr 106 (ovl σ [(6, rn0), (7, (.bool r.2))]) ∧ Chg [] w0 w ∧ (RT.op 97 (RT.pr (RT.os 37 (RT.rs (RT.int .i64))) (RT.pr (RT.os 119 (RT.pr (RT.int .i64) (RT.os 3 (RT.int .i64)))) (RT.mo Value.bool)))).val (PastL M [] w0 w (rf0 ++ ([]))) w rn0 r.1 rf0 ∧ Own (Nw w0 []) (fun _ => True) w (rf0 ++ ([]))
def s_impl_cloneOf (n : Int) (ops : List (Int × (List Int))) (k : Int) : Option ((Option ((List (List Int)) × (List (Int × (List Int))) × (List (ByteArray × Bool)))) × Bool) :=
  (forC (S := (List (List Int)) × (List (Int × (List Int))) × (List (ByteArray × Bool))) (R := (Option ((List (List Int)) × (List (Int × (List Int))) × (List (ByteArray × Bool)))) × Bool) (fun k66 s63 =>
  (s_impl_projection n k k66).bind fun r85 =>
  (s_impl_found__add r85 (-1) ([k66]) (s63.1, s63.2.1, s63.2.2)).bind fun r93 =>
  some (.nx (r93.1, r93.2.1, r93.2.2))) 0 k ([], [], [])).bind fun o68 => after o68 (fun r_ => some r_) (fun s63 =>
  (iter (S := Int × (List (List Int)) × (List (Int × (List Int))) × (List (ByteArray × Bool))) (R := (Option ((List (List Int)) × (List (Int × (List Int))) × (List (ByteArray × Bool)))) × Bool) (fun s2356 =>
  (bif (decide (s2356.1 < (s2356.2.1.length : Int))) then (forC (S := (List (List Int)) × (List (Int × (List Int))) × (List (ByteArray × Bool))) (R := (Option ((List (List Int)) × (List (Int × (List Int))) × (List (ByteArray × Bool)))) × Bool) (fun k3118 s3116 =>
  (idx ops k3118).bind fun x3136 =>
  (mks x3136.1 ([] : List Int)).bind fun y3143 =>
  (iter (S := Int × (List (List Int)) × (List (Int × (List Int))) × (List (ByteArray × Bool)) × (List (List Int))) (R := (Option ((List (List Int)) × (List (Int × (List Int))) × (List (ByteArray × Bool)))) × Bool) (fun s3409 =>
  (s_impl_power (s2356.2.1.length : Int) x3136.1).bind fun r3432 =>
  (bif (decide (s3409.1 < r3432)) then (s_impl_argsAt s3409.1 x3136.1 (s2356.2.1.length : Int)).bind fun r3435 =>
  (forC (S := (List (List Int))) (R := (Option ((List (List Int)) × (List (Int × (List Int))) × (List (ByteArray × Bool)))) × Bool) (fun k3458 s3456 =>
  (idx r3435 k3458).bind fun x3464 =>
  (idx s3409.2.1 x3464).bind fun x3466 =>
  (idx s3456 k3458).bind fun x3470 =>
  some (.nx (List.set s3456 (Int.toNat k3458) x3466))) 0 (r3435.length : Int) s3409.2.2.2.2).bind fun o3460 => after o3460 (fun r_ => some (.rt r_)) (fun s3456 =>
  (s_impl_power n k).bind fun r3489 =>
  (s_impl_composeTables n (x3136.1, x3136.2) s3456 r3489).bind fun r3491 =>
  (s_impl_found__add r3491 k3118 r3435 (s3409.2.1, s3409.2.2.1, s3409.2.2.2.1)).bind fun r3497 =>
  (bif (decide (60 < (r3497.1.length : Int))) then some (.rt (none, false)) else some (.nx (w64 (s3409.1 + 1), r3497.1, r3497.2.1, r3497.2.2, s3456)))) else some (.br (s3409.1, s3409.2.1, s3409.2.2.1, s3409.2.2.2.1, s3409.2.2.2.2)))) FU (0, s3116.1, s3116.2.1, s3116.2.2, y3143)).bind fun o3413 => after o3413 (fun r_ => some (.rt r_)) (fun s3409 =>
  some (.nx (s3409.2.1, s3409.2.2.1, s3409.2.2.2.1)))) 0 (ops.length : Int) (s2356.2.1, s2356.2.2.1, s2356.2.2.2)).bind fun o3120 => after o3120 (fun r_ => some (.rt r_)) (fun s3116 =>
  some (.nx ((s2356.2.1.length : Int), s3116.1, s3116.2.1, s3116.2.2))) else some (.br (s2356.1, s2356.2.1, s2356.2.2.1, s2356.2.2.2)))) FU ((-1), s63.1, s63.2.1, s63.2.2)).bind fun o2360 => after o2360 (fun r_ => some r_) (fun s2356 =>
  some ((some (s2356.2.1, s2356.2.2.1, s2356.2.2.2)), true)))
set_option maxHeartbeats 4000000 in
theorem c_impl_cloneOf {M : Nat → Prop} {w : World} {pa0 : Option Addr} {pn0 pc0 : Nat} (n : Int) (ops : List (Int × (List Int))) (k : Int) (h0 : (RT.rs (RT.pr (RT.int .i64) (RT.rs (RT.int .i64)))).val M w (.slice pa0 pn0 pc0) ops ([])) (hM : ∀ g, w.heap.size ≤ g → M g) {r : (Option ((List (List Int)) × (List (Int × (List Int))) × (List (ByteArray × Bool)))) × Bool} (hs : s_impl_cloneOf n ops k = some r) :
    Gives Try.prog 111 [(.int .i64 n), (.slice pa0 pn0 pc0), (.int .i64 k)] w (fun v w' => ∃ (rn0 : Value) (rf0 : List Nat), v = (.tuple #[rn0, (.bool r.2)]) ∧ Chg [] w w' ∧ (RT.op 97 (RT.pr (RT.os 37 (RT.rs (RT.int .i64))) (RT.pr (RT.os 119 (RT.pr (RT.int .i64) (RT.os 3 (RT.int .i64)))) (RT.mo Value.bool)))).val (PastL M [] w w' (rf0 ++ ([]))) w' rn0 r.1 rf0 ∧ Own (Nw w []) (fun _ => True) w' (rf0 ++ ([]))) := by
 refine calls_fr Try.func111 rfl Try.ntmps111 (Nat.le_of_ble_eq_true rfl) ?_
 have hO := Own.start (N := Nw w []) hM Nw.fut
 have hC := Chg.refl [] w
 unfold s_impl_cloneOf at hs
 refine wp_mono (Q := KPost (k_impl_cloneOf M w r)) ?_ (fun e a k7 h => ?_)
 rotate_left
 ·cases e
  case ret =>
   obtain ⟨σ, rn0, rf0, rfl, hrest⟩ := h
   exact ret2x Try.results111 (res_tmp rfl) (res_tmp rfl) ⟨rn0, rf0, rfl, hrest⟩
  all_goals exact (h : False).elim
 refine c_sr ?_
 refine pl_val (.pointer none) (y_assign rfl) ?_
 refine pl_val (.bool false) (y_assign rfl) ?_
 refine c_nil ?_
 refine c_sr ?_
 obtain ⟨s3, h9, v7, s4, p8, l9⟩ := mo_make (enc := Value.bool) (M := M) w
 refine pl_val (w' := s3) (.map (some h9)) (by rw [v7, s4]; exact y_mmap) ?_
 have h0 := h0.ext p8
 have hC := hC.ext p8
 have hO := hO.new (X' := [h9]) p8 (fun q hq => by rw [List.mem_singleton.1 hq, s4]; exact Nat.le_refl _) (List.nodup_cons.2 ⟨(fun h => nomatch h), List.nodup_nil⟩) l9.fpl
 refine pl_val (.agg #[(.slice none 0 0), (.slice none 0 0), (.map (some h9))]) (y_build rfl (by kernel_rfl)) ?_
 obtain ⟨v8, a0, v9, s5, m0, a1⟩ := new_block s3 [(.slice none 0 0), (.slice none 0 0), (.map (some h9))] 97
 refine pl_val (w' := v8) (.pointer (some ⟨a0, 0, none⟩)) (y_box rfl (by rw [v9, s5]; kernel_rfl)) ?_
 have h0 := h0.ext m0
 have l9 := l9.ext m0
 have hC := hC.ext m0
 have hO := hO.new1 m0 s5 a1.lt
 refine pl_val (.pointer (some ⟨a0, 0, none⟩)) (y_assign rfl) ?_
 refine c_nil ?_
 refine c_seq ?_
 refine c_sr ?_
 refine pl_val (.int .i64 0) (y_assign rfl) ?_
 refine c_nil ?_
 obtain ⟨o68, w1, hs⟩ := bind_some hs
 refine wp_block ?_
 refine wp_forC (id := 0) k (I := fun k66 s63 a b3 => ∃ (σ : Nat → Value) (c1 : Nat → Prop) (i0 : Option Addr) (i1 : Nat) (i2 : Nat) (f7 : List Nat) (i3 : Option Addr) (i4 : Nat) (i5 : Nat) (f8 : List Nat) (i6 : Nat) (f9 : List Nat), a = fr 106 (ovl σ [(0, (.int .i64 n)), (1, (.slice pa0 pn0 pc0)), (2, (.int .i64 k)), (8, (.pointer (some ⟨a0, 0, none⟩))), (9, (.int .i64 k66))]) ∧ Chg [] w b3 ∧ Own (Nw w []) c1 b3 (f7 ++ (f8 ++ (f9 ++ (([a0]) ++ [])))) ∧ KeepsF w [] M c1 ∧ (RT.rs (RT.pr (RT.int .i64) (RT.rs (RT.int .i64)))).val c1 b3 (.slice pa0 pn0 pc0) ops ([]) ∧ BoxV b3 a0 97 [(.slice i0 i1 i2), (.slice i3 i4 i5), (.map (some i6))] ∧ (RT.os 37 (RT.rs (RT.int .i64))).val c1 b3 (.slice i0 i1 i2) s63.1 f7 ∧ (RT.os 119 (RT.pr (RT.int .i64) (RT.os 3 (RT.int .i64)))).val c1 b3 (.slice i3 i4 i5) s63.2.1 f8 ∧ (RT.mo Value.bool).val c1 b3 (.map (some i6)) s63.2.2 f9) (J := fun s63 a b3 => ∃ (σ : Nat → Value) (g0 : Nat → Prop) (m1 : Option Addr) (m2 : Nat) (m3 : Nat) (m4 : List Nat) (m5 : Option Addr) (m6 : Nat) (m7 : Nat) (m8 : List Nat) (m9 : Nat) (n0 : List Nat), a = fr 106 (ovl σ [(0, (.int .i64 n)), (1, (.slice pa0 pn0 pc0)), (2, (.int .i64 k)), (8, (.pointer (some ⟨a0, 0, none⟩)))]) ∧ Chg [] w b3 ∧ Own (Nw w []) g0 b3 (m4 ++ (m8 ++ (n0 ++ (([a0]) ++ [])))) ∧ KeepsF w [] M g0 ∧ (RT.rs (RT.pr (RT.int .i64) (RT.rs (RT.int .i64)))).val g0 b3 (.slice pa0 pn0 pc0) ops ([]) ∧ BoxV b3 a0 97 [(.slice m1 m2 m3), (.slice m5 m6 m7), (.map (some m9))] ∧ (RT.os 37 (RT.rs (RT.int .i64))).val g0 b3 (.slice m1 m2 m3) s63.1 m4 ∧ (RT.os 119 (RT.pr (RT.int .i64) (RT.os 3 (RT.int .i64)))).val g0 b3 (.slice m5 m6 m7) s63.2.1 m8 ∧ (RT.mo Value.bool).val g0 b3 (.map (some m9)) s63.2.2 n0) (K := (k_impl_cloneOf M w)) ?_ ?_ 0 ([], [], []) o68 _ _ ?_ w1 ?_
 ·rintro k66 s63 a b3 ⟨σ, c1, i0, i1, i2, f7, i3, i4, i5, f8, i6, f9, rfl, hC, hO, hK, h0, a1, c6, c7, c8⟩ hlt
  refine c_seq ?_
  refine c_sr ?_
  refine pl_val (.int .i64 k66) (y_move rfl) ?_
  refine pl_val (.int .i64 k) (y_move rfl) ?_
  refine pl_val (.bool (decide (k66 < k))) (y_lss rfl rfl) ?_
  refine c_nil ?_
  refine c_condF (congrArg Value.bool (decide_eq_false hlt)) ?_
  refine wp_exit ?_
  have hO := hO.fr3
  have hO := hO.fr3
  have hO := hO.fr3
  have hO := hO.fr3
  exact ⟨rfl, _, c1, i0, i1, i2, f7, i3, i4, i5, f8, i6, f9, fr_ovl 106 ⟨rfl, rfl, rfl, rfl, trivial⟩, hC, hO, hK, h0, a1, c6, c7, c8⟩
 ·rintro k66 s63 o68 a b3 ⟨σ, c1, i0, i1, i2, f7, i3, i4, i5, f8, i6, f9, rfl, hC, hO, hK, h0, a1, c6, c7, c8⟩ hlt hw hs
  refine c_seq ?_
  refine c_sr ?_
  refine pl_val (.int .i64 k66) (y_move rfl) ?_
  refine pl_val (.int .i64 k) (y_move rfl) ?_
  refine pl_val (.bool (decide (k66 < k))) (y_lss rfl rfl) ?_
  refine c_nil ?_
  refine c_condT (congrArg Value.bool (decide_eq_true hlt)) ?_
  refine wp_skip ?_
  refine c_seq ?_
  refine wp_block ?_
  refine c_region ?_
  refine pl_val (.pointer (some ⟨a0, 0, none⟩)) (y_move rfl) ?_
  refine pl_val (.int .i64 n) (y_move rfl) ?_
  refine pl_val (.int .i64 k) (y_move rfl) ?_
  refine pl_val (.int .i64 k66) (y_move rfl) ?_
  obtain ⟨r85, w2, hs⟩ := bind_some hs
  refine pl_call Bd84 rfl (c_impl_projection (M := c1) n k k66  hO.fut w2) ?_
  rintro _ w3 ⟨E7, E8, E9, w4, rfl, g9, p9, w5⟩
  have h0 := h0.ext g9
  have a1 := a1.cn g9
  have c6 := c6.ext g9
  have c7 := c7.ext g9
  have c8 := c8.ext g9
  have hC := hC.ext g9
  have hO := Own.join0 hO g9 w5
  have hO := hO.perm (R := w4 ++ (f7 ++ (f8 ++ (f9 ++ (([a0]) ++ ([])))))) (by simp)
  refine pl_val (.int .i64 k66) (y_move rfl) ?_
  obtain ⟨s6, q0, w6, s7, g1, s8⟩ := new_block w3 [(.int .i64 k66)] 3
  refine pl_val (w' := s6) (.slice (some ⟨q0, 0, none⟩) 1 1) (y_bslice rfl (by rw [w6, s7]; kernel_rfl)) ?_
  have h0 := h0.ext g1
  have a1 := a1.cn g1
  have c6 := c6.ext g1
  have c7 := c7.ext g1
  have c8 := c8.ext g1
  have p9 := p9.ext g1
  have hC := hC.ext g1
  have hO := hO.new1 g1 s7 s8.lt
  have k8 := os_of_box (r := (RT.int .i64)) (M := c1) (css := [[(.int .i64 k66)]]) (fps := [([] : List Nat)]) (xs := ([k66] : List Int)) s8 ⟨⟨rfl, rfl⟩, trivial⟩ (Nat.le_of_ble_eq_true rfl) (List.nodup_cons.2 ⟨(fun h => nomatch h), List.nodup_nil⟩)
  have k8 : (RT.os 3 (RT.int .i64)).val c1 s6 (.slice (some ⟨q0, 0, none⟩) 1 1) [k66] [q0] := k8
  have hO := hO.fr1
  obtain ⟨k9, F0, l0, w7, hO, l1⟩ := frzF_own (Frz.os Frz.int) p9 hO
  have h0 := h0.sub (M' := k9) l0
  have c6 := c6.sub (M' := k9) l0
  have c7 := c7.sub (M' := k9) l0
  have c8 := c8.sub (M' := k9) l0
  have k8 := k8.sub (M' := k9) l0
  have hK := hK.trans w7
  obtain ⟨h1, F1, l2, w8, hO, q1⟩ := frzF_own (Frz.os Frz.int) k8 hO
  have h0 := h0.sub (M' := h1) l2
  have c6 := c6.sub (M' := h1) l2
  have c7 := c7.sub (M' := h1) l2
  have c8 := c8.sub (M' := h1) l2
  have l1 := l1.sub (M' := h1) l2
  have hK := hK.trans w8
  have hO := hO.fr2
  have hO := hO.fr2
  have hO := hO.fr2
  have hO := hO.fr3
  have w9 := hO
  have s9 := Own.lend (F := (([a0]) ++ (f7 ++ (f8 ++ (f9 ++ ([])))))) (R := []) (Own.perm (w9) (by simp))
  obtain ⟨r93, x0, hs⟩ := bind_some hs
  refine pl_call Bd117 rfl (c_impl_found__add (M := h1) r85 (-1) ([k66]) (s63.1, s63.2.1, s63.2.2) l1 q1 (show BoxV _ a0 97 [(.slice i0 i1 i2), (.slice i3 i4 i5), (.map (some i6))] from a1) c6 c7 c8 s9 s9.fut x0) ?_
  rintro _ x1 ⟨t0, t1, t2, t3, t4, t5, t6, t7, t8, t9, rfl, l3, q2, x2, x3, x4, x5⟩
  have hO := hO.fr3
  have hO := hO.fr3
  have hO := hO.fr3
  have hO := hO.fr3
  have hO := hO.perm (R := (([a0]) ++ (f7 ++ (f8 ++ (f9 ++ ([]))))) ++ ([])) (by simp)
  have h0 := h0.mt l3 hO same_
  have l1 := l1.mt l3 hO same_
  have q1 := q1.mt l3 hO same_
  have hC := hC.st l3 hO same_
  have hO := Own.join hO l3 x5
  have hO := hO.perm (R := [a0] ++ (t3 ++ (t7 ++ (t9 ++ ([]))))) (by simp)
  have q2 : BoxV x1 a0 97 [(.slice t0 t1 t2), (.slice t4 t5 t6), (.map (some t8))] := q2
  refine c_nil ?_
  refine c_region ?_
  refine pl_val (.int .i64 k66) (y_move rfl) ?_
  refine pl_val (.int .i64 (w64 (k66 + 1))) (y_add rfl rfl) ?_
  refine pl_val (.int .i64 (w64 (k66 + 1))) (y_assign rfl) ?_
  refine c_nil ?_
  cases hs
  have hO := hO.fr3
  have hO := hO.fr3
  have hO := hO.fr3
  exact ⟨_, h1, t0, t1, t2, t3, t4, t5, t6, t7, t8, t9, fr_ovl 106 ⟨rfl, rfl, rfl, rfl, congrArg (Value.int .i64) hw, trivial⟩, hC, hO, hK, h0, q2, x2, x3, x4⟩
 ·skip
  have hO := hO.fr1
  have hO := hO.nil
  have hO := hO.nil
  exact ⟨_, M, none, 0, 0, [], none, 0, 0, [], h9, ([h9]), fr_ovl 106 ⟨rfl, rfl, rfl, rfl, rfl, trivial⟩, hC, hO, KeepsF.refl, h0, a1, os_nil, os_nil, l9⟩
 cases o68 with
 | nx _ => exact True.intro
 | rt r_ =>
  have hs := after_rt hs
  intro e8 k7 hK
  cases hs
  exact hK
 | br s63 =>
  have hs := after_br hs
  rintro e8 b3 ⟨σ, g0, m1, m2, m3, m4, m5, m6, m7, m8, m9, n0, rfl, hC, hO, hK, h0, a1, x6, x7, x8⟩
  refine c_seq ?_
  refine c_sr ?_
  refine pl_val (.int .i64 (-1)) (y_assign rfl) ?_
  refine c_nil ?_
  obtain ⟨o2360, x9, hs⟩ := bind_some hs
  refine wp_block ?_
  refine wp_iter (id := 2) (I := fun s2356 a b4 => ∃ (σ : Nat → Value) (e9 : Nat → Prop) (f0 : Option Addr) (f1 : Nat) (f2 : Nat) (l4 : List Nat) (h2 : Option Addr) (h3 : Nat) (h4 : Nat) (l5 : List Nat) (h5 : Nat) (l6 : List Nat), a = fr 106 (ovl σ [(0, (.int .i64 n)), (1, (.slice pa0 pn0 pc0)), (2, (.int .i64 k)), (8, (.pointer (some ⟨a0, 0, none⟩))), (10, (.int .i64 s2356.1))]) ∧ Chg [] w b4 ∧ Own (Nw w []) e9 b4 (l4 ++ (l5 ++ (l6 ++ (([a0]) ++ [])))) ∧ KeepsF w [] M e9 ∧ (RT.rs (RT.pr (RT.int .i64) (RT.rs (RT.int .i64)))).val e9 b4 (.slice pa0 pn0 pc0) ops ([]) ∧ BoxV b4 a0 97 [(.slice f0 f1 f2), (.slice h2 h3 h4), (.map (some h5))] ∧ (RT.os 37 (RT.rs (RT.int .i64))).val e9 b4 (.slice f0 f1 f2) s2356.2.1 l4 ∧ (RT.os 119 (RT.pr (RT.int .i64) (RT.os 3 (RT.int .i64)))).val e9 b4 (.slice h2 h3 h4) s2356.2.2.1 l5 ∧ (RT.mo Value.bool).val e9 b4 (.map (some h5)) s2356.2.2.2 l6) (J := fun s2356 a b4 => ∃ (σ : Nat → Value) (g2 : Nat → Prop) (q3 : Option Addr) (q4 : Nat) (q5 : Nat) (i7 : List Nat) (q6 : Option Addr) (q7 : Nat) (q8 : Nat) (i9 : List Nat) (q9 : Nat) (j0 : List Nat), a = fr 106 (ovl σ [(8, (.pointer (some ⟨a0, 0, none⟩)))]) ∧ Chg [] w b4 ∧ Own (Nw w []) g2 b4 (i7 ++ (i9 ++ (j0 ++ (([a0]) ++ [])))) ∧ KeepsF w [] M g2 ∧ (RT.rs (RT.pr (RT.int .i64) (RT.rs (RT.int .i64)))).val g2 b4 (.slice pa0 pn0 pc0) ops ([]) ∧ BoxV b4 a0 97 [(.slice q3 q4 q5), (.slice q6 q7 q8), (.map (some q9))] ∧ (RT.os 37 (RT.rs (RT.int .i64))).val g2 b4 (.slice q3 q4 q5) s2356.2.1 i7 ∧ (RT.os 119 (RT.pr (RT.int .i64) (RT.os 3 (RT.int .i64)))).val g2 b4 (.slice q6 q7 q8) s2356.2.2.1 i9 ∧ (RT.mo Value.bool).val g2 b4 (.map (some q9)) s2356.2.2.2 j0) (K := (k_impl_cloneOf M w)) ?_ FU ((-1), s63.1, s63.2.1, s63.2.2) o2360 _ _ ?_ x9 ?_
  ·rintro s2356 o2360 a b4 ⟨σ, e9, f0, f1, f2, l4, h2, h3, h4, l5, h5, l6, rfl, hC, hO, hK, h0, a1, n1, u0, u1⟩ hs
   refine c_seq ?_
   refine c_sr ?_
   refine pl_val (.int .i64 s2356.1) (y_move rfl) ?_
   refine pl_val (.pointer (some ⟨a0, 0, none⟩)) (y_move rfl) ?_
   refine pl_val (.pointer (some ⟨a0, 0, none⟩)) (y_nilc rfl) ?_
   refine pl_val (.pointer (some ⟨a0, 0, none⟩)) (y_faddr rfl Fa97x0) ?_
   refine pl_val (.slice f0 f1 f2) (y_load rfl ((box_load Ag47 Sz47 a1 [] [(.slice f0 f1 f2)] [(.slice h2 h3 h4), (.map (some h5))] rfl rfl (fun _ => rfl)) _ (Chg.refl _ _))) ?_
   refine pl_val (.int .i64 (s2356.2.1.length : Int)) (y_len' Sl47 (os_len n1) rfl) ?_
   refine pl_val (.bool (decide (s2356.1 < (s2356.2.1.length : Int)))) (y_lss rfl rfl) ?_
   refine c_nil ?_
   rcases bif_some hs with ⟨r0, hs⟩ | ⟨r0, hs⟩
   ·refine c_condT (congrArg Value.bool r0) ?_
    refine wp_skip ?_
    refine wp_block ?_
    refine c_sr ?_
    refine pl_val (.pointer (some ⟨a0, 0, none⟩)) (y_move rfl) ?_
    refine pl_val (.pointer (some ⟨a0, 0, none⟩)) (y_nilc rfl) ?_
    refine pl_val (.pointer (some ⟨a0, 0, none⟩)) (y_faddr rfl Fa97x0) ?_
    refine pl_val (.slice f0 f1 f2) (y_load rfl ((box_load Ag47 Sz47 a1 [] [(.slice f0 f1 f2)] [(.slice h2 h3 h4), (.map (some h5))] rfl rfl (fun _ => rfl)) _ (Chg.refl _ _))) ?_
    refine pl_val (.int .i64 (s2356.2.1.length : Int)) (y_len' Sl47 (os_len n1) rfl) ?_
    refine pl_val (.int .i64 (s2356.2.1.length : Int)) (y_assign rfl) ?_
    refine c_nil ?_
    refine c_sr ?_
    refine pl_val (.slice pa0 pn0 pc0) (y_move rfl) ?_
    refine pl_val (.int .i64 (ops.length : Int)) (y_len' Sl26 (rs_len h0) rfl) ?_
    refine pl_val (.int .i64 0) (y_move rfl) ?_
    refine c_nil ?_
    obtain ⟨o3120, y0, hs⟩ := bind_some hs
    refine wp_block ?_
    refine wp_forC (id := 4) (ops.length : Int) (I := fun k3118 s3116 a b1 => ∃ (σ : Nat → Value) (d9 : Nat → Prop) (j1 : Option Addr) (j2 : Nat) (j3 : Nat) (j4 : List Nat) (j5 : Option Addr) (j6 : Nat) (j7 : Nat) (j8 : List Nat) (j9 : Nat) (k0 : List Nat), a = fr 106 (ovl σ [(0, (.int .i64 n)), (1, (.slice pa0 pn0 pc0)), (2, (.int .i64 k)), (8, (.pointer (some ⟨a0, 0, none⟩))), (10, (.int .i64 (s2356.2.1.length : Int))), (46, (.slice pa0 pn0 pc0)), (47, (.int .i64 (ops.length : Int))), (48, (.int .i64 k3118))]) ∧ Chg [] w b1 ∧ Own (Nw w []) d9 b1 (j4 ++ (j8 ++ (k0 ++ (([a0]) ++ [])))) ∧ KeepsF w [] M d9 ∧ (RT.rs (RT.pr (RT.int .i64) (RT.rs (RT.int .i64)))).val d9 b1 (.slice pa0 pn0 pc0) ops ([]) ∧ BoxV b1 a0 97 [(.slice j1 j2 j3), (.slice j5 j6 j7), (.map (some j9))] ∧ (RT.os 37 (RT.rs (RT.int .i64))).val d9 b1 (.slice j1 j2 j3) s3116.1 j4 ∧ (RT.os 119 (RT.pr (RT.int .i64) (RT.os 3 (RT.int .i64)))).val d9 b1 (.slice j5 j6 j7) s3116.2.1 j8 ∧ (RT.mo Value.bool).val d9 b1 (.map (some j9)) s3116.2.2 k0) (J := fun s3116 a b1 => ∃ (σ : Nat → Value) (g3 : Nat → Prop) (n2 : Option Addr) (n3 : Nat) (n4 : Nat) (n5 : List Nat) (n6 : Option Addr) (n7 : Nat) (n8 : Nat) (n9 : List Nat) (o0 : Nat) (o1 : List Nat), a = fr 106 (ovl σ [(0, (.int .i64 n)), (1, (.slice pa0 pn0 pc0)), (2, (.int .i64 k)), (8, (.pointer (some ⟨a0, 0, none⟩))), (10, (.int .i64 (s2356.2.1.length : Int)))]) ∧ Chg [] w b1 ∧ Own (Nw w []) g3 b1 (n5 ++ (n9 ++ (o1 ++ (([a0]) ++ [])))) ∧ KeepsF w [] M g3 ∧ (RT.rs (RT.pr (RT.int .i64) (RT.rs (RT.int .i64)))).val g3 b1 (.slice pa0 pn0 pc0) ops ([]) ∧ BoxV b1 a0 97 [(.slice n2 n3 n4), (.slice n6 n7 n8), (.map (some o0))] ∧ (RT.os 37 (RT.rs (RT.int .i64))).val g3 b1 (.slice n2 n3 n4) s3116.1 n5 ∧ (RT.os 119 (RT.pr (RT.int .i64) (RT.os 3 (RT.int .i64)))).val g3 b1 (.slice n6 n7 n8) s3116.2.1 n9 ∧ (RT.mo Value.bool).val g3 b1 (.map (some o0)) s3116.2.2 o1) (K := (k_impl_cloneOf M w)) ?_ ?_ 0 (s2356.2.1, s2356.2.2.1, s2356.2.2.2) o3120 _ _ ?_ y0 ?_
    ·rintro k3118 s3116 a b1 ⟨σ, d9, j1, j2, j3, j4, j5, j6, j7, j8, j9, k0, rfl, hC, hO, hK, h0, a1, c9, d0, d1⟩ hlt
     refine c_sr ?_
     refine pl_val (.bool (decide (k3118 < (ops.length : Int)))) (y_lss rfl rfl) ?_
     refine c_nil ?_
     refine c_seq ?_
     refine c_condF (congrArg Value.bool (decide_eq_false hlt)) ?_
     refine wp_exit ?_
     have hO := hO.fr3
     have hO := hO.fr3
     have hO := hO.fr3
     have hO := hO.fr3
     exact ⟨rfl, _, d9, j1, j2, j3, j4, j5, j6, j7, j8, j9, k0, fr_ovl 106 ⟨rfl, rfl, rfl, rfl, rfl, trivial⟩, hC, hO, hK, h0, a1, c9, d0, d1⟩
    ·rintro k3118 s3116 o3120 a b1 ⟨σ, d9, j1, j2, j3, j4, j5, j6, j7, j8, j9, k0, rfl, hC, hO, hK, h0, a1, c9, d0, d1⟩ hlt hw hs
     refine c_sr ?_
     refine pl_val (.bool (decide (k3118 < (ops.length : Int)))) (y_lss rfl rfl) ?_
     refine c_nil ?_
     refine c_seq ?_
     refine c_condT (congrArg Value.bool (decide_eq_true hlt)) ?_
     refine wp_skip ?_
     refine c_seq ?_
     refine wp_block ?_
     refine c_sr ?_
     refine pl_val (.int .i64 k3118) (y_move rfl) ?_
     obtain ⟨x3136, y1, hs⟩ := bind_some hs
     obtain ⟨y2, y3, y4, r1⟩ := rs_idx Sl26 Sz64 h0 y1
     refine pl_val (.pointer (some ⟨y2, y3, none⟩)) (y4 _ _ _ _ _ _ _ _ _ rfl rfl) ?_
     obtain ⟨F2, y5, y6⟩ := at_load Ag64 Sz64 (by intro h; cases h) r1
     obtain ⟨F3, rfl, y7⟩ := y6
     obtain ⟨F4, F5, rfl, y8, y9⟩ := pr_open y7
     obtain rfl := int_rel y8
     obtain ⟨b5, b6, b7, rfl, a2⟩ := rs_rel y9
     refine pl_val (.agg #[(.int .i64 x3136.1), (.slice b5 b6 b7)]) (y_load rfl (y5 _ (Chg.refl _ _))) ?_
     obtain ⟨z0, b0, z1, u2, f3, u3⟩ := new_block b1 [(.int .i64 0), (.slice none 0 0)] 64
     refine pl_val (w' := z0) (.pointer (some ⟨b0, 0, none⟩)) (y_alloc (by rw [z1, u2]; kernel_rfl)) ?_
     have h0 := h0.ext f3
     have a1 := a1.cn f3
     have c9 := c9.ext f3
     have d0 := d0.ext f3
     have d1 := d1.ext f3
     have a2 := a2.ext f3
     have r1 := at_ext r1 f3
     have hC := hC.ext f3
     have hO := hO.new1 f3 u2 u3.lt
     refine pl_val (.int .i64 k3118) (y_assign rfl) ?_
     obtain ⟨r2, z2, g4, a3⟩ := box_store (P := Try.prog) u3 [] [(.int .i64 0), (.slice none 0 0)] [] [(.int .i64 x3136.1), (.slice b5 b6 b7)] rfl rfl (by intro u hu; simp only [List.mem_cons, List.not_mem_nil, or_false] at hu; rcases hu with rfl | rfl <;> rfl)
     refine pl_skip (w' := r2) (ys_store rfl rfl (z2 _ _ rfl Sz64)) ?_
     have h0 := h0.mt g4 hO same_
     have a1 := a1.ap g4 hO same_ (mem_r (mem_r (mem_r (mem_l (List.mem_singleton.2 rfl)))))
     have c9 := c9.ma g4 hO same_ (fun _ e => (mem_l (e)))
     have d0 := d0.ma g4 hO same_ (fun _ e => (mem_r (mem_l (e))))
     have d1 := d1.ma g4 hO same_ (fun _ e => (mem_r (mem_r (mem_l (e)))))
     have a2 := a2.mt g4 hO same_
     have hC := hC.st g4 hO same_
     have hO := hO.ext g4
     have a3 : BoxV r2 b0 64 [(.int .i64 x3136.1), (.slice b5 b6 b7)] := a3
     refine c_nil ?_
     refine c_sr ?_
     refine pl_val (.pointer (some ⟨b0, 0, none⟩)) (y_faddr rfl Fa64x0) ?_
     refine pl_val (.int .i64 x3136.1) (y_load rfl ((box_load Ag3 Sz3 a3 [] [(.int .i64 x3136.1)] [(.slice b5 b6 b7)] rfl rfl (fun _ => rfl)) _ (Chg.refl _ _))) ?_
     obtain ⟨y3143, z3, hs⟩ := bind_some hs
     obtain ⟨d2, d3, d4, z4, F6, z5, f4, z6, r3⟩ := mk_os (M := d9) (w := r2) (r := (RT.os 3 (RT.int .i64))) Rw47 z3 (fun _ _ => (os_unval os_nil))
     refine pl_val (w' := z4) (.slice d2 d3 d4) (y_make rfl rfl z5) ?_
     have h0 := h0.ext f4
     have a1 := a1.cn f4
     have c9 := c9.ext f4
     have d0 := d0.ext f4
     have d1 := d1.ext f4
     have a2 := a2.ext f4
     have a3 := a3.cn f4
     have hC := hC.ext f4
     have hO := hO.new f4 z6 (os_nodup r3) r3.fpl
     refine pl_val (.slice d2 d3 d4) (y_assign rfl) ?_
     refine c_nil ?_
     refine c_sr ?_
     refine pl_val (.int .i64 0) (y_assign rfl) ?_
     refine c_nil ?_
     obtain ⟨k1, z7, l7, z8, hO, z9⟩ := osF_inner (Frz.os Frz.int) r3 hO
     have h0 := h0.sub (M' := k1) l7
     have c9 := c9.sub (M' := k1) l7
     have d0 := d0.sub (M' := k1) l7
     have d1 := d1.sub (M' := k1) l7
     have a2 := a2.sub (M' := k1) l7
     have hK := hK.trans z8
     obtain ⟨o3413, A0, hs⟩ := bind_some hs
     refine wp_block ?_
     refine wp_iter (id := 6) (I := fun s3409 a a9 => ∃ (σ : Nat → Value) (a4 : Nat → Prop) (d5 : Option Addr) (d6 : Nat) (d7 : Nat) (c2 : List Nat) (e0 : Option Addr) (e1 : Nat) (e2 : Nat) (c3 : List Nat) (e3 : Nat) (c4 : List Nat) (k2 : List Nat), a = fr 106 (ovl σ [(0, (.int .i64 n)), (1, (.slice pa0 pn0 pc0)), (2, (.int .i64 k)), (8, (.pointer (some ⟨a0, 0, none⟩))), (10, (.int .i64 (s2356.2.1.length : Int))), (11, (.int .i64 k3118)), (12, (.pointer (some ⟨b0, 0, none⟩))), (13, (.slice d2 d3 d4)), (14, (.int .i64 s3409.1)), (46, (.slice pa0 pn0 pc0)), (47, (.int .i64 (ops.length : Int))), (48, (.int .i64 k3118))]) ∧ Chg [] w a9 ∧ Own (Nw w []) a4 a9 (c2 ++ (c3 ++ (c4 ++ (k2 ++ (([b0]) ++ (([a0]) ++ [])))))) ∧ KeepsF w [] M a4 ∧ (RT.rs (RT.pr (RT.int .i64) (RT.rs (RT.int .i64)))).val a4 a9 (.slice pa0 pn0 pc0) ops ([]) ∧ BoxV a9 a0 97 [(.slice d5 d6 d7), (.slice e0 e1 e2), (.map (some e3))] ∧ (RT.rs (RT.int .i64)).val a4 a9 (.slice b5 b6 b7) x3136.2 ([]) ∧ BoxV a9 b0 64 [(.int .i64 x3136.1), (.slice b5 b6 b7)] ∧ (RT.os 37 (RT.rs (RT.int .i64))).val a4 a9 (.slice d2 d3 d4) s3409.2.2.2.2 k2 ∧ (RT.os 37 (RT.rs (RT.int .i64))).val a4 a9 (.slice d5 d6 d7) s3409.2.1 c2 ∧ (RT.os 119 (RT.pr (RT.int .i64) (RT.os 3 (RT.int .i64)))).val a4 a9 (.slice e0 e1 e2) s3409.2.2.1 c3 ∧ (RT.mo Value.bool).val a4 a9 (.map (some e3)) s3409.2.2.2.1 c4) (J := fun s3409 a a9 => ∃ (σ : Nat → Value) (e4 : Nat → Prop) (o2 : Option Addr) (o3 : Nat) (o4 : Nat) (o5 : List Nat) (o6 : Option Addr) (o7 : Nat) (o8 : Nat) (o9 : List Nat) (p0 : Nat) (p1 : List Nat) (r4 : List Nat), a = fr 106 (ovl σ [(0, (.int .i64 n)), (1, (.slice pa0 pn0 pc0)), (2, (.int .i64 k)), (8, (.pointer (some ⟨a0, 0, none⟩))), (10, (.int .i64 (s2356.2.1.length : Int))), (46, (.slice pa0 pn0 pc0)), (47, (.int .i64 (ops.length : Int))), (48, (.int .i64 k3118))]) ∧ Chg [] w a9 ∧ Own (Nw w []) e4 a9 (o5 ++ (o9 ++ (p1 ++ (r4 ++ (([b0]) ++ (([a0]) ++ [])))))) ∧ KeepsF w [] M e4 ∧ (RT.rs (RT.pr (RT.int .i64) (RT.rs (RT.int .i64)))).val e4 a9 (.slice pa0 pn0 pc0) ops ([]) ∧ BoxV a9 a0 97 [(.slice o2 o3 o4), (.slice o6 o7 o8), (.map (some p0))] ∧ (RT.rs (RT.int .i64)).val e4 a9 (.slice b5 b6 b7) x3136.2 ([]) ∧ BoxV a9 b0 64 [(.int .i64 x3136.1), (.slice b5 b6 b7)] ∧ (RT.os 37 (RT.rs (RT.int .i64))).val e4 a9 (.slice d2 d3 d4) s3409.2.2.2.2 r4 ∧ (RT.os 37 (RT.rs (RT.int .i64))).val e4 a9 (.slice o2 o3 o4) s3409.2.1 o5 ∧ (RT.os 119 (RT.pr (RT.int .i64) (RT.os 3 (RT.int .i64)))).val e4 a9 (.slice o6 o7 o8) s3409.2.2.1 o9 ∧ (RT.mo Value.bool).val e4 a9 (.map (some p0)) s3409.2.2.2.1 p1) (K := (k_impl_cloneOf M w)) ?_ FU (0, s3116.1, s3116.2.1, s3116.2.2, y3143) o3413 _ _ ?_ A0 ?_
     ·rintro s3409 o3413 a a9 ⟨σ, a4, d5, d6, d7, c2, e0, e1, e2, c3, e3, c4, k2, rfl, hC, hO, hK, h0, a1, a2, a3, k3, a6, a7, a8⟩ hs
      refine c_seq ?_
      refine c_sr ?_
      refine pl_val (.int .i64 s3409.1) (y_move rfl) ?_
      refine pl_val (.int .i64 (s2356.2.1.length : Int)) (y_move rfl) ?_
      refine pl_val (.pointer (some ⟨b0, 0, none⟩)) (y_faddr rfl Fa64x0) ?_
      refine pl_val (.int .i64 x3136.1) (y_load rfl ((box_load Ag3 Sz3 a3 [] [(.int .i64 x3136.1)] [(.slice b5 b6 b7)] rfl rfl (fun _ => rfl)) _ (Chg.refl _ _))) ?_
      obtain ⟨r3432, A1, hs⟩ := bind_some hs
      refine pl_call Bd112 rfl (c_impl_power (M := a4) (s2356.2.1.length : Int) x3136.1  hO.fut A1) ?_
      rintro _ F7 ⟨rfl, e5⟩
      have h0 := h0.ext e5
      have a1 := a1.cn e5
      have a2 := a2.ext e5
      have a3 := a3.cn e5
      have k3 := k3.ext e5
      have a6 := a6.ext e5
      have a7 := a7.ext e5
      have a8 := a8.ext e5
      have hC := hC.ext e5
      have hO := hO.ext e5
      refine pl_val (.bool (decide (s3409.1 < r3432))) (y_lss rfl rfl) ?_
      refine c_nil ?_
      rcases bif_some hs with ⟨r5, hs⟩ | ⟨r5, hs⟩
      ·refine c_condT (congrArg Value.bool r5) ?_
       refine wp_skip ?_
       refine c_seq ?_
       refine wp_block ?_
       refine c_sr ?_
       refine pl_val (.int .i64 s3409.1) (y_move rfl) ?_
       refine pl_val (.pointer (some ⟨b0, 0, none⟩)) (y_faddr rfl Fa64x0) ?_
       refine pl_val (.int .i64 x3136.1) (y_load rfl ((box_load Ag3 Sz3 a3 [] [(.int .i64 x3136.1)] [(.slice b5 b6 b7)] rfl rfl (fun _ => rfl)) _ (Chg.refl _ _))) ?_
       refine pl_val (.int .i64 (s2356.2.1.length : Int)) (y_move rfl) ?_
       obtain ⟨r3435, A2, hs⟩ := bind_some hs
       refine pl_call Bd88 rfl (c_impl_argsAt (M := a4) s3409.1 x3136.1 (s2356.2.1.length : Int)  hO.fut A2) ?_
       rintro _ F8 ⟨g5, g6, g7, k4, rfl, e6, b2, A3⟩
       have h0 := h0.ext e6
       have a1 := a1.cn e6
       have a2 := a2.ext e6
       have a3 := a3.cn e6
       have k3 := k3.ext e6
       have a6 := a6.ext e6
       have a7 := a7.ext e6
       have a8 := a8.ext e6
       have hC := hC.ext e6
       have hO := Own.join0 hO e6 A3
       have hO := hO.perm (R := k4 ++ (c2 ++ (c3 ++ (c4 ++ (k2 ++ (([b0]) ++ (([a0]) ++ ([])))))))) (by simp)
       refine pl_val (.slice g5 g6 g7) (y_assign rfl) ?_
       refine c_nil ?_
       refine c_seq ?_
       refine c_sr ?_
       refine pl_val (.slice g5 g6 g7) (y_move rfl) ?_
       refine pl_val (.int .i64 (r3435.length : Int)) (y_len' Sl37 (os_len b2) rfl) ?_
       refine pl_val (.int .i64 0) (y_move rfl) ?_
       refine c_nil ?_
       obtain ⟨o3460, A4, hs⟩ := bind_some hs
       refine wp_block ?_
       refine wp_forC (id := 8) (r3435.length : Int) (I := fun k3458 s3456 a a5 => ∃ (σ : Nat → Value) (k5 : List Nat), a = fr 106 (ovl σ [(0, (.int .i64 n)), (1, (.slice pa0 pn0 pc0)), (2, (.int .i64 k)), (8, (.pointer (some ⟨a0, 0, none⟩))), (10, (.int .i64 (s2356.2.1.length : Int))), (11, (.int .i64 k3118)), (12, (.pointer (some ⟨b0, 0, none⟩))), (13, (.slice d2 d3 d4)), (14, (.int .i64 s3409.1)), (15, (.slice g5 g6 g7)), (46, (.slice pa0 pn0 pc0)), (47, (.int .i64 (ops.length : Int))), (48, (.int .i64 k3118)), (69, (.slice g5 g6 g7)), (70, (.int .i64 (r3435.length : Int))), (71, (.int .i64 k3458))]) ∧ Chg [] w a5 ∧ Own (Nw w []) a4 a5 (k4 ++ (c2 ++ (c3 ++ (c4 ++ (k5 ++ (([b0]) ++ (([a0]) ++ []))))))) ∧ (RT.rs (RT.pr (RT.int .i64) (RT.rs (RT.int .i64)))).val a4 a5 (.slice pa0 pn0 pc0) ops ([]) ∧ BoxV a5 a0 97 [(.slice d5 d6 d7), (.slice e0 e1 e2), (.map (some e3))] ∧ (RT.rs (RT.int .i64)).val a4 a5 (.slice b5 b6 b7) x3136.2 ([]) ∧ BoxV a5 b0 64 [(.int .i64 x3136.1), (.slice b5 b6 b7)] ∧ (RT.os 37 (RT.rs (RT.int .i64))).val a4 a5 (.slice d2 d3 d4) s3456 k5 ∧ (RT.os 37 (RT.rs (RT.int .i64))).val a4 a5 (.slice d5 d6 d7) s3409.2.1 c2 ∧ (RT.os 119 (RT.pr (RT.int .i64) (RT.os 3 (RT.int .i64)))).val a4 a5 (.slice e0 e1 e2) s3409.2.2.1 c3 ∧ (RT.mo Value.bool).val a4 a5 (.map (some e3)) s3409.2.2.2.1 c4 ∧ (RT.os 3 (RT.int .i64)).val a4 a5 (.slice g5 g6 g7) r3435 k4) (J := fun s3456 a a5 => ∃ (σ : Nat → Value) (f5 : List Nat), a = fr 106 (ovl σ [(0, (.int .i64 n)), (1, (.slice pa0 pn0 pc0)), (2, (.int .i64 k)), (8, (.pointer (some ⟨a0, 0, none⟩))), (10, (.int .i64 (s2356.2.1.length : Int))), (11, (.int .i64 k3118)), (12, (.pointer (some ⟨b0, 0, none⟩))), (13, (.slice d2 d3 d4)), (14, (.int .i64 s3409.1)), (15, (.slice g5 g6 g7)), (46, (.slice pa0 pn0 pc0)), (47, (.int .i64 (ops.length : Int))), (48, (.int .i64 k3118))]) ∧ Chg [] w a5 ∧ Own (Nw w []) a4 a5 (k4 ++ (c2 ++ (c3 ++ (c4 ++ (f5 ++ (([b0]) ++ (([a0]) ++ []))))))) ∧ (RT.rs (RT.pr (RT.int .i64) (RT.rs (RT.int .i64)))).val a4 a5 (.slice pa0 pn0 pc0) ops ([]) ∧ BoxV a5 a0 97 [(.slice d5 d6 d7), (.slice e0 e1 e2), (.map (some e3))] ∧ (RT.rs (RT.int .i64)).val a4 a5 (.slice b5 b6 b7) x3136.2 ([]) ∧ BoxV a5 b0 64 [(.int .i64 x3136.1), (.slice b5 b6 b7)] ∧ (RT.os 37 (RT.rs (RT.int .i64))).val a4 a5 (.slice d2 d3 d4) s3456 f5 ∧ (RT.os 37 (RT.rs (RT.int .i64))).val a4 a5 (.slice d5 d6 d7) s3409.2.1 c2 ∧ (RT.os 119 (RT.pr (RT.int .i64) (RT.os 3 (RT.int .i64)))).val a4 a5 (.slice e0 e1 e2) s3409.2.2.1 c3 ∧ (RT.mo Value.bool).val a4 a5 (.map (some e3)) s3409.2.2.2.1 c4 ∧ (RT.os 3 (RT.int .i64)).val a4 a5 (.slice g5 g6 g7) r3435 k4) (K := (k_impl_cloneOf M w)) ?_ ?_ 0 s3409.2.2.2.2 o3460 _ _ ?_ A4 ?_
       ·rintro k3458 s3456 a a5 ⟨σ, k5, rfl, hC, hO, h0, a1, a2, a3, k6, a6, a7, a8, b2⟩ hlt
        refine c_sr ?_
        refine pl_val (.bool (decide (k3458 < (r3435.length : Int)))) (y_lss rfl rfl) ?_
        refine c_nil ?_
        refine c_seq ?_
        refine c_condF (congrArg Value.bool (decide_eq_false hlt)) ?_
        refine wp_exit ?_
        have hO := hO.fr6
        have hO := hO.fr6
        have hO := hO.fr6
        have hO := hO.fr6
        have hO := hO.fr6
        have hO := hO.fr6
        have hO := hO.fr6
        exact ⟨rfl, _, k5, fr_ovl 106 ⟨rfl, rfl, rfl, rfl, rfl, rfl, rfl, rfl, rfl, rfl, rfl, rfl, rfl, trivial⟩, hC, hO, h0, a1, a2, a3, k6, a6, a7, a8, b2⟩
       ·rintro k3458 s3456 o3460 a a5 ⟨σ, k5, rfl, hC, hO, h0, a1, a2, a3, k6, a6, a7, a8, b2⟩ hlt hw hs
        refine c_sr ?_
        refine pl_val (.bool (decide (k3458 < (r3435.length : Int)))) (y_lss rfl rfl) ?_
        refine c_nil ?_
        refine c_seq ?_
        refine c_condT (congrArg Value.bool (decide_eq_true hlt)) ?_
        refine wp_skip ?_
        refine c_seq ?_
        refine wp_block ?_
        refine c_sr ?_
        refine pl_val (.int .i64 k3458) (y_move rfl) ?_
        obtain ⟨x3464, A5, hs⟩ := bind_some hs
        obtain ⟨A6, F9, G0, G1, A7, A8, G2⟩ := os_idx Sl37 Sz3 b2 A5
        refine pl_val (.pointer (some ⟨A6, 0 + Int.toNat k3458 * 1, none⟩)) (A7 _ _ _ _ _ _ _ _ _ rfl rfl) ?_
        refine pl_val (.int .i64 x3464) (y_load rfl ((at_load_int Ag3 Sz3 A8) _ (Chg.refl _ _))) ?_
        refine pl_val (.int .i64 k3458) (y_assign rfl) ?_
        refine pl_val (.int .i64 x3464) (y_assign rfl) ?_
        refine c_nil ?_
        refine c_region ?_
        refine pl_val (.slice d2 d3 d4) (y_move rfl) ?_
        refine pl_val (.int .i64 k3458) (y_move rfl) ?_
        refine pl_val (.pointer (some ⟨a0, 0, none⟩)) (y_move rfl) ?_
        refine pl_val (.pointer (some ⟨a0, 0, none⟩)) (y_nilc rfl) ?_
        refine pl_val (.pointer (some ⟨a0, 0, none⟩)) (y_faddr rfl Fa97x0) ?_
        refine pl_val (.slice d5 d6 d7) (y_load rfl ((box_load Ag47 Sz47 a1 [] [(.slice d5 d6 d7)] [(.slice e0 e1 e2), (.map (some e3))] rfl rfl (fun _ => rfl)) _ (Chg.refl _ _))) ?_
        refine pl_val (.int .i64 x3464) (y_move rfl) ?_
        obtain ⟨x3466, A9, hs⟩ := bind_some hs
        obtain ⟨B0, G3, G4, G5, B1, B2, G6⟩ := os_idx Sl47 Sz37 a6 A9
        have B3 := rd_row Rd.rs B2
        refine pl_val (.pointer (some ⟨B0, 0 + Int.toNat x3464 * 1, none⟩)) (B1 _ _ _ _ _ _ _ _ _ rfl rfl) ?_
        obtain ⟨G7, B4, p2⟩ := at_load Ag37 Sz37 (fun _ => rfl) B3
        obtain ⟨u4, u5, u6, rfl⟩ := rs_sl p2
        refine pl_val (.slice u4 u5 u6) (y_load rfl (B4 _ (Chg.refl _ _))) ?_
        obtain ⟨x3470, B5, hs⟩ := bind_some hs
        obtain ⟨u7, G8, u9, B6, B7, B8, G9⟩ := os_idx Sl47 Sz37 k6 B5
        have H0 := rd_row Rd.rs B8
        refine pl_val (.pointer (some ⟨u7, 0 + Int.toNat k3458 * 1, none⟩)) (B7 _ _ _ _ _ _ _ _ _ rfl rfl) ?_
        have hO := hO.fr4
        obtain ⟨B9, C0, C1, d8, C2, r6⟩ := os_store (P := Try.prog) (c' := [(.slice u4 u5 u6)]) u9 k6 B6 (fun g hg => hO.inM g (os_block k6 g (by simpa using hg))) (rs_unval p2) List.nodup_nil (fun _ h => nomatch h) (fun _ h => .inl h)
        have e7 : ∀ q ∈ [u7], q ∈ k5 := fun q hq => os_block k6 q (by rw [u9]; exact hq)
        refine pl_skip (w' := B9) (ys_store rfl rfl (C1 _ _ rfl Sz37)) ?_
        have h0 := h0.mt d8 hO e7
        have a1 := a1.ap d8 hO e7 (mem_r (mem_r (mem_r (mem_r (mem_r (mem_l (List.mem_singleton.2 rfl)))))))
        have a2 := a2.mt d8 hO e7
        have a3 := a3.ap d8 hO e7 (mem_r (mem_r (mem_r (mem_r (mem_l (List.mem_singleton.2 rfl))))))
        have a6 := a6.ma d8 hO e7 (fun _ e => (mem_r (mem_l (e))))
        have a7 := a7.ma d8 hO e7 (fun _ e => (mem_r (mem_r (mem_l (e)))))
        have a8 := a8.ma d8 hO e7 (fun _ e => (mem_r (mem_r (mem_r (mem_l (e))))))
        have b2 := b2.ma d8 hO e7 (fun _ e => (mem_l (e)))
        have p2 := p2.mt d8 hO e7
        have hC := hC.st d8 hO e7
        have hO := hO.grow d8 (fun q hq => .inl ((C2 q hq).resolve_right (fun h => nomatch h))) (os_nodup r6) r6.fpl
        refine c_nil ?_
        refine c_region ?_
        refine pl_val (.int .i64 (w64 (k3458 + 1))) (y_add rfl rfl) ?_
        refine pl_val (.int .i64 (w64 (k3458 + 1))) (y_move rfl) ?_
        refine c_nil ?_
        cases hs
        have hO := hO.fr6
        have hO := hO.fr6
        have hO := hO.fr2
        have hO := hO.fr6
        have hO := hO.fr6
        have hO := hO.fr6
        have hO := hO.fr6
        exact ⟨_, C0, fr_ovl 106 ⟨rfl, rfl, rfl, rfl, rfl, rfl, rfl, rfl, rfl, rfl, rfl, rfl, rfl, rfl, rfl, congrArg (Value.int .i64) hw, trivial⟩, hC, hO, h0, a1, a2, a3, r6, a6, a7, a8, b2⟩
       ·skip
        have hO := hO.fr6
        have hO := hO.fr6
        have hO := hO.fr6
        have hO := hO.fr6
        have hO := hO.fr6
        have hO := hO.fr6
        have hO := hO.fr6
        exact ⟨_, k2, fr_ovl 106 ⟨rfl, rfl, rfl, rfl, rfl, rfl, rfl, rfl, rfl, rfl, rfl, rfl, rfl, rfl, rfl, rfl, trivial⟩, hC, hO, h0, a1, a2, a3, k3, a6, a7, a8, b2⟩
       cases o3460 with
       | nx _ => exact True.intro
       | rt r_ =>
        have hs := after_rt hs
        intro e8 k7 hK
        cases hs
        exact hK
       | br s3456 =>
        have hs := after_br hs
        rintro e8 a5 ⟨σ, f5, rfl, hC, hO, h0, a1, a2, a3, b8, a6, a7, a8, b2⟩
        refine c_seq ?_
        refine x_start [10] Mx rfl ?_
        have c5 := Chg.drew a5
        generalize World.drew a5 = C3 at c5 ⊢
        have h0 := h0.ext c5
        have a1 := a1.cn c5
        have a2 := a2.ext c5
        have a3 := a3.cn c5
        have b8 := b8.ext c5
        have a6 := a6.ext c5
        have a7 := a7.ext c5
        have a8 := a8.ext c5
        have b2 := b2.ext c5
        have hC := hC.ext c5
        have hO := hO.ext c5
        have hS := Chg.refl [] C3
        refine x_p 0 (.pointer (some ⟨a0, 0, none⟩)) rfl (by kernel_rfl)  (fun _ => y_move rfl) (fun _ => hS) ?_
        refine x_p 1 (.int .i64 n) rfl (by kernel_rfl)  (fun _ => y_move rfl) (fun _ => hS) ?_
        refine x_l 2 (.agg #[(.int .i64 x3136.1), (.slice b5 b6 b7)]) rfl (by kernel_rfl)  (fun w' hw' => y_load rfl ((box_load Ag64 Sz64 a3 [] [(.int .i64 x3136.1), (.slice b5 b6 b7)] [] rfl rfl (fun h => nomatch h)) w' hw')) hS ?_
        refine x_p 3 (.slice d2 d3 d4) rfl (by kernel_rfl)  (fun _ => y_move rfl) (fun _ => hS) ?_
        refine x_p 4 (.int .i64 n) rfl (by kernel_rfl)  (fun _ => y_move rfl) (fun _ => hS) ?_
        refine x_p 5 (.int .i64 k) rfl (by kernel_rfl)  (fun _ => y_move rfl) (fun _ => hS) ?_
        refine x_p 8 (.int .i64 k3118) rfl (by kernel_rfl)  (fun _ => y_move rfl) (fun _ => hS) ?_
        refine x_p 9 (.slice g5 g6 g7) rfl (by kernel_rfl)  (fun _ => y_move rfl) (fun _ => hS) ?_
        refine x_one (i := 6) (by kernel_rfl) ?_
        obtain ⟨r3489, C4, hs⟩ := bind_some hs
        refine xk_call (b := false) rfl  Bd112 rfl (c_impl_power (M := a4) n k  hO.fut C4) rfl (by rintro _ _ _ ⟨rfl, b9⟩; exact hS.ext b9) ?_
        rintro _ H1 ⟨rfl, b9⟩
        have h0 := h0.ext b9
        have a1 := a1.cn b9
        have a2 := a2.ext b9
        have a3 := a3.cn b9
        have b8 := b8.ext b9
        have a6 := a6.ext b9
        have a7 := a7.ext b9
        have a8 := a8.ext b9
        have b2 := b2.ext b9
        have hC := hC.ext b9
        have hO := hO.ext b9
        have hS := hS.ext b9
        refine x_one (i := 7) (by kernel_rfl) ?_
        have hO := hO.fr4
        obtain ⟨r3491, C5, hs⟩ := bind_some hs
        refine xk_call (b := false) rfl  Bd118 rfl (c_impl_composeTables (M := (Less a4 f5)) n (x3136.1, x3136.2) s3456 r3489 (a2.sub Less.sub) (((Frz.os (Frz.rs Frz.int))).val b8 Less.sub Less.not) hO.less.fut C5) rfl (by rintro _ _ _ ⟨C6, C7, C8, v0, rfl, c0, p3, v1⟩; exact hS.ext c0) ?_
        rintro _ H2 ⟨C6, C7, C8, v0, rfl, c0, p3, v1⟩
        have h0 := h0.ext c0
        have a1 := a1.cn c0
        have a2 := a2.ext c0
        have a3 := a3.cn c0
        have b8 := b8.ext c0
        have a6 := a6.ext c0
        have a7 := a7.ext c0
        have a8 := a8.ext c0
        have b2 := b2.ext c0
        have hC := hC.ext c0
        have hO := Own.join0 hO c0 v1
        have hO := hO.perm (R := v0 ++ (f5 ++ (k4 ++ (c2 ++ (c3 ++ (c4 ++ (([b0]) ++ (([a0]) ++ ([]))))))))) (by simp)
        have p3 := p3.free (M' := a4) (Free.os Free.int)
        have hS := hS.ext c0
        refine x_one (i := 10) (by kernel_rfl) ?_
        obtain ⟨h6, H3, h7, C9, hO, l8⟩ := frzF_own (Frz.os Frz.int) p3 hO
        have h0 := h0.sub (M' := h6) h7
        have a2 := a2.sub (M' := h6) h7
        have b8 := b8.sub (M' := h6) h7
        have a6 := a6.sub (M' := h6) h7
        have a7 := a7.sub (M' := h6) h7
        have a8 := a8.sub (M' := h6) h7
        have b2 := b2.sub (M' := h6) h7
        have hK := hK.trans C9
        have hO := hO.fr1
        obtain ⟨f6, H4, h8, D0, hO, r7⟩ := frzF_own (Frz.os Frz.int) b2 hO
        have h0 := h0.sub (M' := f6) h8
        have a2 := a2.sub (M' := f6) h8
        have b8 := b8.sub (M' := f6) h8
        have a6 := a6.sub (M' := f6) h8
        have a7 := a7.sub (M' := f6) h8
        have a8 := a8.sub (M' := f6) h8
        have l8 := l8.sub (M' := f6) h8
        have hK := hK.trans D0
        have hO := hO.fr3
        have hO := hO.fr3
        have hO := hO.fr3
        have hO := hO.fr5
        have D1 := hO
        have v2 := Own.lend (F := (([a0]) ++ (c2 ++ (c3 ++ (c4 ++ ([])))))) (R := f5 ++ (([b0]) ++ ([]))) (Own.perm (D1) (by simp))
        obtain ⟨r3497, D2, hs⟩ := bind_some hs
        refine xk_call (b := true) rfl  Bd117 rfl (c_impl_found__add (M := f6) r3491 k3118 r3435 (s3409.2.1, s3409.2.2.1, s3409.2.2.2.1) l8 r7 (show BoxV _ a0 97 [(.slice d5 d6 d7), (.slice e0 e1 e2), (.map (some e3))] from a1) a6 a7 a8 v2 v2.fut D2) rfl (fun h => nomatch h) ?_
        rintro _ D3 ⟨p4, p5, p6, v3, r8, r9, s0, v4, s1, v5, rfl, g8, p7, v6, D4, D5, D6⟩
        have hO := hO.fr3
        have hO := hO.fr3
        have hO := hO.fr3
        have hO := hO.fr3
        have hO := hO.perm (R := (([a0]) ++ (c2 ++ (c3 ++ (c4 ++ ([]))))) ++ (f5 ++ (([b0]) ++ ([])))) (by simp)
        have h0 := h0.mt g8 hO same_
        have a2 := a2.mt g8 hO same_
        have a3 := a3.ap g8 hO same_ (mem_r (mem_l (List.mem_singleton.2 rfl)))
        have b8 := b8.ma g8 hO same_ (fun _ e => (mem_l (e)))
        have r7 := r7.mt g8 hO same_
        have l8 := l8.mt g8 hO same_
        have hC := hC.st g8 hO same_
        have hO := Own.join hO g8 D6
        have hO := hO.perm (R := [a0] ++ (v3 ++ (v4 ++ (v5 ++ (f5 ++ (([b0]) ++ ([]))))))) (by simp)
        have p7 : BoxV D3 a0 97 [(.slice p4 p5 p6), (.slice r8 r9 s0), (.map (some s1))] := p7
        refine x_end (by kernel_rfl) ?_
        clear hS
        refine c_sr ?_
        refine pl_val (.pointer (some ⟨a0, 0, none⟩)) (y_move rfl) ?_
        refine pl_val (.pointer (some ⟨a0, 0, none⟩)) (y_nilc rfl) ?_
        refine pl_val (.pointer (some ⟨a0, 0, none⟩)) (y_faddr rfl Fa97x0) ?_
        refine pl_val (.slice p4 p5 p6) (y_load rfl ((box_load Ag47 Sz47 p7 [] [(.slice p4 p5 p6)] [(.slice r8 r9 s0), (.map (some s1))] rfl rfl (fun _ => rfl)) _ (Chg.refl _ _))) ?_
        refine pl_val (.int .i64 (r3497.1.length : Int)) (y_len' Sl47 (os_len v6) rfl) ?_
        refine pl_val (.bool (decide (60 < (r3497.1.length : Int)))) (y_gtr rfl rfl) ?_
        refine c_nil ?_
        rcases bif_some hs with ⟨s2, hs⟩ | ⟨s2, hs⟩
        ·refine c_condT (congrArg Value.bool s2) ?_
         refine c_sr ?_
         refine pl_val (.pointer none) (y_assign rfl) ?_
         refine pl_val (.bool false) (y_assign rfl) ?_
         refine c_nil ?_
         refine wp_ret ?_
         cases hs
         have hO := hO.drop
         have hO := hO.drop
         have hO := hO.drop
         have hO := hO.drop
         have hO := hO.drop
         have hO := hO.drop
         have hO := hO.nil
         exact ⟨_, (.pointer none), [], fr_ovl 106 ⟨rfl, rfl, trivial⟩, hC, op_none, hO.top⟩
        refine c_condF (congrArg Value.bool s2) ?_
        refine wp_skip ?_
        refine c_region ?_
        refine pl_val (.int .i64 s3409.1) (y_move rfl) ?_
        refine pl_val (.int .i64 (w64 (s3409.1 + 1))) (y_add rfl rfl) ?_
        refine pl_val (.int .i64 (w64 (s3409.1 + 1))) (y_assign rfl) ?_
        refine c_nil ?_
        cases hs
        have hO := hO.fr5
        have hO := hO.fr5
        have hO := hO.fr5
        have hO := hO.fr5
        have hO := hO.fr5
        exact ⟨_, f6, p4, p5, p6, v3, r8, r9, s0, v4, s1, v5, f5, fr_ovl 106 ⟨rfl, rfl, rfl, rfl, rfl, rfl, rfl, rfl, rfl, rfl, rfl, rfl, trivial⟩, hC, hO, hK, h0, p7, a2, a3, b8, v6, D4, D5⟩
      refine c_condF (congrArg Value.bool r5) ?_
      refine wp_exit ?_
      cases hs
      have hO := hO.fr5
      have hO := hO.fr5
      have hO := hO.fr5
      have hO := hO.fr5
      have hO := hO.fr5
      have hO := hO.fr5
      exact ⟨rfl, _, a4, d5, d6, d7, c2, e0, e1, e2, c3, e3, c4, k2, fr_ovl 106 ⟨rfl, rfl, rfl, rfl, rfl, rfl, rfl, rfl, trivial⟩, hC, hO, hK, h0, a1, a2, a3, k3, a6, a7, a8⟩
     ·skip
      have hO := hO.fr5
      have hO := hO.fr2
      have hO := hO.fr2
      have hO := hO.fr5
      have hO := hO.fr5
      have hO := hO.fr5
      exact ⟨_, k1, j1, j2, j3, j4, j5, j6, j7, j8, j9, k0, z7, fr_ovl 106 ⟨rfl, rfl, rfl, rfl, rfl, rfl, rfl, rfl, rfl, rfl, rfl, rfl, trivial⟩, hC, hO, hK, h0, a1, a2, a3, z9, c9, d0, d1⟩
     cases o3413 with
     | nx _ => exact True.intro
     | rt r_ =>
      have hs := after_rt hs
      intro e8 k7 hK
      cases hs
      exact hK
     | br s3409 =>
      have hs := after_br hs
      rintro e8 a9 ⟨σ, e4, o2, o3, o4, o5, o6, o7, o8, o9, p0, p1, r4, rfl, hC, hO, hK, h0, a1, a2, a3, H5, D7, D8, D9⟩
      refine c_region ?_
      refine pl_val (.int .i64 (w64 (k3118 + 1))) (y_add rfl rfl) ?_
      refine pl_val (.int .i64 (w64 (k3118 + 1))) (y_move rfl) ?_
      refine c_nil ?_
      cases hs
      have hO := hO.fr3
      have hO := hO.drop
      have hO := hO.fr3
      have hO := hO.drop
      have hO := hO.fr3
      have hO := hO.fr3
      have hO := hO.fr3
      have hO := hO.fr3
      exact ⟨_, e4, o2, o3, o4, o5, o6, o7, o8, o9, p0, p1, fr_ovl 106 ⟨rfl, rfl, rfl, rfl, rfl, rfl, rfl, congrArg (Value.int .i64) hw, trivial⟩, hC, hO, hK, h0, a1, D7, D8, D9⟩
    ·skip
     have hO := hO.fr3
     have hO := hO.fr3
     have hO := hO.fr3
     have hO := hO.fr3
     exact ⟨_, e9, f0, f1, f2, l4, h2, h3, h4, l5, h5, l6, fr_ovl 106 ⟨rfl, rfl, rfl, rfl, rfl, rfl, rfl, rfl, trivial⟩, hC, hO, hK, h0, a1, n1, u0, u1⟩
    cases o3120 with
    | nx _ => exact True.intro
    | rt r_ =>
     have hs := after_rt hs
     intro e8 k7 hK
     cases hs
     exact hK
    | br s3116 =>
     have hs := after_br hs
     rintro e8 b1 ⟨σ, g3, n2, n3, n4, n5, n6, n7, n8, n9, o0, o1, rfl, hC, hO, hK, h0, a1, E0, E1, E2⟩
     cases hs
     have hO := hO.fr3
     have hO := hO.fr3
     have hO := hO.fr3
     have hO := hO.fr3
     exact ⟨_, g3, n2, n3, n4, n5, n6, n7, n8, n9, o0, o1, fr_ovl 106 ⟨rfl, rfl, rfl, rfl, rfl, trivial⟩, hC, hO, hK, h0, a1, E0, E1, E2⟩
   refine c_condF (congrArg Value.bool r0) ?_
   refine wp_exit ?_
   cases hs
   have hO := hO.fr3
   have hO := hO.fr3
   have hO := hO.fr3
   have hO := hO.fr3
   exact ⟨rfl, _, e9, f0, f1, f2, l4, h2, h3, h4, l5, h5, l6, fr_ovl 106 ⟨rfl, trivial⟩, hC, hO, hK, h0, a1, n1, u0, u1⟩
  ·skip
   have hO := hO.fr3
   have hO := hO.fr3
   have hO := hO.fr3
   have hO := hO.fr3
   exact ⟨_, g0, m1, m2, m3, m4, m5, m6, m7, m8, m9, n0, fr_ovl 106 ⟨rfl, rfl, rfl, rfl, rfl, trivial⟩, hC, hO, hK, h0, a1, x6, x7, x8⟩
  cases o2360 with
  | nx _ => exact True.intro
  | rt r_ =>
   have hs := after_rt hs
   intro e8 k7 hK
   cases hs
   exact hK
  | br s2356 =>
   have hs := after_br hs
   rintro e8 b4 ⟨σ, g2, q3, q4, q5, i7, q6, q7, q8, i9, q9, j0, rfl, hC, hO, hK, h0, a1, E3, E4, E5⟩
   refine c_sr ?_
   refine pl_val (.pointer (some ⟨a0, 0, none⟩)) (y_move rfl) ?_
   refine pl_val (.pointer (some ⟨a0, 0, none⟩)) (y_assign rfl) ?_
   refine pl_val (.bool true) (y_assign rfl) ?_
   refine c_nil ?_
   refine wp_ret ?_
   have hO := hO.fr2
   have hO := hO.fr2
   have hO := hO.fr2
   have hO := hO.fr3
   have hO := hO.perm (R := (a0 :: (i7 ++ (i9 ++ j0))) ++ ([])) (by simp)
   have E6 : (RT.po 97 (RT.pr (RT.os 37 (RT.rs (RT.int .i64))) (RT.pr (RT.os 119 (RT.pr (RT.int .i64) (RT.os 3 (RT.int .i64)))) (RT.mo Value.bool)))).val g2 b4 (.pointer (some ⟨a0, 0, none⟩)) (s2356.2.1, s2356.2.2.1, s2356.2.2.2) (a0 :: (i7 ++ (i9 ++ j0))) := po_shut a1 ⟨_, _, _, _, rfl, rfl, (os_unval E3), ⟨_, _, _, _, rfl, rfl, (os_unval E4), (mo_unval E5)⟩⟩ hO.nd
   cases hs
   exact ⟨_, (.pointer (some ⟨a0, 0, none⟩)), (a0 :: (i7 ++ (i9 ++ j0))), fr_ovl 106 ⟨rfl, rfl, trivial⟩, hC, (KeepsF.out hK hO.allM (op_some E6)), hO.top⟩

theorem Bd81 : Bodied Try.prog 81 := bodied Try.func81 (by kernel_rfl) rfl

theorem Bd110 : Bodied Try.prog 110 := bodied Try.func110 (by kernel_rfl) rfl

theorem Bd111 : Bodied Try.prog 111 := bodied Try.func111 (by kernel_rfl) rfl

def k_impl_termFunctions (M : Nat → Prop) (w0 : World) (r : (Option ((List (List Int)) × (List (Int × (List Int))) × (List (ByteArray × Bool)))) × Bool) (a : Act) (w : World) : Prop :=
  ∃ (σ : Nat → Value) (rn0 : Value) (rf0 : List Nat), a = fr 24 (ovl σ [(4, rn0), (5, (.bool r.2))]) ∧ Chg [] w0 w ∧ (RT.op 97 (RT.pr (RT.os 37 (RT.rs (RT.int .i64))) (RT.pr (RT.os 119 (RT.pr (RT.int .i64) (RT.os 3 (RT.int .i64)))) (RT.mo Value.bool)))).val (PastL M [] w0 w (rf0 ++ ([]))) w rn0 r.1 rf0 ∧ Own (Nw w0 []) (fun _ => True) w (rf0 ++ ([]))
def s_impl_termFunctions (a_ : Int × (List (Int × (List Int)))) (k : Int) : Option ((Option ((List (List Int)) × (List (Int × (List Int))) × (List (ByteArray × Bool)))) × Bool) :=
  ((s_impl_IsAlgebra (a_.1, a_.2)).bind fun r7 =>
  (bif (!r7) then some true else (s_impl_isCloneRange a_.1 k).bind fun r10 =>
  some (!r10))).bind fun s3 =>
  (bif s3 then some (none, false) else (s_impl_cloneOf a_.1 a_.2 k).bind fun r13 =>
  some (r13.1, r13.2))
set_option maxHeartbeats 4000000 in
theorem c_impl_termFunctions {M : Nat → Prop} {w : World} {pa0 : Option Addr} {pn0 pc0 : Nat} (a_ : Int × (List (Int × (List Int)))) (k : Int) (h0 : (RT.rs (RT.pr (RT.int .i64) (RT.rs (RT.int .i64)))).val M w (.slice pa0 pn0 pc0) a_.2 ([])) (hM : ∀ g, w.heap.size ≤ g → M g) {r : (Option ((List (List Int)) × (List (Int × (List Int))) × (List (ByteArray × Bool)))) × Bool} (hs : s_impl_termFunctions a_ k = some r) :
    Gives Try.prog 82 [(.agg #[(.int .i64 a_.1), (.slice pa0 pn0 pc0)]), (.int .i64 k)] w (fun v w' => ∃ (rn0 : Value) (rf0 : List Nat), v = (.tuple #[rn0, (.bool r.2)]) ∧ Chg [] w w' ∧ (RT.op 97 (RT.pr (RT.os 37 (RT.rs (RT.int .i64))) (RT.pr (RT.os 119 (RT.pr (RT.int .i64) (RT.os 3 (RT.int .i64)))) (RT.mo Value.bool)))).val (PastL M [] w w' (rf0 ++ ([]))) w' rn0 r.1 rf0 ∧ Own (Nw w []) (fun _ => True) w' (rf0 ++ ([]))) := by
 refine calls_fr Try.func82 rfl Try.ntmps82 (Nat.le_of_ble_eq_true rfl) ?_
 have hO := Own.start (N := Nw w []) hM Nw.fut
 have hC := Chg.refl [] w
 unfold s_impl_termFunctions at hs
 refine wp_mono (Q := KPost (k_impl_termFunctions M w r)) ?_ (fun e a c3 h => ?_)
 rotate_left
 ·cases e
  case ret =>
   obtain ⟨σ, rn0, rf0, rfl, hrest⟩ := h
   exact ret2x Try.results82 (res_tmp rfl) (res_tmp rfl) ⟨rn0, rf0, rfl, hrest⟩
  all_goals exact (h : False).elim
 refine c_sr ?_
 obtain ⟨a9, a2, b5, b3, b0, a0⟩ := new_block w [(.int .i64 a_.1), (.slice pa0 pn0 pc0)] 30
 refine pl_val (w' := a9) (.pointer (some ⟨a2, 0, none⟩)) (y_box rfl (by rw [b5, b3]; kernel_rfl)) ?_
 have h0 := h0.ext b0
 have hC := hC.ext b0
 have hO := hO.new1 b0 b3 a0.lt
 refine pl_val (.pointer none) (y_assign rfl) ?_
 refine pl_val (.bool false) (y_assign rfl) ?_
 refine c_nil ?_
 refine c_seq ?_
 refine c_seq ?_
 obtain ⟨s3, b6, hs⟩ := bind_some hs
 refine c_mid (I := fun a a5 => ∃ (σ : Nat → Value), a = fr 24 (ovl σ [(1, (.int .i64 k)), (2, (.pointer (some ⟨a2, 0, none⟩))), (4, (.pointer none)), (5, (.bool false)), (15, (.bool s3))]) ∧ Chg [] a9 a5) ?_ ?_
 ·replace hs := b6
  have hMid := Chg.refl [] a9
  refine c_region ?_
  refine pl_val (.agg #[(.int .i64 a_.1), (.slice pa0 pn0 pc0)]) (y_load rfl ((box_load Ag30 Sz30 a0 [] [(.int .i64 a_.1), (.slice pa0 pn0 pc0)] [] rfl rfl (fun h => nomatch h)) _ (Chg.refl _ _))) ?_
  obtain ⟨r7, b7, hs⟩ := bind_some hs
  refine pl_call Bd81 rfl (c_impl_IsAlgebra (M := M) (a_.1, a_.2) h0 hO.fut b7) ?_
  rintro _ c4 ⟨rfl, a3⟩
  have h0 := h0.ext a3
  have a0 := a0.cn a3
  have hMid := hMid.ext a3
  have hC := hC.ext a3
  have hO := hO.ext a3
  refine pl_val (.bool (!r7)) (y_not rfl) ?_
  refine pl_val (.bool (!r7)) (y_move rfl) ?_
  rcases bif_some hs with ⟨a1, hs⟩ | ⟨a1, hs⟩
  ·skip
   refine pl_not (tg := 9) (by kernel_rfl) (congrArg Value.bool a1) ?_
   refine pl_not (tg := 9) (by kernel_rfl) (congrArg Value.bool a1) ?_
   refine pl_not (tg := 9) (by kernel_rfl) (congrArg Value.bool a1) ?_
   refine pl_not (tg := 9) (by kernel_rfl) (congrArg Value.bool a1) ?_
   refine pl_not (tg := 9) (by kernel_rfl) (congrArg Value.bool a1) ?_
   refine pl_val (.bool true) (y_pick_t (congrArg Value.bool a1) rfl) ?_
   refine c_nil ?_
   cases hs
   exact ⟨_, fr_ovl 24 ⟨rfl, rfl, rfl, rfl, rfl, trivial⟩, hMid⟩
  refine pl_yes (.pointer (some ⟨a2, 0, none⟩)) (tg := 9) (by kernel_rfl) (congrArg Value.bool a1) (y_faddr rfl Fa30x0) ?_
  refine pl_yes (.int .i64 a_.1) (tg := 9) (by kernel_rfl) (congrArg Value.bool a1) (y_load rfl ((box_load Ag3 Sz3 a0 [] [(.int .i64 a_.1)] [(.slice pa0 pn0 pc0)] rfl rfl (fun _ => rfl)) _ (Chg.refl _ _))) ?_
  refine pl_yes (.int .i64 k) (tg := 9) (by kernel_rfl) (congrArg Value.bool a1) (y_move rfl) ?_
  obtain ⟨r10, b8, hs⟩ := bind_some hs
  refine pl_cally (tg := 9) (by kernel_rfl) (congrArg Value.bool a1) Bd110 rfl (c_impl_isCloneRange (M := M) a_.1 k  hO.fut b8) ?_
  rintro _ c5 ⟨rfl, a4⟩
  have h0 := h0.ext a4
  have a0 := a0.cn a4
  have hMid := hMid.ext a4
  have hC := hC.ext a4
  have hO := hO.ext a4
  refine pl_yes (.bool (!r10)) (tg := 9) (by kernel_rfl) (congrArg Value.bool a1) (y_not rfl) ?_
  refine pl_val (.bool (!r10)) (y_pick_f (congrArg Value.bool a1) rfl) ?_
  refine c_nil ?_
  cases hs
  exact ⟨_, fr_ovl 24 ⟨rfl, rfl, rfl, rfl, rfl, trivial⟩, hMid⟩
 rintro c6 a5 ⟨σ, rfl, a6⟩
 have h0 := h0.ext a6
 have a0 := a0.cn a6
 have hC := hC.ext a6
 have hO := hO.ext a6
 rcases bif_some hs with ⟨b1, hs⟩ | ⟨b1, hs⟩
 ·refine c_condT (congrArg Value.bool b1) ?_
  refine c_sr ?_
  refine pl_val (.pointer none) (y_assign rfl) ?_
  refine pl_val (.bool false) (y_assign rfl) ?_
  refine c_nil ?_
  refine wp_ret ?_
  cases hs
  have hO := hO.drop
  have hO := hO.nil
  exact ⟨_, (.pointer none), [], fr_ovl 24 ⟨rfl, rfl, trivial⟩, hC, op_none, hO.top⟩
 refine c_condF (congrArg Value.bool b1) ?_
 refine wp_skip ?_
 refine c_sr ?_
 refine pl_val (.pointer (some ⟨a2, 0, none⟩)) (y_faddr rfl Fa30x0) ?_
 refine pl_val (.int .i64 a_.1) (y_load rfl ((box_load Ag3 Sz3 a0 [] [(.int .i64 a_.1)] [(.slice pa0 pn0 pc0)] rfl rfl (fun _ => rfl)) _ (Chg.refl _ _))) ?_
 refine pl_val (.pointer (some ⟨a2, 1, none⟩)) (y_faddr rfl Fa30x1) ?_
 refine pl_val (.slice pa0 pn0 pc0) (y_load rfl ((box_load Ag26 Sz26 a0 [(.int .i64 a_.1)] [(.slice pa0 pn0 pc0)] [] rfl rfl (fun _ => rfl)) _ (Chg.refl _ _))) ?_
 refine pl_val (.int .i64 k) (y_move rfl) ?_
 obtain ⟨r13, b9, hs⟩ := bind_some hs
 refine pl_call Bd111 rfl (c_impl_cloneOf (M := M) a_.1 a_.2 k h0 hO.fut b9) ?_
 rintro _ b4 ⟨b2, a7, rfl, a8, c0, c1⟩
 have hO := hO.perm (R := [] ++ (([a2]) ++ ([]))) (by simp)
 have c2 := Own.pastL hO a8 c1
 have hK := (show KeepsF w [] M (PastL M [] a5 b4 (a7 ++ ([]))) from KeepsF.pastL hC.size (fun g hg => (hO.inN g hg)))
 have h0 := h0.ext a8
 have a0 := a0.cn a8
 have hC := hC.ext a8
 have hO := c2
 have h0 := h0.sub (M' := (PastL M [] a5 b4 (a7 ++ ([])))) (fun g hg => .inl hg.1)
 have hO := hO.perm (R := a7 ++ (([a2]) ++ ([]))) (by simp)
 refine pl_val b2 (y_extract rfl (by kernel_rfl)) ?_
 refine pl_val (.bool r13.2) (y_extract rfl (by kernel_rfl)) ?_
 refine pl_val b2 (y_assign rfl) ?_
 refine pl_val (.bool r13.2) (y_assign rfl) ?_
 refine c_nil ?_
 refine wp_ret ?_
 cases hs
 have hO := hO.fr1
 have hO := hO.drop
 exact ⟨_, b2, a7, fr_ovl 24 ⟨rfl, rfl, trivial⟩, hC, (KeepsF.out hK hO.allM c0), hO.top⟩

def k_impl_compose (M : Nat → Prop) (w0 : World) (r : (List Int)) (a : Act) (w : World) : Prop :=
  ∃ (σ : Nat → Value) (ra0 : Option Addr) (rn0 rc0 : Nat) (rf0 : List Nat), a = fr 27 (ovl σ [(4, (.slice ra0 rn0 rc0))]) ∧ Chg [] w0 w ∧ (RT.os 3 (RT.int .i64)).val M w (.slice ra0 rn0 rc0) r rf0 ∧ Own (Nw w0 []) (fun _ => True) w (rf0 ++ ([]))
def s_impl_compose (f : List Int) (g : List Int) : Option ((List Int)) :=
  (mks (f.length : Int) (0 : Int)).bind fun y4 =>
  (forC (S := (List Int)) (R := (List Int)) (fun k23 s21 =>
  (idx f k23).bind fun x29 =>
  (idx g x29).bind fun x31 =>
  (idx s21 k23).bind fun x33 =>
  some (.nx (List.set s21 (Int.toNat k23) x31))) 0 (f.length : Int) y4).bind fun o25 => after o25 (fun r_ => some r_) (fun s21 =>
  some s21)
set_option maxHeartbeats 4000000 in
theorem c_impl_compose {M : Nat → Prop} {w : World} {pa0 : Option Addr} {pn0 pc0 : Nat} {pa1 : Option Addr} {pn1 pc1 : Nat} (f : List Int) (g : List Int) (h0 : (RT.rs (RT.int .i64)).val M w (.slice pa0 pn0 pc0) f ([])) (h1 : (RT.rs (RT.int .i64)).val M w (.slice pa1 pn1 pc1) g ([])) (hM : ∀ g, w.heap.size ≤ g → M g) {r : (List Int)} (hs : s_impl_compose f g = some r) :
    Gives Try.prog 87 [(.slice pa0 pn0 pc0), (.slice pa1 pn1 pc1)] w (fun v w' => ∃ (ra0 : Option Addr) (rn0 rc0 : Nat) (rf0 : List Nat), v = (.slice ra0 rn0 rc0) ∧ Chg [] w w' ∧ (RT.os 3 (RT.int .i64)).val M w' (.slice ra0 rn0 rc0) r rf0 ∧ Own (Nw w []) (fun _ => True) w' (rf0 ++ ([]))) := by
 refine calls_fr Try.func87 rfl Try.ntmps87 (Nat.le_of_ble_eq_true rfl) ?_
 have hO := Own.start (N := Nw w []) hM Nw.fut
 have hC := Chg.refl [] w
 unfold s_impl_compose at hs
 refine wp_mono (Q := KPost (k_impl_compose M w r)) ?_ (fun e a b4 h => ?_)
 rotate_left
 ·cases e
  case ret =>
   obtain ⟨σ, ra0, rn0, rc0, rf0, rfl, hrest⟩ := h
   exact ret1x Try.results87 (res_tmp rfl) ⟨ra0, rn0, rc0, rf0, rfl, hrest⟩
  all_goals exact (h : False).elim
 refine c_sr ?_
 refine pl_val (.slice none 0 0) (y_assign rfl) ?_
 refine c_nil ?_
 refine c_sr ?_
 refine pl_val (.slice pa0 pn0 pc0) (y_move rfl) ?_
 refine pl_val (.int .i64 (f.length : Int)) (y_len' Sl37 (rs_len h0) rfl) ?_
 obtain ⟨y4, b5, hs⟩ := bind_some hs
 obtain ⟨a1, a2, a3, b6, b7, b8, a6, b9, a9⟩ := mk_os (M := M) (w := w) (r := (RT.int .i64)) Rw37 b5 (fun _ _ => ⟨rfl, rfl⟩)
 refine pl_val (w' := b6) (.slice a1 a2 a3) (y_make rfl rfl b8) ?_
 have h0 := h0.ext a6
 have h1 := h1.ext a6
 have hC := hC.ext a6
 have hO := hO.new a6 b9 (os_nodup a9) a9.fpl
 refine pl_val (.slice a1 a2 a3) (y_assign rfl) ?_
 refine c_nil ?_
 refine c_seq ?_
 refine c_sr ?_
 refine pl_val (.slice pa0 pn0 pc0) (y_move rfl) ?_
 refine pl_val (.int .i64 (f.length : Int)) (y_len' Sl37 (rs_len h0) rfl) ?_
 refine pl_val (.int .i64 0) (y_move rfl) ?_
 refine c_nil ?_
 obtain ⟨o25, c0, hs⟩ := bind_some hs
 refine wp_block ?_
 refine wp_forC (id := 0) (f.length : Int) (I := fun k23 s21 a a0 => ∃ (σ : Nat → Value) (a4 : List Nat), a = fr 27 (ovl σ [(1, (.slice pa1 pn1 pc1)), (5, (.slice a1 a2 a3)), (11, (.slice pa0 pn0 pc0)), (12, (.int .i64 (f.length : Int))), (13, (.int .i64 k23))]) ∧ Chg [] w a0 ∧ Own (Nw w []) M a0 (a4 ++ []) ∧ (RT.rs (RT.int .i64)).val M a0 (.slice pa0 pn0 pc0) f ([]) ∧ (RT.rs (RT.int .i64)).val M a0 (.slice pa1 pn1 pc1) g ([]) ∧ (RT.os 3 (RT.int .i64)).val M a0 (.slice a1 a2 a3) s21 a4) (J := fun s21 a a0 => ∃ (σ : Nat → Value) (a7 : List Nat), a = fr 27 (ovl σ [(5, (.slice a1 a2 a3))]) ∧ Chg [] w a0 ∧ Own (Nw w []) M a0 (a7 ++ []) ∧ (RT.rs (RT.int .i64)).val M a0 (.slice pa0 pn0 pc0) f ([]) ∧ (RT.rs (RT.int .i64)).val M a0 (.slice pa1 pn1 pc1) g ([]) ∧ (RT.os 3 (RT.int .i64)).val M a0 (.slice a1 a2 a3) s21 a7) (K := (k_impl_compose M w)) ?_ ?_ 0 y4 o25 _ _ ?_ c0 ?_
 ·rintro k23 s21 a a0 ⟨σ, a4, rfl, hC, hO, h0, h1, a5⟩ hlt
  refine c_sr ?_
  refine pl_val (.bool (decide (k23 < (f.length : Int)))) (y_lss rfl rfl) ?_
  refine c_nil ?_
  refine c_seq ?_
  refine c_condF (congrArg Value.bool (decide_eq_false hlt)) ?_
  refine wp_exit ?_
  exact ⟨rfl, _, a4, fr_ovl 27 ⟨rfl, trivial⟩, hC, hO, h0, h1, a5⟩
 ·rintro k23 s21 o25 a a0 ⟨σ, a4, rfl, hC, hO, h0, h1, a5⟩ hlt hw hs
  refine c_sr ?_
  refine pl_val (.bool (decide (k23 < (f.length : Int)))) (y_lss rfl rfl) ?_
  refine c_nil ?_
  refine c_seq ?_
  refine c_condT (congrArg Value.bool (decide_eq_true hlt)) ?_
  refine wp_skip ?_
  refine c_seq ?_
  refine wp_block ?_
  refine c_sr ?_
  refine pl_val (.int .i64 k23) (y_move rfl) ?_
  obtain ⟨x29, c1, hs⟩ := bind_some hs
  obtain ⟨c2, c3, c4, c5⟩ := rs_idx Sl37 Sz3 h0 c1
  refine pl_val (.pointer (some ⟨c2, c3, none⟩)) (c4 _ _ _ _ _ _ _ _ _ rfl rfl) ?_
  refine pl_val (.int .i64 x29) (y_load rfl ((at_load_int Ag3 Sz3 c5) _ (Chg.refl _ _))) ?_
  refine pl_val (.int .i64 k23) (y_assign rfl) ?_
  refine pl_val (.int .i64 x29) (y_assign rfl) ?_
  refine c_nil ?_
  refine c_region ?_
  refine pl_val (.slice a1 a2 a3) (y_move rfl) ?_
  refine pl_val (.int .i64 k23) (y_move rfl) ?_
  refine pl_val (.slice pa1 pn1 pc1) (y_move rfl) ?_
  refine pl_val (.int .i64 x29) (y_move rfl) ?_
  obtain ⟨x31, c6, hs⟩ := bind_some hs
  obtain ⟨c7, c8, c9, d0⟩ := rs_idx Sl37 Sz3 h1 c6
  refine pl_val (.pointer (some ⟨c7, c8, none⟩)) (c9 _ _ _ _ _ _ _ _ _ rfl rfl) ?_
  refine pl_val (.int .i64 x31) (y_load rfl ((at_load_int Ag3 Sz3 d0) _ (Chg.refl _ _))) ?_
  obtain ⟨x33, d1, hs⟩ := bind_some hs
  obtain ⟨b2, e0, b3, d2, d3, e1, e2⟩ := os_idx Sl37 Sz3 a5 d1
  refine pl_val (.pointer (some ⟨b2, 0 + Int.toNat k23 * 1, none⟩)) (d3 _ _ _ _ _ _ _ _ _ rfl rfl) ?_
  obtain ⟨d4, d5, d6, a8, d7, b0⟩ := os_store (P := Try.prog) (c' := [(.int .i64 x31)]) b3 a5 d2 (fun g hg => hO.inM g (os_block a5 g (by simpa using hg))) ⟨rfl, rfl⟩ List.nodup_nil (fun _ h => nomatch h) (fun _ h => .inl h)
  have b1 : ∀ q ∈ [b2], q ∈ a4 := fun q hq => os_block a5 q (by rw [b3]; exact hq)
  refine pl_skip (w' := d4) (ys_store rfl rfl (d6 _ _ rfl Sz3)) ?_
  have h0 := h0.mt a8 hO b1
  have h1 := h1.mt a8 hO b1
  have hC := hC.st a8 hO b1
  have hO := hO.grow a8 (fun q hq => .inl ((d7 q hq).resolve_right (fun h => nomatch h))) (os_nodup b0) b0.fpl
  refine c_nil ?_
  refine c_region ?_
  refine pl_val (.int .i64 (w64 (k23 + 1))) (y_add rfl rfl) ?_
  refine pl_val (.int .i64 (w64 (k23 + 1))) (y_move rfl) ?_
  refine c_nil ?_
  cases hs
  exact ⟨_, d5, fr_ovl 27 ⟨rfl, rfl, rfl, rfl, congrArg (Value.int .i64) hw, trivial⟩, hC, hO, h0, h1, b0⟩
 ·skip
  exact ⟨_, b7, fr_ovl 27 ⟨rfl, rfl, rfl, rfl, rfl, trivial⟩, hC, hO, h0, h1, a9⟩
 cases o25 with
 | nx _ => exact True.intro
 | rt r_ =>
  have hs := after_rt hs
  intro d8 b4 hK
  cases hs
  exact hK
 | br s21 =>
  have hs := after_br hs
  rintro d8 a0 ⟨σ, a7, rfl, hC, hO, h0, h1, d9⟩
  refine c_sr ?_
  refine pl_val (.slice a1 a2 a3) (y_move rfl) ?_
  refine pl_val (.slice a1 a2 a3) (y_assign rfl) ?_
  refine c_nil ?_
  refine wp_ret ?_
  cases hs
  exact ⟨_, a1, a2, a3, a7, fr_ovl 27 ⟨rfl, trivial⟩, hC, d9, hO.top⟩

def k_impl_indexOf (M : Nat → Prop) (w0 : World) (r : Int) (a : Act) (w : World) : Prop :=
  ∃ (σ : Nat → Value) , a = fr 21 (ovl σ [(4, (.int .i64 r))]) ∧ Chg [] w0 w
def s_impl_indexOf (args : List Int) (n : Int) : Option (Int) :=
  (forR (S := Int) (R := Int) (fun _ x6 s3 =>
  some (.nx (w64 ((w64 (s3 * n)) + x6)))) 0 args 0).bind fun o7 => after o7 (fun r_ => some r_) (fun s3 =>
  some s3)
set_option maxHeartbeats 4000000 in
theorem c_impl_indexOf {M : Nat → Prop} {w : World} {pa0 : Option Addr} {pn0 pc0 : Nat} (args : List Int) (n : Int) (h0 : (RT.rs (RT.int .i64)).val M w (.slice pa0 pn0 pc0) args ([])) (hM : ∀ g, w.heap.size ≤ g → M g) {r : Int} (hs : s_impl_indexOf args n = some r) :
    Gives Try.prog 86 [(.slice pa0 pn0 pc0), (.int .i64 n)] w (fun v w' => v = (.int .i64 r) ∧ Chg [] w w') := by
 refine calls_fr Try.func86 rfl Try.ntmps86 (Nat.le_of_ble_eq_true rfl) ?_
 have hO := Own.start (N := Nw w []) hM Nw.fut
 have hC := Chg.refl [] w
 unfold s_impl_indexOf at hs
 refine wp_mono (Q := KPost (k_impl_indexOf M w r)) ?_ (fun e a a2 h => ?_)
 rotate_left
 ·cases e
  case ret =>
   obtain ⟨σ, rfl, hrest⟩ := h
   exact ret1x Try.results86 (res_tmp rfl) ⟨rfl, hrest⟩
  all_goals exact (h : False).elim
 refine c_sr ?_
 refine pl_val (.int .i64 0) (y_assign rfl) ?_
 refine c_nil ?_
 refine c_sr ?_
 refine pl_val (.int .i64 0) (y_assign rfl) ?_
 refine c_nil ?_
 refine c_seq ?_
 refine c_sr ?_
 refine pl_val (.slice pa0 pn0 pc0) (y_move rfl) ?_
 refine pl_val (.int .i64 (args.length : Int)) (y_len' Sl37 (rs_len h0) rfl) ?_
 refine pl_val (.int .i64 0) (y_move rfl) ?_
 refine c_nil ?_
 obtain ⟨o7, a3, hs⟩ := bind_some hs
 refine wp_block ?_
 refine wp_forR (id := 0) (I := fun i_ xs_ s3 a a0 => ∃ a1 : Nat, i_ = (a1 : Int) ∧ List.drop a1 args = xs_ ∧ (∃ (σ : Nat → Value), a = fr 21 (ovl σ [(1, (.int .i64 n)), (5, (.int .i64 s3)), (8, (.slice pa0 pn0 pc0)), (9, (.int .i64 (args.length : Int))), (10, (.int .i64 (a1 : Int)))]) ∧ Chg [] w a0 ∧ Own (Nw w []) M a0 ([]) ∧ (RT.rs (RT.int .i64)).val M a0 (.slice pa0 pn0 pc0) args ([]))) (J := fun s3 a a0 => ∃ (σ : Nat → Value), a = fr 21 (ovl σ [(5, (.int .i64 s3))]) ∧ Chg [] w a0 ∧ Own (Nw w []) M a0 ([]) ∧ (RT.rs (RT.int .i64)).val M a0 (.slice pa0 pn0 pc0) args ([])) (K := (k_impl_indexOf M w)) ?_ ?_ args 0 0 o7 _ _ ?_ a3 ?_
 ·rintro _ s3 a a0 ⟨a1, rfl, hd, σ, rfl, hC, hO, h0⟩
  have hlt := drop_nil_ge hd
  refine c_sr ?_
  refine pl_val (.bool (decide ((a1 : Int) < (args.length : Int)))) (y_lss rfl rfl) ?_
  refine c_nil ?_
  refine c_seq ?_
  refine c_condF (congrArg Value.bool (decide_eq_false hlt)) ?_
  refine wp_exit ?_
  exact ⟨rfl, _, fr_ovl 21 ⟨rfl, trivial⟩, hC, hO, h0⟩
 ·rintro _ x6 xs_ s3 o7 a a0 ⟨a1, rfl, hd, σ, rfl, hC, hO, h0⟩ hs
  have hlt := drop_cons_lt hd
  have a4 := drop_cons_idx hd
  refine c_sr ?_
  refine pl_val (.bool (decide ((a1 : Int) < (args.length : Int)))) (y_lss rfl rfl) ?_
  refine c_nil ?_
  refine c_seq ?_
  refine c_condT (congrArg Value.bool (decide_eq_true hlt)) ?_
  refine wp_skip ?_
  refine c_seq ?_
  refine wp_block ?_
  refine c_sr ?_
  obtain ⟨a5, a6, a7, a8⟩ := rs_idx Sl37 Sz3 h0 a4
  refine pl_val (.pointer (some ⟨a5, a6, none⟩)) (a7 _ _ _ _ _ _ _ _ _ rfl rfl) ?_
  refine pl_val (.int .i64 x6) (y_load rfl ((at_load_int Ag3 Sz3 a8) _ (Chg.refl _ _))) ?_
  refine pl_val (.int .i64 x6) (y_assign rfl) ?_
  refine c_nil ?_
  refine c_region ?_
  refine pl_val (.int .i64 s3) (y_move rfl) ?_
  refine pl_val (.int .i64 n) (y_move rfl) ?_
  refine pl_val (.int .i64 (w64 (s3 * n))) (y_mul rfl rfl) ?_
  refine pl_val (.int .i64 x6) (y_move rfl) ?_
  refine pl_val (.int .i64 (w64 ((w64 (s3 * n)) + x6))) (y_add rfl rfl) ?_
  refine pl_val (.int .i64 (w64 ((w64 (s3 * n)) + x6))) (y_assign rfl) ?_
  refine c_nil ?_
  refine c_region ?_
  refine pl_val (.int .i64 (w64 ((a1 : Int) + 1))) (y_add rfl rfl) ?_
  refine pl_val (.int .i64 (w64 ((a1 : Int) + 1))) (y_move rfl) ?_
  refine c_nil ?_
  cases hs
  exact ⟨_, rfl, drop_cons_next hd, _, fr_ovl 21 ⟨rfl, rfl, rfl, rfl, congrArg (Value.int .i64) (w64_succ hlt (Int.natCast_nonneg _) (rs_max h0)), trivial⟩, hC, hO, h0⟩
 ·skip
  exact ⟨0, rfl, rfl, _, fr_ovl 21 ⟨rfl, rfl, rfl, rfl, rfl, trivial⟩, hC, hO, h0⟩
 cases o7 with
 | nx _ => exact True.intro
 | rt r_ =>
  have hs := after_rt hs
  intro a9 a2 hK
  cases hs
  exact hK
 | br s3 =>
  have hs := after_br hs
  rintro a9 a0 ⟨σ, rfl, hC, hO, h0⟩
  refine c_sr ?_
  refine pl_val (.int .i64 s3) (y_move rfl) ?_
  refine pl_val (.int .i64 s3) (y_assign rfl) ?_
  refine c_nil ?_
  refine wp_ret ?_
  cases hs
  exact ⟨_, fr_ovl 21 ⟨rfl, trivial⟩, hC⟩

theorem Bd87 : Bodied Try.prog 87 := bodied Try.func87 (by kernel_rfl) rfl

theorem Bd86 : Bodied Try.prog 86 := bodied Try.func86 (by kernel_rfl) rfl

def k_impl_valuesAt (M : Nat → Prop) (w0 : World) (r : (List Int)) (a : Act) (w : World) : Prop :=
  ∃ (σ : Nat → Value) (ra0 : Option Addr) (rn0 rc0 : Nat) (rf0 : List Nat), a = fr 31 (ovl σ [(6, (.slice ra0 rn0 rc0))]) ∧ Chg [] w0 w ∧ (RT.os 3 (RT.int .i64)).val M w (.slice ra0 rn0 rc0) r rf0 ∧ Own (Nw w0 []) (fun _ => True) w (rf0 ++ ([]))
def s_impl_valuesAt (n : Int) (table : List Int) (pattern : List Int) : Option ((List Int)) :=
  (forC (S := (List Int)) (R := (List Int)) (fun k24 s22 =>
  (s_impl_argsAt k24 2 n).bind fun r33 =>
  (s_impl_compose pattern r33).bind fun r36 =>
  (s_impl_indexOf r36 n).bind fun r39 =>
  (idx table r39).bind fun x40 =>
  (app s22 ([x40])).bind fun y45 =>
  some (.nx y45)) 0 (w64 (n * n)) ([])).bind fun o26 => after o26 (fun r_ => some r_) (fun s22 =>
  some s22)
set_option maxHeartbeats 4000000 in
theorem c_impl_valuesAt {M : Nat → Prop} {w : World} {pa0 : Option Addr} {pn0 pc0 : Nat} {pa1 : Option Addr} {pn1 pc1 : Nat} (n : Int) (table : List Int) (pattern : List Int) (h0 : (RT.rs (RT.int .i64)).val M w (.slice pa0 pn0 pc0) table ([])) (h1 : (RT.rs (RT.int .i64)).val M w (.slice pa1 pn1 pc1) pattern ([])) (hM : ∀ g, w.heap.size ≤ g → M g) {r : (List Int)} (hs : s_impl_valuesAt n table pattern = some r) :
    Gives Try.prog 46 [(.int .i64 n), (.slice pa0 pn0 pc0), (.slice pa1 pn1 pc1)] w (fun v w' => ∃ (ra0 : Option Addr) (rn0 rc0 : Nat) (rf0 : List Nat), v = (.slice ra0 rn0 rc0) ∧ Chg [] w w' ∧ (RT.os 3 (RT.int .i64)).val M w' (.slice ra0 rn0 rc0) r rf0 ∧ Own (Nw w []) (fun _ => True) w' (rf0 ++ ([]))) := by
 refine calls_fr Try.func46 rfl Try.ntmps46 (Nat.le_of_ble_eq_true rfl) ?_
 have hO := Own.start (N := Nw w []) hM Nw.fut
 have hC := Chg.refl [] w
 unfold s_impl_valuesAt at hs
 refine wp_mono (Q := KPost (k_impl_valuesAt M w r)) ?_ (fun e a d6 h => ?_)
 rotate_left
 ·cases e
  case ret =>
   obtain ⟨σ, ra0, rn0, rc0, rf0, rfl, hrest⟩ := h
   exact ret1x Try.results46 (res_tmp rfl) ⟨ra0, rn0, rc0, rf0, rfl, hrest⟩
  all_goals exact (h : False).elim
 refine c_sr ?_
 refine pl_val (.slice none 0 0) (y_assign rfl) ?_
 refine c_nil ?_
 refine c_sr ?_
 obtain ⟨c9, a7, d7, d0, b8, d1⟩ := new_block w [] 3
 refine pl_val (w' := c9) (.slice (some ⟨a7, 0, none⟩) 0 0) (y_bslice rfl (by rw [d7, d0]; kernel_rfl)) ?_
 have h0 := h0.ext b8
 have h1 := h1.ext b8
 have hC := hC.ext b8
 have hO := hO.new1 b8 d0 d1.lt
 have c0 := os_of_box (r := (RT.int .i64)) (M := M) (css := []) (fps := []) (xs := ([] : List Int)) d1 trivial (Nat.zero_le _) (List.nodup_cons.2 ⟨(fun h => nomatch h), List.nodup_nil⟩)
 have c0 : (RT.os 3 (RT.int .i64)).val M c9 (.slice (some ⟨a7, 0, none⟩) 0 0) [] [a7] := c0
 refine pl_val (.slice (some ⟨a7, 0, none⟩) 0 0) (y_assign rfl) ?_
 refine c_nil ?_
 refine c_seq ?_
 refine c_sr ?_
 refine pl_val (.int .i64 0) (y_assign rfl) ?_
 refine c_nil ?_
 obtain ⟨o26, d8, hs⟩ := bind_some hs
 refine wp_block ?_
 refine wp_forC (id := 0) (w64 (n * n)) (I := fun k24 s22 a a0 => ∃ (σ : Nat → Value) (a8 : Option Addr) (a9 : Nat) (b0 : Nat) (a5 : List Nat), a = fr 31 (ovl σ [(0, (.int .i64 n)), (1, (.slice pa0 pn0 pc0)), (2, (.slice pa1 pn1 pc1)), (7, (.slice a8 a9 b0)), (8, (.int .i64 k24))]) ∧ Chg [] w a0 ∧ Own (Nw w []) M a0 (a5 ++ []) ∧ (RT.rs (RT.int .i64)).val M a0 (.slice pa0 pn0 pc0) table ([]) ∧ (RT.rs (RT.int .i64)).val M a0 (.slice pa1 pn1 pc1) pattern ([]) ∧ (RT.os 3 (RT.int .i64)).val M a0 (.slice a8 a9 b0) s22 a5) (J := fun s22 a a0 => ∃ (σ : Nat → Value) (b1 : Option Addr) (b2 : Nat) (b3 : Nat) (b9 : List Nat), a = fr 31 (ovl σ [(7, (.slice b1 b2 b3))]) ∧ Chg [] w a0 ∧ Own (Nw w []) M a0 (b9 ++ []) ∧ (RT.rs (RT.int .i64)).val M a0 (.slice pa0 pn0 pc0) table ([]) ∧ (RT.rs (RT.int .i64)).val M a0 (.slice pa1 pn1 pc1) pattern ([]) ∧ (RT.os 3 (RT.int .i64)).val M a0 (.slice b1 b2 b3) s22 b9) (K := (k_impl_valuesAt M w)) ?_ ?_ 0 ([]) o26 _ _ ?_ d8 ?_
 ·rintro k24 s22 a a0 ⟨σ, a8, a9, b0, a5, rfl, hC, hO, h0, h1, a1⟩ hlt
  refine c_seq ?_
  refine c_sr ?_
  refine pl_val (.int .i64 k24) (y_move rfl) ?_
  refine pl_val (.int .i64 n) (y_move rfl) ?_
  refine pl_val (.int .i64 n) (y_move rfl) ?_
  refine pl_val (.int .i64 (w64 (n * n))) (y_mul rfl rfl) ?_
  refine pl_val (.bool (decide (k24 < (w64 (n * n))))) (y_lss rfl rfl) ?_
  refine c_nil ?_
  refine c_condF (congrArg Value.bool (decide_eq_false hlt)) ?_
  refine wp_exit ?_
  exact ⟨rfl, _, a8, a9, b0, a5, fr_ovl 31 ⟨rfl, trivial⟩, hC, hO, h0, h1, a1⟩
 ·rintro k24 s22 o26 a a0 ⟨σ, a8, a9, b0, a5, rfl, hC, hO, h0, h1, a1⟩ hlt hw hs
  refine c_seq ?_
  refine c_sr ?_
  refine pl_val (.int .i64 k24) (y_move rfl) ?_
  refine pl_val (.int .i64 n) (y_move rfl) ?_
  refine pl_val (.int .i64 n) (y_move rfl) ?_
  refine pl_val (.int .i64 (w64 (n * n))) (y_mul rfl rfl) ?_
  refine pl_val (.bool (decide (k24 < (w64 (n * n))))) (y_lss rfl rfl) ?_
  refine c_nil ?_
  refine c_condT (congrArg Value.bool (decide_eq_true hlt)) ?_
  refine wp_skip ?_
  refine c_seq ?_
  refine wp_block ?_
  refine c_region ?_
  refine pl_val (.slice a8 a9 b0) (y_move rfl) ?_
  refine pl_val (.slice pa0 pn0 pc0) (y_move rfl) ?_
  refine pl_val (.slice pa1 pn1 pc1) (y_move rfl) ?_
  refine pl_val (.int .i64 k24) (y_move rfl) ?_
  refine pl_val (.int .i64 n) (y_move rfl) ?_
  obtain ⟨r33, d9, hs⟩ := bind_some hs
  refine pl_call Bd88 rfl (c_impl_argsAt (M := M) k24 2 n  hO.fut d9) ?_
  rintro _ f7 ⟨f8, f9, g0, c1, rfl, b6, a2, e0⟩
  have h0 := h0.ext b6
  have h1 := h1.ext b6
  have a1 := a1.ext b6
  have hC := hC.ext b6
  have hO := Own.join0 hO b6 e0
  have hO := hO.perm (R := c1 ++ (a5 ++ ([]))) (by simp)
  obtain ⟨r36, e1, hs⟩ := bind_some hs
  refine pl_call Bd87 rfl (c_impl_compose (M := (Less M c1)) pattern r33 (h1.sub Less.sub) (((Frz.os Frz.int)).val a2 Less.sub Less.not) hO.less.fut e1) ?_
  rintro _ g1 ⟨g2, g3, g4, d2, rfl, b4, a3, e2⟩
  have h0 := h0.ext b4
  have h1 := h1.ext b4
  have a1 := a1.ext b4
  have a2 := a2.ext b4
  have hC := hC.ext b4
  have hO := Own.join0 hO b4 e2
  have hO := hO.perm (R := d2 ++ (c1 ++ (a5 ++ ([])))) (by simp)
  have a3 := a3.free (M' := M) (Free.os Free.int)
  refine pl_val (.int .i64 n) (y_move rfl) ?_
  obtain ⟨r39, e3, hs⟩ := bind_some hs
  refine pl_call Bd86 rfl (c_impl_indexOf (M := (Less M d2)) r36 n (((Frz.os Frz.int)).val a3 Less.sub Less.not) hO.less.fut e3) ?_
  rintro _ e4 ⟨rfl, a6⟩
  have h0 := h0.ext a6
  have h1 := h1.ext a6
  have a1 := a1.ext a6
  have a2 := a2.ext a6
  have a3 := a3.ext a6
  have hC := hC.ext a6
  have hO := hO.ext a6
  obtain ⟨x40, e5, hs⟩ := bind_some hs
  obtain ⟨e6, e7, e8, c2⟩ := rs_idx Sl37 Sz3 h0 e5
  refine pl_val (.pointer (some ⟨e6, e7, none⟩)) (e8 _ _ _ _ _ _ _ _ _ rfl rfl) ?_
  refine pl_val (.int .i64 x40) (y_load rfl ((at_load_int Ag3 Sz3 c2) _ (Chg.refl _ _))) ?_
  obtain ⟨d3, c3, e9, d4, a4, d5⟩ := new_block e4 [(.int .i64 x40)] 3
  refine pl_val (w' := d3) (.slice (some ⟨c3, 0, none⟩) 1 1) (y_bslice rfl (by rw [e9, d4]; kernel_rfl)) ?_
  have h0 := h0.ext a4
  have h1 := h1.ext a4
  have a1 := a1.ext a4
  have a2 := a2.ext a4
  have a3 := a3.ext a4
  have c2 := at_ext c2 a4
  have hC := hC.ext a4
  have hO := hO.new1 a4 d4 d5.lt
  have c4 := os_of_box (r := (RT.int .i64)) (M := M) (css := [[(.int .i64 x40)]]) (fps := [([] : List Nat)]) (xs := ([x40] : List Int)) d5 ⟨⟨rfl, rfl⟩, trivial⟩ (Nat.le_of_ble_eq_true rfl) (List.nodup_cons.2 ⟨(fun h => nomatch h), List.nodup_nil⟩)
  have c4 : (RT.os 3 (RT.int .i64)).val M d3 (.slice (some ⟨c3, 0, none⟩) 1 1) [x40] [c3] := c4
  obtain ⟨y45, f0, hs⟩ := bind_some hs
  have hO := hO.fr3
  obtain ⟨c5, c6, c7, f1, f2, f3, b5, f4, c8⟩ := app_os Rw37 f0 a1 c4 hO.inM (fun g hg hq => hO.apart g hq (mem_l hg))
  have b7 := os_block a1
  refine pl_val (w' := f1) (.slice c5 c6 c7) (y_append rfl rfl (f3 _)) ?_
  have hO := hO.fr1
  have hO := hO.fr1
  have h0 := h0.mt b5 hO b7
  have h1 := h1.mt b5 hO b7
  have a2 := a2.ma b5 hO b7 (fun _ e => (mem_r (mem_r (mem_l (e)))))
  have a3 := a3.ma b5 hO b7 (fun _ e => (mem_r (mem_l (e))))
  have hC := hC.st b5 hO b7
  have hO := hO.eat b5 f4 (os_nodup c8) c8.fpl
  refine pl_val (.slice c5 c6 c7) (y_assign rfl) ?_
  refine c_nil ?_
  refine c_region ?_
  refine pl_val (.int .i64 k24) (y_move rfl) ?_
  refine pl_val (.int .i64 (w64 (k24 + 1))) (y_add rfl rfl) ?_
  refine pl_val (.int .i64 (w64 (k24 + 1))) (y_assign rfl) ?_
  refine c_nil ?_
  cases hs
  have hO := hO.fr1
  have hO := hO.drop
  have hO := hO.fr1
  have hO := hO.drop
  exact ⟨_, c5, c6, c7, f2, fr_ovl 31 ⟨rfl, rfl, rfl, rfl, congrArg (Value.int .i64) hw, trivial⟩, hC, hO, h0, h1, c8⟩
 ·skip
  exact ⟨_, (some ⟨a7, 0, none⟩), 0, 0, ([a7]), fr_ovl 31 ⟨rfl, rfl, rfl, rfl, rfl, trivial⟩, hC, hO, h0, h1, c0⟩
 cases o26 with
 | nx _ => exact True.intro
 | rt r_ =>
  have hs := after_rt hs
  intro f5 d6 hK
  cases hs
  exact hK
 | br s22 =>
  have hs := after_br hs
  rintro f5 a0 ⟨σ, b1, b2, b3, b9, rfl, hC, hO, h0, h1, f6⟩
  refine c_sr ?_
  refine pl_val (.slice b1 b2 b3) (y_move rfl) ?_
  refine pl_val (.slice b1 b2 b3) (y_assign rfl) ?_
  refine c_nil ?_
  refine wp_ret ?_
  cases hs
  exact ⟨_, b1, b2, b3, b9, fr_ovl 31 ⟨rfl, trivial⟩, hC, f6, hO.top⟩

def k_impl_firsts (M : Nat → Prop) (w0 : World) (r : (List Int)) (a : Act) (w : World) : Prop :=
  ∃ (σ : Nat → Value) (ra0 : Option Addr) (rn0 rc0 : Nat) (rf0 : List Nat), a = fr 5 (ovl σ [(2, (.slice ra0 rn0 rc0))]) ∧ Chg [] w0 w ∧ (RT.os 3 (RT.int .i64)).val M w (.slice ra0 rn0 rc0) r rf0 ∧ Own (Nw w0 []) (fun _ => True) w (rf0 ++ ([]))
def s_impl_firsts (n : Int) : Option ((List Int)) :=
  (s_impl_projection n 2 0).bind fun r2 =>
  some r2
set_option maxHeartbeats 4000000 in
theorem c_impl_firsts {M : Nat → Prop} {w : World}  (n : Int)  (hM : ∀ g, w.heap.size ≤ g → M g) {r : (List Int)} (hs : s_impl_firsts n = some r) :
    Gives Try.prog 42 [(.int .i64 n)] w (fun v w' => ∃ (ra0 : Option Addr) (rn0 rc0 : Nat) (rf0 : List Nat), v = (.slice ra0 rn0 rc0) ∧ Chg [] w w' ∧ (RT.os 3 (RT.int .i64)).val M w' (.slice ra0 rn0 rc0) r rf0 ∧ Own (Nw w []) (fun _ => True) w' (rf0 ++ ([]))) := by
 refine calls_fr Try.func42 rfl Try.ntmps42 (Nat.le_of_ble_eq_true rfl) ?_
 have hO := Own.start (N := Nw w []) hM Nw.fut
 have hC := Chg.refl [] w
 unfold s_impl_firsts at hs
 refine wp_mono (Q := KPost (k_impl_firsts M w r)) ?_ (fun e a a5 h => ?_)
 rotate_left
 ·cases e
  case ret =>
   obtain ⟨σ, ra0, rn0, rc0, rf0, rfl, hrest⟩ := h
   exact ret1x Try.results42 (res_tmp rfl) ⟨ra0, rn0, rc0, rf0, rfl, hrest⟩
  all_goals exact (h : False).elim
 refine c_sr ?_
 refine pl_val (.slice none 0 0) (y_assign rfl) ?_
 refine c_nil ?_
 refine c_sr ?_
 refine pl_val (.int .i64 n) (y_move rfl) ?_
 obtain ⟨r2, a6, hs⟩ := bind_some hs
 refine pl_call Bd84 rfl (c_impl_projection (M := M) n 2 0  hO.fut a6) ?_
 rintro _ a5 ⟨a0, a1, a2, a3, rfl, a4, a7, a8⟩
 have hC := hC.ext a4
 have hO := Own.join0 hO a4 a8
 have hO := hO.perm (R := a3 ++ ([])) (by simp)
 refine pl_val (.slice a0 a1 a2) (y_assign rfl) ?_
 refine c_nil ?_
 refine wp_ret ?_
 cases hs
 exact ⟨_, a0, a1, a2, a3, fr_ovl 5 ⟨rfl, trivial⟩, hC, a7, hO.top⟩

def k_impl_sameList (M : Nat → Prop) (w0 : World) (r : Bool) (a : Act) (w : World) : Prop :=
  ∃ (σ : Nat → Value) , a = fr 26 (ovl σ [(4, (.bool r))]) ∧ Chg [] w0 w
def s_impl_sameList (a_ : List Int) (b : List Int) : Option (Bool) :=
  (bif ((a_.length : Int) != (b.length : Int)) then some false else (forC (S := Unit) (R := Bool) (fun k11 s9 =>
  (idx a_ k11).bind fun x15 =>
  (idx b k11).bind fun x17 =>
  (bif (x17 != x15) then some (.rt false) else some (.nx ()))) 0 (a_.length : Int) ()).bind fun o13 => after o13 (fun r_ => some r_) (fun s9 =>
  some true))
set_option maxHeartbeats 4000000 in
theorem c_impl_sameList {M : Nat → Prop} {w : World} {pa0 : Option Addr} {pn0 pc0 : Nat} {pa1 : Option Addr} {pn1 pc1 : Nat} (a_ : List Int) (b : List Int) (h0 : (RT.rs (RT.int .i64)).val M w (.slice pa0 pn0 pc0) a_ ([])) (h1 : (RT.rs (RT.int .i64)).val M w (.slice pa1 pn1 pc1) b ([])) (hM : ∀ g, w.heap.size ≤ g → M g) {r : Bool} (hs : s_impl_sameList a_ b = some r) :
    Gives Try.prog 45 [(.slice pa0 pn0 pc0), (.slice pa1 pn1 pc1)] w (fun v w' => v = (.bool r) ∧ Chg [] w w') := by
 refine calls_fr Try.func45 rfl Try.ntmps45 (Nat.le_of_ble_eq_true rfl) ?_
 have hO := Own.start (N := Nw w []) hM Nw.fut
 have hC := Chg.refl [] w
 unfold s_impl_sameList at hs
 refine wp_mono (Q := KPost (k_impl_sameList M w r)) ?_ (fun e a a3 h => ?_)
 rotate_left
 ·cases e
  case ret =>
   obtain ⟨σ, rfl, hrest⟩ := h
   exact ret1x Try.results45 (res_tmp rfl) ⟨rfl, hrest⟩
  all_goals exact (h : False).elim
 refine c_sr ?_
 refine pl_val (.bool false) (y_assign rfl) ?_
 refine c_nil ?_
 refine c_seq ?_
 refine c_sr ?_
 refine pl_val (.slice pa0 pn0 pc0) (y_move rfl) ?_
 refine pl_val (.int .i64 (a_.length : Int)) (y_len' Sl37 (rs_len h0) rfl) ?_
 refine pl_val (.slice pa1 pn1 pc1) (y_move rfl) ?_
 refine pl_val (.int .i64 (b.length : Int)) (y_len' Sl37 (rs_len h1) rfl) ?_
 refine pl_val (.bool ((a_.length : Int) != (b.length : Int))) (y_neq rfl rfl) ?_
 refine c_nil ?_
 rcases bif_some hs with ⟨a1, hs⟩ | ⟨a1, hs⟩
 ·refine c_condT (congrArg Value.bool a1) ?_
  refine c_sr ?_
  refine pl_val (.bool false) (y_assign rfl) ?_
  refine c_nil ?_
  refine wp_ret ?_
  cases hs
  exact ⟨_, fr_ovl 26 ⟨rfl, trivial⟩, hC⟩
 refine c_condF (congrArg Value.bool a1) ?_
 refine wp_skip ?_
 refine c_seq ?_
 refine c_sr ?_
 refine pl_val (.slice pa0 pn0 pc0) (y_move rfl) ?_
 refine pl_val (.int .i64 (a_.length : Int)) (y_len' Sl37 (rs_len h0) rfl) ?_
 refine pl_val (.int .i64 0) (y_move rfl) ?_
 refine c_nil ?_
 obtain ⟨o13, a4, hs⟩ := bind_some hs
 refine wp_block ?_
 refine wp_forC (id := 0) (a_.length : Int) (I := fun k11 s9 a a0 => ∃ (σ : Nat → Value), a = fr 26 (ovl σ [(1, (.slice pa1 pn1 pc1)), (12, (.slice pa0 pn0 pc0)), (13, (.int .i64 (a_.length : Int))), (14, (.int .i64 k11))]) ∧ Chg [] w a0 ∧ Own (Nw w []) M a0 ([]) ∧ (RT.rs (RT.int .i64)).val M a0 (.slice pa0 pn0 pc0) a_ ([]) ∧ (RT.rs (RT.int .i64)).val M a0 (.slice pa1 pn1 pc1) b ([])) (J := fun s9 a a0 => ∃ (σ : Nat → Value), a = fr 26 (ovl σ []) ∧ Chg [] w a0 ∧ Own (Nw w []) M a0 ([]) ∧ (RT.rs (RT.int .i64)).val M a0 (.slice pa0 pn0 pc0) a_ ([]) ∧ (RT.rs (RT.int .i64)).val M a0 (.slice pa1 pn1 pc1) b ([])) (K := (k_impl_sameList M w)) ?_ ?_ 0 () o13 _ _ ?_ a4 ?_
 ·rintro k11 s9 a a0 ⟨σ, rfl, hC, hO, h0, h1⟩ hlt
  refine c_sr ?_
  refine pl_val (.bool (decide (k11 < (a_.length : Int)))) (y_lss rfl rfl) ?_
  refine c_nil ?_
  refine c_seq ?_
  refine c_condF (congrArg Value.bool (decide_eq_false hlt)) ?_
  refine wp_exit ?_
  exact ⟨rfl, _, fr_ovl 26 trivial, hC, hO, h0, h1⟩
 ·rintro k11 s9 o13 a a0 ⟨σ, rfl, hC, hO, h0, h1⟩ hlt hw hs
  refine c_sr ?_
  refine pl_val (.bool (decide (k11 < (a_.length : Int)))) (y_lss rfl rfl) ?_
  refine c_nil ?_
  refine c_seq ?_
  refine c_condT (congrArg Value.bool (decide_eq_true hlt)) ?_
  refine wp_skip ?_
  refine c_seq ?_
  refine wp_block ?_
  refine c_sr ?_
  refine pl_val (.int .i64 k11) (y_move rfl) ?_
  obtain ⟨x15, a5, hs⟩ := bind_some hs
  obtain ⟨a6, a7, a8, a9⟩ := rs_idx Sl37 Sz3 h0 a5
  refine pl_val (.pointer (some ⟨a6, a7, none⟩)) (a8 _ _ _ _ _ _ _ _ _ rfl rfl) ?_
  refine pl_val (.int .i64 x15) (y_load rfl ((at_load_int Ag3 Sz3 a9) _ (Chg.refl _ _))) ?_
  refine pl_val (.int .i64 k11) (y_assign rfl) ?_
  refine pl_val (.int .i64 x15) (y_assign rfl) ?_
  refine c_nil ?_
  refine c_sr ?_
  refine pl_val (.slice pa1 pn1 pc1) (y_move rfl) ?_
  refine pl_val (.int .i64 k11) (y_move rfl) ?_
  obtain ⟨x17, b0, hs⟩ := bind_some hs
  obtain ⟨b1, b2, b3, b4⟩ := rs_idx Sl37 Sz3 h1 b0
  refine pl_val (.pointer (some ⟨b1, b2, none⟩)) (b3 _ _ _ _ _ _ _ _ _ rfl rfl) ?_
  refine pl_val (.int .i64 x17) (y_load rfl ((at_load_int Ag3 Sz3 b4) _ (Chg.refl _ _))) ?_
  refine pl_val (.int .i64 x15) (y_move rfl) ?_
  refine pl_val (.bool (x17 != x15)) (y_neq rfl rfl) ?_
  refine c_nil ?_
  rcases bif_some hs with ⟨a2, hs⟩ | ⟨a2, hs⟩
  ·refine c_condT (congrArg Value.bool a2) ?_
   refine c_sr ?_
   refine pl_val (.bool false) (y_assign rfl) ?_
   refine c_nil ?_
   refine wp_ret ?_
   cases hs
   exact ⟨_, fr_ovl 26 ⟨rfl, trivial⟩, hC⟩
  refine c_condF (congrArg Value.bool a2) ?_
  refine wp_skip ?_
  refine c_region ?_
  refine pl_val (.int .i64 (w64 (k11 + 1))) (y_add rfl rfl) ?_
  refine pl_val (.int .i64 (w64 (k11 + 1))) (y_move rfl) ?_
  refine c_nil ?_
  cases hs
  exact ⟨_, fr_ovl 26 ⟨rfl, rfl, rfl, congrArg (Value.int .i64) hw, trivial⟩, hC, hO, h0, h1⟩
 ·skip
  exact ⟨_, fr_ovl 26 ⟨rfl, rfl, rfl, rfl, trivial⟩, hC, hO, h0, h1⟩
 cases o13 with
 | nx _ => exact True.intro
 | rt r_ =>
  have hs := after_rt hs
  intro b5 a3 hK
  cases hs
  exact hK
 | br s9 =>
  have hs := after_br hs
  rintro b5 a0 ⟨σ, rfl, hC, hO, h0, h1⟩
  refine c_sr ?_
  refine pl_val (.bool true) (y_assign rfl) ?_
  refine c_nil ?_
  refine wp_ret ?_
  cases hs
  exact ⟨_, fr_ovl 26 ⟨rfl, trivial⟩, hC⟩

theorem Bd45 : Bodied Try.prog 45 := bodied Try.func45 (by kernel_rfl) rfl

def k_impl_patternAt (M : Nat → Prop) (w0 : World) (r : Int) (a : Act) (w : World) : Prop :=
  ∃ (σ : Nat → Value) , a = fr 19 (ovl σ [(4, (.int .i64 r))]) ∧ Chg [] w0 w
def s_impl_patternAt (list : List (List Int)) (p : List Int) : Option (Int) :=
  (forC (S := Unit) (R := Int) (fun k12 s10 =>
  (idx list k12).bind fun x16 =>
  (s_impl_sameList p x16).bind fun r21 =>
  (bif r21 then some (.rt k12) else some (.nx ()))) 0 (list.length : Int) ()).bind fun o14 => after o14 (fun r_ => some r_) (fun s10 =>
  some (-1))
set_option maxHeartbeats 4000000 in
theorem c_impl_patternAt {M : Nat → Prop} {w : World} {pa0 : Option Addr} {pn0 pc0 : Nat} {pa1 : Option Addr} {pn1 pc1 : Nat} (list : List (List Int)) (p : List Int) (h0 : (RT.rs (RT.rs (RT.int .i64))).val M w (.slice pa0 pn0 pc0) list ([])) (h1 : (RT.rs (RT.int .i64)).val M w (.slice pa1 pn1 pc1) p ([])) (hM : ∀ g, w.heap.size ≤ g → M g) {r : Int} (hs : s_impl_patternAt list p = some r) :
    Gives Try.prog 83 [(.slice pa0 pn0 pc0), (.slice pa1 pn1 pc1)] w (fun v w' => v = (.int .i64 r) ∧ Chg [] w w') := by
 refine calls_fr Try.func83 rfl Try.ntmps83 (Nat.le_of_ble_eq_true rfl) ?_
 have hO := Own.start (N := Nw w []) hM Nw.fut
 have hC := Chg.refl [] w
 unfold s_impl_patternAt at hs
 refine wp_mono (Q := KPost (k_impl_patternAt M w r)) ?_ (fun e a a7 h => ?_)
 rotate_left
 ·cases e
  case ret =>
   obtain ⟨σ, rfl, hrest⟩ := h
   exact ret1x Try.results83 (res_tmp rfl) ⟨rfl, hrest⟩
  all_goals exact (h : False).elim
 refine c_sr ?_
 refine pl_val (.int .i64 0) (y_assign rfl) ?_
 refine c_nil ?_
 refine c_seq ?_
 refine c_sr ?_
 refine pl_val (.slice pa0 pn0 pc0) (y_move rfl) ?_
 refine pl_val (.int .i64 (list.length : Int)) (y_len' Sl47 (rs_len h0) rfl) ?_
 refine pl_val (.int .i64 0) (y_move rfl) ?_
 refine c_nil ?_
 obtain ⟨o14, a8, hs⟩ := bind_some hs
 refine wp_block ?_
 refine wp_forC (id := 0) (list.length : Int) (I := fun k12 s10 a a0 => ∃ (σ : Nat → Value), a = fr 19 (ovl σ [(1, (.slice pa1 pn1 pc1)), (7, (.slice pa0 pn0 pc0)), (8, (.int .i64 (list.length : Int))), (9, (.int .i64 k12))]) ∧ Chg [] w a0 ∧ Own (Nw w []) M a0 ([]) ∧ (RT.rs (RT.rs (RT.int .i64))).val M a0 (.slice pa0 pn0 pc0) list ([]) ∧ (RT.rs (RT.int .i64)).val M a0 (.slice pa1 pn1 pc1) p ([])) (J := fun s10 a a0 => ∃ (σ : Nat → Value), a = fr 19 (ovl σ []) ∧ Chg [] w a0 ∧ Own (Nw w []) M a0 ([]) ∧ (RT.rs (RT.rs (RT.int .i64))).val M a0 (.slice pa0 pn0 pc0) list ([]) ∧ (RT.rs (RT.int .i64)).val M a0 (.slice pa1 pn1 pc1) p ([])) (K := (k_impl_patternAt M w)) ?_ ?_ 0 () o14 _ _ ?_ a8 ?_
 ·rintro k12 s10 a a0 ⟨σ, rfl, hC, hO, h0, h1⟩ hlt
  refine c_sr ?_
  refine pl_val (.bool (decide (k12 < (list.length : Int)))) (y_lss rfl rfl) ?_
  refine c_nil ?_
  refine c_seq ?_
  refine c_condF (congrArg Value.bool (decide_eq_false hlt)) ?_
  refine wp_exit ?_
  exact ⟨rfl, _, fr_ovl 19 trivial, hC, hO, h0, h1⟩
 ·rintro k12 s10 o14 a a0 ⟨σ, rfl, hC, hO, h0, h1⟩ hlt hw hs
  refine c_sr ?_
  refine pl_val (.bool (decide (k12 < (list.length : Int)))) (y_lss rfl rfl) ?_
  refine c_nil ?_
  refine c_seq ?_
  refine c_condT (congrArg Value.bool (decide_eq_true hlt)) ?_
  refine wp_skip ?_
  refine c_seq ?_
  refine wp_block ?_
  refine c_sr ?_
  refine pl_val (.int .i64 k12) (y_move rfl) ?_
  obtain ⟨x16, a9, hs⟩ := bind_some hs
  obtain ⟨b0, b1, b2, b3⟩ := rs_idx Sl47 Sz37 h0 a9
  refine pl_val (.pointer (some ⟨b0, b1, none⟩)) (b2 _ _ _ _ _ _ _ _ _ rfl rfl) ?_
  obtain ⟨b7, b4, a2⟩ := at_load Ag37 Sz37 (fun _ => rfl) b3
  obtain ⟨a3, a4, a5, rfl⟩ := rs_sl a2
  refine pl_val (.slice a3 a4 a5) (y_load rfl (b4 _ (Chg.refl _ _))) ?_
  refine pl_val (.int .i64 k12) (y_assign rfl) ?_
  refine pl_val (.slice a3 a4 a5) (y_assign rfl) ?_
  refine c_nil ?_
  refine c_sr ?_
  refine pl_val (.slice pa1 pn1 pc1) (y_move rfl) ?_
  refine pl_val (.slice a3 a4 a5) (y_move rfl) ?_
  obtain ⟨r21, b5, hs⟩ := bind_some hs
  refine pl_call Bd45 rfl (c_impl_sameList (M := M) p x16 h1 a2 hO.fut b5) ?_
  rintro _ b8 ⟨rfl, a1⟩
  have h0 := h0.ext a1
  have h1 := h1.ext a1
  have a2 := a2.ext a1
  have hC := hC.ext a1
  have hO := hO.ext a1
  refine c_nil ?_
  rcases bif_some hs with ⟨a6, hs⟩ | ⟨a6, hs⟩
  ·refine c_condT (congrArg Value.bool a6) ?_
   refine c_sr ?_
   refine pl_val (.int .i64 k12) (y_move rfl) ?_
   refine pl_val (.int .i64 k12) (y_assign rfl) ?_
   refine c_nil ?_
   refine wp_ret ?_
   cases hs
   exact ⟨_, fr_ovl 19 ⟨rfl, trivial⟩, hC⟩
  refine c_condF (congrArg Value.bool a6) ?_
  refine wp_skip ?_
  refine c_region ?_
  refine pl_val (.int .i64 (w64 (k12 + 1))) (y_add rfl rfl) ?_
  refine pl_val (.int .i64 (w64 (k12 + 1))) (y_move rfl) ?_
  refine c_nil ?_
  cases hs
  exact ⟨_, fr_ovl 19 ⟨rfl, rfl, rfl, congrArg (Value.int .i64) hw, trivial⟩, hC, hO, h0, h1⟩
 ·skip
  exact ⟨_, fr_ovl 19 ⟨rfl, rfl, rfl, rfl, trivial⟩, hC, hO, h0, h1⟩
 cases o14 with
 | nx _ => exact True.intro
 | rt r_ =>
  have hs := after_rt hs
  intro b6 a7 hK
  cases hs
  exact hK
 | br s10 =>
  have hs := after_br hs
  rintro b6 a0 ⟨σ, rfl, hC, hO, h0, h1⟩
  refine c_sr ?_
  refine pl_val (.int .i64 (-1)) (y_assign rfl) ?_
  refine c_nil ?_
  refine wp_ret ?_
  cases hs
  exact ⟨_, fr_ovl 19 ⟨rfl, trivial⟩, hC⟩

theorem Bd82 : Bodied Try.prog 82 := bodied Try.func82 (by kernel_rfl) rfl

theorem Fa58x1 : ∀ (a : Addr) (w : World), (Instr.fieldAt 58 (.pointer (some a)) 1).run Try.prog w = .ok (.pointer (some (a.add 1))) w := fun _ _ => by kernel_rfl

theorem Fa58x2 : ∀ (a : Addr) (w : World), (Instr.fieldAt 58 (.pointer (some a)) 2).run Try.prog w = .ok (.pointer (some (a.add 2))) w := fun _ _ => by kernel_rfl

theorem Fa58x0 : ∀ (a : Addr) (w : World), (Instr.fieldAt 58 (.pointer (some a)) 0).run Try.prog w = .ok (.pointer (some (a.add 0))) w := fun _ _ => by kernel_rfl

theorem Bd46 : Bodied Try.prog 46 := bodied Try.func46 (by kernel_rfl) rfl

theorem Bd42 : Bodied Try.prog 42 := bodied Try.func42 (by kernel_rfl) rfl

theorem Fa58x3 : ∀ (a : Addr) (w : World), (Instr.fieldAt 58 (.pointer (some a)) 3).run Try.prog w = .ok (.pointer (some (a.add 3))) w := fun _ _ => by kernel_rfl

theorem Fa58x4 : ∀ (a : Addr) (w : World), (Instr.fieldAt 58 (.pointer (some a)) 4).run Try.prog w = .ok (.pointer (some (a.add 4))) w := fun _ _ => by kernel_rfl

theorem Bd83 : Bodied Try.prog 83 := bodied Try.func83 (by kernel_rfl) rfl

theorem Fa58x5 : ∀ (a : Addr) (w : World), (Instr.fieldAt 58 (.pointer (some a)) 5).run Try.prog w = .ok (.pointer (some (a.add 5))) w := fun _ _ => by kernel_rfl

theorem Fa58x6 : ∀ (a : Addr) (w : World), (Instr.fieldAt 58 (.pointer (some a)) 6).run Try.prog w = .ok (.pointer (some (a.add 6))) w := fun _ _ => by kernel_rfl

def k_impl_newChainer (M : Nat → Prop) (w0 : World) (r : (Option (Int × (List (List Int)) × (List Bool) × (List (List Int)) × (List (List Int)) × Int × Int)) × Bool) (a : Act) (w : World) : Prop :=
  ∃ (σ : Nat → Value) (rn0 : Value) (rf0 : List Nat), a = fr 123 (ovl σ [(2, rn0), (3, (.bool r.2))]) ∧ Chg [] w0 w ∧ (RT.op 58 (RT.pr (RT.int .i64) (RT.pr (RT.os 37 (RT.rs (RT.int .i64))) (RT.pr (RT.os 4 RT.bool) (RT.pr (RT.os 37 (RT.os 3 (RT.int .i64))) (RT.pr (RT.os 37 (RT.os 3 (RT.int .i64))) (RT.pr (RT.int .i64) (RT.int .i64)))))))).val (PastL M [] w0 w (rf0 ++ ([]))) w rn0 r.1 rf0 ∧ Own (Nw w0 []) (fun _ => True) w (rf0 ++ ([]))
def s_impl_newChainer (a_ : Int × (List (Int × (List Int)))) : Option ((Option (Int × (List (List Int)) × (List Bool) × (List (List Int)) × (List (List Int)) × Int × Int)) × Bool) :=
  ((s_impl_IsAlgebra (a_.1, a_.2)).bind fun r7 =>
  (bif (!r7) then some true else some (decide (3 < a_.1)))).bind fun s3 =>
  (bif s3 then some (none, false) else (s_impl_termFunctions (a_.1, a_.2) 3).bind fun r11 =>
  (bif (!r11.2) then some (none, false) else (r11.1).bind fun p24 =>
  (forR (S := (List Bool) × (List (List Int)) × (List (List Int))) (R := (Option (Int × (List (List Int)) × (List Bool) × (List (List Int)) × (List (List Int)) × Int × Int)) × Bool) (fun _ x195 s192 =>
  (s_impl_valuesAt a_.1 x195 ([0, 1, 0])).bind fun r234 =>
  (s_impl_firsts a_.1).bind fun r237 =>
  (s_impl_sameList r234 r237).bind fun r240 =>
  (app s192.1 ([r240])).bind fun y244 =>
  (s_impl_valuesAt a_.1 x195 ([0, 0, 1])).bind fun r263 =>
  (app s192.2.1 ([r263])).bind fun y268 =>
  (s_impl_valuesAt a_.1 x195 ([0, 1, 1])).bind fun r275 =>
  (app s192.2.2 ([r275])).bind fun y280 =>
  some (.nx (y244, y268, y280))) 0 p24.1 ([], [], [])).bind fun o196 => after o196 (fun r_ => some r_) (fun s192 =>
  (s_impl_projection a_.1 3 0).bind fun r292 =>
  (s_impl_patternAt p24.1 r292).bind fun r295 =>
  (s_impl_projection a_.1 3 2).bind fun r299 =>
  (s_impl_patternAt p24.1 r299).bind fun r302 =>
  some ((some (a_.1, p24.1, s192.1, s192.2.1, s192.2.2, r295, r302)), true))))
set_option maxHeartbeats 4000000 in
theorem c_impl_newChainer {M : Nat → Prop} {w : World} {pa0 : Option Addr} {pn0 pc0 : Nat} (a_ : Int × (List (Int × (List Int)))) (h0 : (RT.rs (RT.pr (RT.int .i64) (RT.rs (RT.int .i64)))).val M w (.slice pa0 pn0 pc0) a_.2 ([])) (hM : ∀ g, w.heap.size ≤ g → M g) {r : (Option (Int × (List (List Int)) × (List Bool) × (List (List Int)) × (List (List Int)) × Int × Int)) × Bool} (hs : s_impl_newChainer a_ = some r) :
    Gives Try.prog 41 [(.agg #[(.int .i64 a_.1), (.slice pa0 pn0 pc0)])] w (fun v w' => ∃ (rn0 : Value) (rf0 : List Nat), v = (.tuple #[rn0, (.bool r.2)]) ∧ Chg [] w w' ∧ (RT.op 58 (RT.pr (RT.int .i64) (RT.pr (RT.os 37 (RT.rs (RT.int .i64))) (RT.pr (RT.os 4 RT.bool) (RT.pr (RT.os 37 (RT.os 3 (RT.int .i64))) (RT.pr (RT.os 37 (RT.os 3 (RT.int .i64))) (RT.pr (RT.int .i64) (RT.int .i64)))))))).val (PastL M [] w w' (rf0 ++ ([]))) w' rn0 r.1 rf0 ∧ Own (Nw w []) (fun _ => True) w' (rf0 ++ ([]))) := by
 refine calls_fr Try.func41 rfl Try.ntmps41 (Nat.le_of_ble_eq_true rfl) ?_
 have hO := Own.start (N := Nw w []) hM Nw.fut
 have hC := Chg.refl [] w
 unfold s_impl_newChainer at hs
 refine wp_mono (Q := KPost (k_impl_newChainer M w r)) ?_ (fun e a s8 h => ?_)
 rotate_left
 ·cases e
  case ret =>
   obtain ⟨σ, rn0, rf0, rfl, hrest⟩ := h
   exact ret2x Try.results41 (res_tmp rfl) (res_tmp rfl) ⟨rn0, rf0, rfl, hrest⟩
  all_goals exact (h : False).elim
 refine c_sr ?_
 obtain ⟨m9, j7, s9, o9, n0, c9⟩ := new_block w [(.int .i64 a_.1), (.slice pa0 pn0 pc0)] 30
 refine pl_val (w' := m9) (.pointer (some ⟨j7, 0, none⟩)) (y_box rfl (by rw [s9, o9]; kernel_rfl)) ?_
 have h0 := h0.ext n0
 have hC := hC.ext n0
 have hO := hO.new1 n0 o9 c9.lt
 refine pl_val (.pointer none) (y_assign rfl) ?_
 refine pl_val (.bool false) (y_assign rfl) ?_
 refine c_nil ?_
 refine c_seq ?_
 refine c_seq ?_
 obtain ⟨s3, t0, hs⟩ := bind_some hs
 refine c_mid (I := fun a a4 => ∃ (σ : Nat → Value), a = fr 123 (ovl σ [(1, (.pointer (some ⟨j7, 0, none⟩))), (2, (.pointer none)), (3, (.bool false)), (16, (.bool s3))]) ∧ Chg [] m9 a4) ?_ ?_
 ·replace hs := t0
  have hMid := Chg.refl [] m9
  refine c_region ?_
  refine pl_val (.agg #[(.int .i64 a_.1), (.slice pa0 pn0 pc0)]) (y_load rfl ((box_load Ag30 Sz30 c9 [] [(.int .i64 a_.1), (.slice pa0 pn0 pc0)] [] rfl rfl (fun h => nomatch h)) _ (Chg.refl _ _))) ?_
  obtain ⟨r7, t1, hs⟩ := bind_some hs
  refine pl_call Bd81 rfl (c_impl_IsAlgebra (M := M) (a_.1, a_.2) h0 hO.fut t1) ?_
  rintro _ A9 ⟨rfl, k6⟩
  have h0 := h0.ext k6
  have c9 := c9.cn k6
  have hMid := hMid.ext k6
  have hC := hC.ext k6
  have hO := hO.ext k6
  refine pl_val (.bool (!r7)) (y_not rfl) ?_
  refine pl_val (.bool (!r7)) (y_move rfl) ?_
  rcases bif_some hs with ⟨i1, hs⟩ | ⟨i1, hs⟩
  ·skip
   refine pl_not (tg := 12) (by kernel_rfl) (congrArg Value.bool i1) ?_
   refine pl_not (tg := 12) (by kernel_rfl) (congrArg Value.bool i1) ?_
   refine pl_not (tg := 12) (by kernel_rfl) (congrArg Value.bool i1) ?_
   refine pl_val (.bool true) (y_pick_t (congrArg Value.bool i1) rfl) ?_
   refine c_nil ?_
   cases hs
   exact ⟨_, fr_ovl 123 ⟨rfl, rfl, rfl, rfl, trivial⟩, hMid⟩
  refine pl_yes (.pointer (some ⟨j7, 0, none⟩)) (tg := 12) (by kernel_rfl) (congrArg Value.bool i1) (y_faddr rfl Fa30x0) ?_
  refine pl_yes (.int .i64 a_.1) (tg := 12) (by kernel_rfl) (congrArg Value.bool i1) (y_load rfl ((box_load Ag3 Sz3 c9 [] [(.int .i64 a_.1)] [(.slice pa0 pn0 pc0)] rfl rfl (fun _ => rfl)) _ (Chg.refl _ _))) ?_
  refine pl_yes (.bool (decide (3 < a_.1))) (tg := 12) (by kernel_rfl) (congrArg Value.bool i1) (y_gtr rfl rfl) ?_
  refine pl_val (.bool (decide (3 < a_.1))) (y_pick_f (congrArg Value.bool i1) rfl) ?_
  refine c_nil ?_
  cases hs
  exact ⟨_, fr_ovl 123 ⟨rfl, rfl, rfl, rfl, trivial⟩, hMid⟩
 rintro p0 a4 ⟨σ, rfl, l6⟩
 have h0 := h0.ext l6
 have c9 := c9.cn l6
 have hC := hC.ext l6
 have hO := hO.ext l6
 rcases bif_some hs with ⟨n1, hs⟩ | ⟨n1, hs⟩
 ·refine c_condT (congrArg Value.bool n1) ?_
  refine c_sr ?_
  refine pl_val (.pointer none) (y_assign rfl) ?_
  refine pl_val (.bool false) (y_assign rfl) ?_
  refine c_nil ?_
  refine wp_ret ?_
  cases hs
  have hO := hO.drop
  have hO := hO.nil
  exact ⟨_, (.pointer none), [], fr_ovl 123 ⟨rfl, rfl, trivial⟩, hC, op_none, hO.top⟩
 refine c_condF (congrArg Value.bool n1) ?_
 refine wp_skip ?_
 refine c_sr ?_
 refine pl_val (.agg #[(.int .i64 a_.1), (.slice pa0 pn0 pc0)]) (y_load rfl ((box_load Ag30 Sz30 c9 [] [(.int .i64 a_.1), (.slice pa0 pn0 pc0)] [] rfl rfl (fun h => nomatch h)) _ (Chg.refl _ _))) ?_
 obtain ⟨r11, t2, hs⟩ := bind_some hs
 refine pl_call Bd82 rfl (c_impl_termFunctions (M := M) (a_.1, a_.2) 3 h0 hO.fut t2) ?_
 rintro _ a5 ⟨l7, a7, rfl, l8, n2, t3⟩
 have hO := hO.perm (R := [] ++ (([j7]) ++ ([]))) (by simp)
 have t4 := Own.pastL hO l8 t3
 have hK := (show KeepsF w [] M (PastL M [] a4 a5 (a7 ++ ([]))) from KeepsF.pastL hC.size (fun g hg => (hO.inN g hg)))
 have h0 := h0.ext l8
 have c9 := c9.cn l8
 have hC := hC.ext l8
 have hO := t4
 have h0 := h0.sub (M' := (PastL M [] a4 a5 (a7 ++ ([])))) (fun g hg => .inl hg.1)
 have hO := hO.perm (R := a7 ++ (([j7]) ++ ([]))) (by simp)
 refine pl_val (.tuple #[l7, (.bool r11.2)]) (y_move rfl) ?_
 refine pl_val l7 (y_extract rfl (by kernel_rfl)) ?_
 refine pl_val (.bool r11.2) (y_extract rfl (by kernel_rfl)) ?_
 refine pl_val l7 (y_assign rfl) ?_
 refine pl_val (.bool r11.2) (y_assign rfl) ?_
 refine c_nil ?_
 refine c_seq ?_
 refine c_sr ?_
 refine pl_val (.bool r11.2) (y_move rfl) ?_
 refine pl_val (.bool (!r11.2)) (y_not rfl) ?_
 refine c_nil ?_
 rcases bif_some hs with ⟨n3, hs⟩ | ⟨n3, hs⟩
 ·refine c_condT (congrArg Value.bool n3) ?_
  refine c_sr ?_
  refine pl_val (.pointer none) (y_assign rfl) ?_
  refine pl_val (.bool false) (y_assign rfl) ?_
  refine c_nil ?_
  refine wp_ret ?_
  cases hs
  have hO := hO.drop
  have hO := hO.drop
  have hO := hO.nil
  exact ⟨_, (.pointer none), [], fr_ovl 123 ⟨rfl, rfl, trivial⟩, hC, op_none, hO.top⟩
 refine c_condF (congrArg Value.bool n3) ?_
 refine wp_skip ?_
 refine c_seq ?_
 refine x_start [] Mx rfl ?_
 have k1 := Chg.drew a5
 generalize World.drew a5 = n4 at k1 ⊢
 have h0 := h0.ext k1
 have c9 := c9.cn k1
 have n2 := n2.ext k1
 have hC := hC.ext k1
 have hO := hO.ext k1
 have hS := Chg.refl [] n4
 refine x_p 0 (.pointer (some ⟨j7, 0, none⟩)) rfl (by kernel_rfl)  (fun _ => y_faddr rfl Fa30x0) (fun _ => hS) ?_
 refine x_l 1 (.int .i64 a_.1) rfl (by kernel_rfl)  (fun w' hw' => y_load rfl ((box_load Ag3 Sz3 c9 [] [(.int .i64 a_.1)] [(.slice pa0 pn0 pc0)] rfl rfl (fun _ => rfl)) w' hw')) hS ?_
 refine x_p 2 l7 rfl (by kernel_rfl)  (fun _ => y_move rfl) (fun _ => hS) ?_
 obtain ⟨p24, t5, hs⟩ := bind_some hs
 obtain ⟨l9, rfl, t6⟩ := op_get n2 t5
 obtain ⟨B0, B1, t7, k7, t8⟩ := po_open t6
 obtain ⟨B2, B3, b8, B4, rfl, rfl, t9, u0⟩ := t8
 obtain ⟨a9, b0, b1, rfl, a1⟩ := os_rel' t9
 obtain ⟨B5, B6, u1, u2, rfl, rfl, u3, u4⟩ := u0
 obtain ⟨p1, p2, p3, rfl, p4⟩ := os_rel' u3
 obtain ⟨p5, rfl, p6⟩ := mo_rel' u4
 have k7 : BoxV n4 l9 97 [(.slice a9 b0 b1), (.slice p1 p2 p3), (.map (some p5))] := k7
 have hO := hO.perm (R := ([l9]) ++ (b8 ++ (u1 ++ (u2 ++ (([j7]) ++ ([])))))) (by rw [t7]; simp)
 refine x_p 3 (.pointer (some ⟨l9, 0, none⟩)) rfl (by kernel_rfl)  (fun _ => y_nilc rfl) (fun _ => hS) ?_
 refine x_p 4 (.pointer (some ⟨l9, 0, none⟩)) rfl (by kernel_rfl)  (fun _ => y_faddr rfl Fa97x0) (fun _ => hS) ?_
 refine x_l 5 (.slice a9 b0 b1) rfl (by kernel_rfl)  (fun w' hw' => y_load rfl ((box_load Ag47 Sz47 k7 [] [(.slice a9 b0 b1)] [(.slice p1 p2 p3), (.map (some p5))] rfl rfl (fun _ => rfl)) w' hw')) hS ?_
 refine x_p 6 (.agg #[(.int .i64 a_.1), (.slice a9 b0 b1), (.slice none 0 0), (.slice none 0 0), (.slice none 0 0), (.int .i64 0), (.int .i64 0)]) rfl (by kernel_rfl)  (fun _ => y_build rfl (by kernel_rfl)) (fun _ => hS) ?_
 refine x_one (i := 7) (by kernel_rfl) ?_
 obtain ⟨u5, a0, u6, p7, g9, b2⟩ := new_block n4 [(.int .i64 a_.1), (.slice a9 b0 b1), (.slice none 0 0), (.slice none 0 0), (.slice none 0 0), (.int .i64 0), (.int .i64 0)] 58
 refine xk_val (w' := u5) (b := false) (.pointer (some ⟨a0, 0, none⟩)) rfl  (y_box rfl (by rw [u6, p7]; kernel_rfl)) rfl (fun _ => hS.ext g9) ?_
 have h0 := h0.ext g9
 have c9 := c9.cn g9
 have a1 := a1.ext g9
 have p4 := p4.ext g9
 have p6 := p6.ext g9
 have k7 := k7.cn g9
 have hC := hC.ext g9
 have hO := hO.new1 g9 p7 b2.lt
 have hS := hS.ext g9
 refine x_p 8 (.pointer (some ⟨a0, 0, none⟩)) rfl (by kernel_rfl)  (fun _ => y_assign rfl) (fun _ => hS) ?_
 refine x_end (by kernel_rfl) ?_
 clear hS
 refine c_seq ?_
 refine c_sr ?_
 refine pl_val (.pointer (some ⟨a0, 0, none⟩)) (y_move rfl) ?_
 refine pl_val (.pointer (some ⟨a0, 0, none⟩)) (y_nilc rfl) ?_
 refine pl_val (.pointer (some ⟨a0, 1, none⟩)) (y_faddr rfl Fa58x1) ?_
 refine pl_val (.slice a9 b0 b1) (y_load rfl ((box_load Ag47 Sz47 b2 [(.int .i64 a_.1)] [(.slice a9 b0 b1)] [(.slice none 0 0), (.slice none 0 0), (.slice none 0 0), (.int .i64 0), (.int .i64 0)] rfl rfl (fun _ => rfl)) _ (Chg.refl _ _))) ?_
 refine pl_val (.int .i64 (p24.1.length : Int)) (y_len' Sl47 (os_len a1) rfl) ?_
 refine pl_val (.int .i64 0) (y_move rfl) ?_
 refine c_nil ?_
 have hO := hO.fr1
 have hO := hO.drop
 have hO := hO.fr2
 have hO := hO.drop
 have hO := hO.fr2
 have hO := hO.drop
 have hO := hO.fr2
 have hO := hO.drop
 obtain ⟨o196, u7, hs⟩ := bind_some hs
 refine wp_block ?_
 refine wp_forR (id := 0) (I := fun i_ xs_ s192 a b7 => ∃ h1 : Nat, i_ = (h1 : Int) ∧ List.drop h1 p24.1 = xs_ ∧ (∃ (σ : Nat → Value) (h2 : Option Addr) (h3 : Nat) (h4 : Nat) (j8 : List Nat) (d4 : Option Addr) (d5 : Nat) (d6 : Nat) (i2 : List Nat) (b9 : Option Addr) (c0 : Nat) (c1 : Nat) (f2 : List Nat), a = fr 123 (ovl σ [(6, (.pointer (some ⟨a0, 0, none⟩))), (35, (.slice a9 b0 b1)), (36, (.int .i64 (p24.1.length : Int))), (37, (.int .i64 (h1 : Int)))]) ∧ Chg [] w b7 ∧ Own (Nw w []) (PastL M [] a4 a5 (a7 ++ ([]))) b7 (j8 ++ (i2 ++ (f2 ++ (([a0]) ++ (b8 ++ []))))) ∧ (RT.os 37 (RT.rs (RT.int .i64))).val (PastL M [] a4 a5 (a7 ++ ([]))) b7 (.slice a9 b0 b1) p24.1 b8 ∧ BoxV b7 a0 58 [(.int .i64 a_.1), (.slice a9 b0 b1), (.slice h2 h3 h4), (.slice d4 d5 d6), (.slice b9 c0 c1), (.int .i64 0), (.int .i64 0)] ∧ (RT.os 4 RT.bool).val (PastL M [] a4 a5 (a7 ++ ([]))) b7 (.slice h2 h3 h4) s192.1 j8 ∧ (RT.os 37 (RT.os 3 (RT.int .i64))).val (PastL M [] a4 a5 (a7 ++ ([]))) b7 (.slice d4 d5 d6) s192.2.1 i2 ∧ (RT.os 37 (RT.os 3 (RT.int .i64))).val (PastL M [] a4 a5 (a7 ++ ([]))) b7 (.slice b9 c0 c1) s192.2.2 f2)) (J := fun s192 a b7 => ∃ (σ : Nat → Value) (f3 : Option Addr) (f4 : Nat) (f5 : Nat) (i6 : List Nat) (f6 : Option Addr) (f7 : Nat) (f8 : Nat) (i7 : List Nat) (f9 : Option Addr) (g0 : Nat) (g1 : Nat) (i9 : List Nat), a = fr 123 (ovl σ [(6, (.pointer (some ⟨a0, 0, none⟩)))]) ∧ Chg [] w b7 ∧ Own (Nw w []) (PastL M [] a4 a5 (a7 ++ ([]))) b7 (i6 ++ (i7 ++ (i9 ++ (([a0]) ++ (b8 ++ []))))) ∧ (RT.os 37 (RT.rs (RT.int .i64))).val (PastL M [] a4 a5 (a7 ++ ([]))) b7 (.slice a9 b0 b1) p24.1 b8 ∧ BoxV b7 a0 58 [(.int .i64 a_.1), (.slice a9 b0 b1), (.slice f3 f4 f5), (.slice f6 f7 f8), (.slice f9 g0 g1), (.int .i64 0), (.int .i64 0)] ∧ (RT.os 4 RT.bool).val (PastL M [] a4 a5 (a7 ++ ([]))) b7 (.slice f3 f4 f5) s192.1 i6 ∧ (RT.os 37 (RT.os 3 (RT.int .i64))).val (PastL M [] a4 a5 (a7 ++ ([]))) b7 (.slice f6 f7 f8) s192.2.1 i7 ∧ (RT.os 37 (RT.os 3 (RT.int .i64))).val (PastL M [] a4 a5 (a7 ++ ([]))) b7 (.slice f9 g0 g1) s192.2.2 i9) (K := (k_impl_newChainer M w)) ?_ ?_ p24.1 0 ([], [], []) o196 _ _ ?_ u7 ?_
 ·rintro _ s192 a b7 ⟨h1, rfl, hd, σ, h2, h3, h4, j8, d4, d5, d6, i2, b9, c0, c1, f2, rfl, hC, hO, a1, b2, c6, b5, a3⟩
  have hlt := drop_nil_ge hd
  refine c_sr ?_
  refine pl_val (.bool (decide ((h1 : Int) < (p24.1.length : Int)))) (y_lss rfl rfl) ?_
  refine c_nil ?_
  refine c_seq ?_
  refine c_condF (congrArg Value.bool (decide_eq_false hlt)) ?_
  refine wp_exit ?_
  have hO := hO.fr4
  have hO := hO.fr4
  have hO := hO.fr4
  have hO := hO.fr4
  have hO := hO.fr4
  exact ⟨rfl, _, h2, h3, h4, j8, d4, d5, d6, i2, b9, c0, c1, f2, fr_ovl 123 ⟨rfl, trivial⟩, hC, hO, a1, b2, c6, b5, a3⟩
 ·rintro _ x195 xs_ s192 o196 a b7 ⟨h1, rfl, hd, σ, h2, h3, h4, j8, d4, d5, d6, i2, b9, c0, c1, f2, rfl, hC, hO, a1, b2, c6, b5, a3⟩ hs
  have hlt := drop_cons_lt hd
  have u9 := drop_cons_idx hd
  refine c_sr ?_
  refine pl_val (.bool (decide ((h1 : Int) < (p24.1.length : Int)))) (y_lss rfl rfl) ?_
  refine c_nil ?_
  refine c_seq ?_
  refine c_condT (congrArg Value.bool (decide_eq_true hlt)) ?_
  refine wp_skip ?_
  refine c_seq ?_
  refine wp_block ?_
  refine c_sr ?_
  obtain ⟨v0, B7, B8, B9, v1, v2, C0⟩ := os_idx Sl47 Sz37 a1 u9
  have v3 := rd_row Rd.rs v2
  refine pl_val (.pointer (some ⟨v0, 0 + Int.toNat (h1 : Int) * 1, none⟩)) (v1 _ _ _ _ _ _ _ _ _ rfl rfl) ?_
  obtain ⟨C1, v4, a2⟩ := at_load Ag37 Sz37 (fun _ => rfl) v3
  obtain ⟨k8, k9, l0, rfl⟩ := rs_sl a2
  refine pl_val (.slice k8 k9 l0) (y_load rfl (v4 _ (Chg.refl _ _))) ?_
  refine pl_val (.slice k8 k9 l0) (y_assign rfl) ?_
  refine c_nil ?_
  refine c_seq ?_
  refine x_start [19, 22] Mx rfl ?_
  have i3 := Chg.drew b7
  generalize World.drew b7 = p8 at i3 ⊢
  have a1 := a1.ext i3
  have b2 := b2.cn i3
  have c6 := c6.ext i3
  have b5 := b5.ext i3
  have a3 := a3.ext i3
  have a2 := a2.ext i3
  have hC := hC.ext i3
  have hO := hO.ext i3
  have hS := Chg.refl [] p8
  refine x_p 0 (.pointer (some ⟨a0, 0, none⟩)) rfl (by kernel_rfl)  (fun _ => y_move rfl) (fun _ => hS) ?_
  refine x_p 1 (.pointer (some ⟨a0, 0, none⟩)) rfl (by kernel_rfl)  (fun _ => y_move rfl) (fun _ => hS) ?_
  refine x_p 2 (.pointer (some ⟨a0, 0, none⟩)) rfl (by kernel_rfl)  (fun _ => y_nilc rfl) (fun _ => hS) ?_
  refine x_p 3 (.pointer (some ⟨a0, 2, none⟩)) rfl (by kernel_rfl)  (fun _ => y_faddr rfl Fa58x2) (fun _ => hS) ?_
  refine x_l 4 (.slice h2 h3 h4) rfl (by kernel_rfl)  (fun w' hw' => y_load rfl ((box_load Ag56 Sz56 b2 [(.int .i64 a_.1), (.slice a9 b0 b1)] [(.slice h2 h3 h4)] [(.slice d4 d5 d6), (.slice b9 c0 c1), (.int .i64 0), (.int .i64 0)] rfl rfl (fun _ => rfl)) w' hw')) hS ?_
  refine x_p 5 (.pointer (some ⟨a0, 0, none⟩)) rfl (by kernel_rfl)  (fun _ => y_move rfl) (fun _ => hS) ?_
  refine x_p 6 (.pointer (some ⟨a0, 0, none⟩)) rfl (by kernel_rfl)  (fun _ => y_nilc rfl) (fun _ => hS) ?_
  refine x_p 7 (.pointer (some ⟨a0, 0, none⟩)) rfl (by kernel_rfl)  (fun _ => y_faddr rfl Fa58x0) (fun _ => hS) ?_
  refine x_l 8 (.int .i64 a_.1) rfl (by kernel_rfl)  (fun w' hw' => y_load rfl ((box_load Ag3 Sz3 b2 [] [(.int .i64 a_.1)] [(.slice a9 b0 b1), (.slice h2 h3 h4), (.slice d4 d5 d6), (.slice b9 c0 c1), (.int .i64 0), (.int .i64 0)] rfl rfl (fun _ => rfl)) w' hw')) hS ?_
  refine x_p 9 (.slice k8 k9 l0) rfl (by kernel_rfl)  (fun _ => y_move rfl) (fun _ => hS) ?_
  refine x_p 12 (.pointer (some ⟨a0, 0, none⟩)) rfl (by kernel_rfl)  (fun _ => y_move rfl) (fun _ => hS) ?_
  refine x_p 13 (.pointer (some ⟨a0, 0, none⟩)) rfl (by kernel_rfl)  (fun _ => y_nilc rfl) (fun _ => hS) ?_
  refine x_p 14 (.pointer (some ⟨a0, 0, none⟩)) rfl (by kernel_rfl)  (fun _ => y_faddr rfl Fa58x0) (fun _ => hS) ?_
  refine x_l 15 (.int .i64 a_.1) rfl (by kernel_rfl)  (fun w' hw' => y_load rfl ((box_load Ag3 Sz3 b2 [] [(.int .i64 a_.1)] [(.slice a9 b0 b1), (.slice h2 h3 h4), (.slice d4 d5 d6), (.slice b9 c0 c1), (.int .i64 0), (.int .i64 0)] rfl rfl (fun _ => rfl)) w' hw')) hS ?_
  refine x_one (i := 10) (by kernel_rfl) ?_
  obtain ⟨p9, h5, v5, q0, h6, q1⟩ := new_block p8 [(.int .i64 0), (.int .i64 1), (.int .i64 0)] 3
  refine xk_val (w' := p9) (b := false) (.slice (some ⟨h5, 0, none⟩) 3 3) rfl  (y_bslice rfl (by rw [v5, q0]; kernel_rfl)) rfl (fun _ => hS.ext h6) ?_
  have a1 := a1.ext h6
  have b2 := b2.cn h6
  have c6 := c6.ext h6
  have b5 := b5.ext h6
  have a3 := a3.ext h6
  have a2 := a2.ext h6
  have hC := hC.ext h6
  have hO := hO.new1 h6 q0 q1.lt
  have a6 := os_of_box (r := (RT.int .i64)) (M := (PastL M [] a4 a5 (a7 ++ ([])))) (css := [[(.int .i64 0)], [(.int .i64 1)], [(.int .i64 0)]]) (fps := [([] : List Nat), ([] : List Nat), ([] : List Nat)]) (xs := ([0, 1, 0] : List Int)) q1 ⟨⟨rfl, rfl⟩, ⟨⟨rfl, rfl⟩, ⟨⟨rfl, rfl⟩, trivial⟩⟩⟩ (Nat.le_of_ble_eq_true rfl) (List.nodup_cons.2 ⟨(fun h => nomatch h), List.nodup_nil⟩)
  have a6 : (RT.os 3 (RT.int .i64)).val (PastL M [] a4 a5 (a7 ++ ([]))) p9 (.slice (some ⟨h5, 0, none⟩) 3 3) [0, 1, 0] [h5] := a6
  have hS := hS.ext h6
  refine x_one (i := 11) (by kernel_rfl) ?_
  obtain ⟨r234, v6, hs⟩ := bind_some hs
  refine xk_call (b := false) rfl  Bd46 rfl (c_impl_valuesAt (M := (Less (PastL M [] a4 a5 (a7 ++ ([]))) ([h5]))) a_.1 x195 ([0, 1, 0]) (a2.sub Less.sub) (((Frz.os Frz.int)).val a6 Less.sub Less.not) hO.less.fut v6) rfl (by rintro _ _ _ ⟨v7, v8, v9, j0, rfl, e4, a8, q2⟩; exact hS.ext e4) ?_
  rintro _ C2 ⟨v7, v8, v9, j0, rfl, e4, a8, q2⟩
  have a1 := a1.ext e4
  have b2 := b2.cn e4
  have c6 := c6.ext e4
  have b5 := b5.ext e4
  have a3 := a3.ext e4
  have a2 := a2.ext e4
  have a6 := a6.ext e4
  have hC := hC.ext e4
  have hO := Own.join0 hO e4 q2
  have hO := hO.perm (R := j0 ++ (([h5]) ++ (j8 ++ (i2 ++ (f2 ++ (([a0]) ++ (b8 ++ ([])))))))) (by simp)
  have a8 := a8.free (M' := (PastL M [] a4 a5 (a7 ++ ([])))) (Free.os Free.int)
  have hS := hS.ext e4
  refine x_one (i := 16) (by kernel_rfl) ?_
  obtain ⟨r237, w1, hs⟩ := bind_some hs
  refine xk_call (b := false) rfl  Bd42 rfl (c_impl_firsts (M := (PastL M [] a4 a5 (a7 ++ ([])))) a_.1  hO.fut w1) rfl (by rintro _ _ _ ⟨w2, w3, w4, j9, rfl, e0, b3, q3⟩; exact hS.ext e0) ?_
  rintro _ C3 ⟨w2, w3, w4, j9, rfl, e0, b3, q3⟩
  have a1 := a1.ext e0
  have b2 := b2.cn e0
  have c6 := c6.ext e0
  have b5 := b5.ext e0
  have a3 := a3.ext e0
  have a2 := a2.ext e0
  have a6 := a6.ext e0
  have a8 := a8.ext e0
  have hC := hC.ext e0
  have hO := Own.join0 hO e0 q3
  have hO := hO.perm (R := j9 ++ (j0 ++ (([h5]) ++ (j8 ++ (i2 ++ (f2 ++ (([a0]) ++ (b8 ++ ([]))))))))) (by simp)
  have hS := hS.ext e0
  refine x_one (i := 17) (by kernel_rfl) ?_
  have hO := hO.fr1
  obtain ⟨r240, w5, hs⟩ := bind_some hs
  refine xk_call (b := false) rfl  Bd45 rfl (c_impl_sameList (M := (Less (Less (PastL M [] a4 a5 (a7 ++ ([]))) j0) j9)) r234 r237 ((((Frz.os Frz.int)).val a8 Less.sub Less.not).sub Less.sub) (((Frz.os Frz.int)).val (b3.sub Less.sub) Less.sub Less.not) (hO.less).less.fut w5) rfl (by rintro _ _ _ ⟨rfl, d7⟩; exact hS.ext d7) ?_
  rintro _ w6 ⟨rfl, d7⟩
  have a1 := a1.ext d7
  have b2 := b2.cn d7
  have c6 := c6.ext d7
  have b5 := b5.ext d7
  have a3 := a3.ext d7
  have a2 := a2.ext d7
  have a6 := a6.ext d7
  have a8 := a8.ext d7
  have b3 := b3.ext d7
  have hC := hC.ext d7
  have hO := hO.ext d7
  have hS := hS.ext d7
  refine x_one (i := 18) (by kernel_rfl) ?_
  obtain ⟨q4, n5, w7, q5, e1, q6⟩ := new_block w6 [(.bool r240)] 4
  refine xk_val (w' := q4) (b := false) (.slice (some ⟨n5, 0, none⟩) 1 1) rfl  (y_bslice rfl (by rw [w7, q5]; kernel_rfl)) rfl (fun _ => hS.ext e1) ?_
  have a1 := a1.ext e1
  have b2 := b2.cn e1
  have c6 := c6.ext e1
  have b5 := b5.ext e1
  have a3 := a3.ext e1
  have a2 := a2.ext e1
  have a6 := a6.ext e1
  have a8 := a8.ext e1
  have b3 := b3.ext e1
  have hC := hC.ext e1
  have hO := hO.new1 e1 q5 q6.lt
  have n6 := os_of_box (r := RT.bool) (M := (PastL M [] a4 a5 (a7 ++ ([])))) (css := [[(.bool r240)]]) (fps := [([] : List Nat)]) (xs := ([r240] : List Bool)) q6 ⟨⟨rfl, rfl⟩, trivial⟩ (Nat.le_of_ble_eq_true rfl) (List.nodup_cons.2 ⟨(fun h => nomatch h), List.nodup_nil⟩)
  have n6 : (RT.os 4 RT.bool).val (PastL M [] a4 a5 (a7 ++ ([]))) q4 (.slice (some ⟨n5, 0, none⟩) 1 1) [r240] [n5] := n6
  have hS := hS.ext e1
  refine x_one (i := 19) (by kernel_rfl) ?_
  obtain ⟨y244, w8, hs⟩ := bind_some hs
  have hO := hO.fr4
  obtain ⟨e5, e6, e7, w9, l1, x0, h7, x1, b4⟩ := app_os Rw56 w8 c6 n6 hO.inM (fun g hg hq => hO.apart g hq (mem_l hg))
  have i4 := os_block c6
  refine xk_val (w' := w9) (b := true) (.slice e5 e6 e7) rfl  (y_append rfl rfl (x0 _)) rfl (fun h => nomatch h) ?_
  have hO := hO.fr1
  have hO := hO.fr1
  have a1 := a1.ma h7 hO i4 (fun _ e => (mem_r (mem_r (mem_r (mem_r (mem_r (mem_r (mem_r (mem_l (e))))))))))
  have b2 := b2.ap h7 hO i4 (mem_r (mem_r (mem_r (mem_r (mem_r (mem_r (mem_l (List.mem_singleton.2 rfl))))))))
  have b5 := b5.ma h7 hO i4 (fun _ e => (mem_r (mem_r (mem_r (mem_r (mem_l (e)))))))
  have a3 := a3.ma h7 hO i4 (fun _ e => (mem_r (mem_r (mem_r (mem_r (mem_r (mem_l (e))))))))
  have a2 := a2.mt h7 hO i4
  have a6 := a6.ma h7 hO i4 (fun _ e => (mem_r (mem_r (mem_r (mem_l (e))))))
  have a8 := a8.ma h7 hO i4 (fun _ e => (mem_r (mem_l (e))))
  have b3 := b3.ma h7 hO i4 (fun _ e => (mem_r (mem_r (mem_l (e)))))
  have hC := hC.st h7 hO i4
  have hO := hO.eat h7 x1 (os_nodup b4) b4.fpl
  refine x_p 20 (.pointer (some ⟨a0, 0, none⟩)) rfl (by kernel_rfl)  (fun _ => y_nilc rfl) (fun h => nomatch h) ?_
  refine x_p 21 (.pointer (some ⟨a0, 2, none⟩)) rfl (by kernel_rfl)  (fun _ => y_faddr rfl Fa58x2) (fun h => nomatch h) ?_
  refine x_one (i := 22) (by kernel_rfl) ?_
  obtain ⟨m0, x2, h8, d0⟩ := box_store (P := Try.prog) b2 [(.int .i64 a_.1), (.slice a9 b0 b1)] [(.slice h2 h3 h4)] [(.slice d4 d5 d6), (.slice b9 c0 c1), (.int .i64 0), (.int .i64 0)] [(.slice e5 e6 e7)] rfl rfl (by intro u hu; simp only [List.mem_cons, List.not_mem_nil, or_false] at hu; rcases hu with rfl <;> rfl)
  refine xk_skip (w' := m0) (b := true) rfl (ys_store rfl rfl (x2 _ _ rfl Sz56)) rfl (fun h => nomatch h) ?_
  have hO := hO.fr6
  have a1 := a1.ma h8 hO same_ (fun _ e => (mem_r (mem_r (mem_r (mem_r (mem_r (mem_r (mem_l (e)))))))))
  have b5 := b5.ma h8 hO same_ (fun _ e => (mem_r (mem_r (mem_r (mem_r (mem_l (e)))))))
  have a3 := a3.ma h8 hO same_ (fun _ e => (mem_r (mem_r (mem_r (mem_r (mem_r (mem_l (e))))))))
  have a2 := a2.mt h8 hO same_
  have a6 := a6.ma h8 hO same_ (fun _ e => (mem_r (mem_r (mem_r (mem_l (e))))))
  have a8 := a8.ma h8 hO same_ (fun _ e => (mem_r (mem_l (e))))
  have b3 := b3.ma h8 hO same_ (fun _ e => (mem_r (mem_r (mem_l (e)))))
  have b4 := b4.ma h8 hO same_ (fun _ e => (mem_l (e)))
  have hC := hC.st h8 hO same_
  have hO := hO.ext h8
  have d0 : BoxV m0 a0 58 [(.int .i64 a_.1), (.slice a9 b0 b1), (.slice e5 e6 e7), (.slice d4 d5 d6), (.slice b9 c0 c1), (.int .i64 0), (.int .i64 0)] := d0
  refine x_end (by kernel_rfl) ?_
  clear hS
  refine c_seq ?_
  refine x_start [13, 16] Mx rfl ?_
  have e8 := Chg.drew m0
  generalize World.drew m0 = q7 at e8 ⊢
  have a1 := a1.ext e8
  have d0 := d0.cn e8
  have b5 := b5.ext e8
  have a3 := a3.ext e8
  have a2 := a2.ext e8
  have a6 := a6.ext e8
  have a8 := a8.ext e8
  have b3 := b3.ext e8
  have b4 := b4.ext e8
  have hC := hC.ext e8
  have hO := hO.ext e8
  have hS := Chg.refl [] q7
  refine x_p 0 (.pointer (some ⟨a0, 0, none⟩)) rfl (by kernel_rfl)  (fun _ => y_move rfl) (fun _ => hS) ?_
  refine x_p 1 (.pointer (some ⟨a0, 0, none⟩)) rfl (by kernel_rfl)  (fun _ => y_move rfl) (fun _ => hS) ?_
  refine x_p 2 (.pointer (some ⟨a0, 0, none⟩)) rfl (by kernel_rfl)  (fun _ => y_nilc rfl) (fun _ => hS) ?_
  refine x_p 3 (.pointer (some ⟨a0, 3, none⟩)) rfl (by kernel_rfl)  (fun _ => y_faddr rfl Fa58x3) (fun _ => hS) ?_
  refine x_l 4 (.slice d4 d5 d6) rfl (by kernel_rfl)  (fun w' hw' => y_load rfl ((box_load Ag47 Sz47 d0 [(.int .i64 a_.1), (.slice a9 b0 b1), (.slice e5 e6 e7)] [(.slice d4 d5 d6)] [(.slice b9 c0 c1), (.int .i64 0), (.int .i64 0)] rfl rfl (fun _ => rfl)) w' hw')) hS ?_
  refine x_p 5 (.pointer (some ⟨a0, 0, none⟩)) rfl (by kernel_rfl)  (fun _ => y_move rfl) (fun _ => hS) ?_
  refine x_p 6 (.pointer (some ⟨a0, 0, none⟩)) rfl (by kernel_rfl)  (fun _ => y_nilc rfl) (fun _ => hS) ?_
  refine x_p 7 (.pointer (some ⟨a0, 0, none⟩)) rfl (by kernel_rfl)  (fun _ => y_faddr rfl Fa58x0) (fun _ => hS) ?_
  refine x_l 8 (.int .i64 a_.1) rfl (by kernel_rfl)  (fun w' hw' => y_load rfl ((box_load Ag3 Sz3 d0 [] [(.int .i64 a_.1)] [(.slice a9 b0 b1), (.slice e5 e6 e7), (.slice d4 d5 d6), (.slice b9 c0 c1), (.int .i64 0), (.int .i64 0)] rfl rfl (fun _ => rfl)) w' hw')) hS ?_
  refine x_p 9 (.slice k8 k9 l0) rfl (by kernel_rfl)  (fun _ => y_move rfl) (fun _ => hS) ?_
  refine x_one (i := 10) (by kernel_rfl) ?_
  obtain ⟨q8, j1, x3, q9, e2, r0⟩ := new_block q7 [(.int .i64 0), (.int .i64 0), (.int .i64 1)] 3
  refine xk_val (w' := q8) (b := false) (.slice (some ⟨j1, 0, none⟩) 3 3) rfl  (y_bslice rfl (by rw [x3, q9]; kernel_rfl)) rfl (fun _ => hS.ext e2) ?_
  have a1 := a1.ext e2
  have d0 := d0.cn e2
  have b5 := b5.ext e2
  have a3 := a3.ext e2
  have a2 := a2.ext e2
  have a6 := a6.ext e2
  have a8 := a8.ext e2
  have b3 := b3.ext e2
  have b4 := b4.ext e2
  have hC := hC.ext e2
  have hO := hO.new1 e2 q9 r0.lt
  have b6 := os_of_box (r := (RT.int .i64)) (M := (PastL M [] a4 a5 (a7 ++ ([])))) (css := [[(.int .i64 0)], [(.int .i64 0)], [(.int .i64 1)]]) (fps := [([] : List Nat), ([] : List Nat), ([] : List Nat)]) (xs := ([0, 0, 1] : List Int)) r0 ⟨⟨rfl, rfl⟩, ⟨⟨rfl, rfl⟩, ⟨⟨rfl, rfl⟩, trivial⟩⟩⟩ (Nat.le_of_ble_eq_true rfl) (List.nodup_cons.2 ⟨(fun h => nomatch h), List.nodup_nil⟩)
  have b6 : (RT.os 3 (RT.int .i64)).val (PastL M [] a4 a5 (a7 ++ ([]))) q8 (.slice (some ⟨j1, 0, none⟩) 3 3) [0, 0, 1] [j1] := b6
  have hS := hS.ext e2
  refine x_one (i := 11) (by kernel_rfl) ?_
  obtain ⟨r263, x4, hs⟩ := bind_some hs
  refine xk_call (b := false) rfl  Bd46 rfl (c_impl_valuesAt (M := (Less (PastL M [] a4 a5 (a7 ++ ([]))) ([j1]))) a_.1 x195 ([0, 0, 1]) (a2.sub Less.sub) (((Frz.os Frz.int)).val b6 Less.sub Less.not) hO.less.fut x4) rfl (by rintro _ _ _ ⟨n7, n8, n9, l2, rfl, d1, k2, r1⟩; exact hS.ext d1) ?_
  rintro _ x5 ⟨n7, n8, n9, l2, rfl, d1, k2, r1⟩
  have a1 := a1.ext d1
  have d0 := d0.cn d1
  have b5 := b5.ext d1
  have a3 := a3.ext d1
  have a2 := a2.ext d1
  have a6 := a6.ext d1
  have a8 := a8.ext d1
  have b3 := b3.ext d1
  have b4 := b4.ext d1
  have b6 := b6.ext d1
  have hC := hC.ext d1
  have hO := Own.join0 hO d1 r1
  have hO := hO.perm (R := l2 ++ (([j1]) ++ (([a0]) ++ (l1 ++ (j0 ++ (j9 ++ (([h5]) ++ (i2 ++ (f2 ++ (b8 ++ ([]))))))))))) (by simp)
  have k2 := k2.free (M' := (PastL M [] a4 a5 (a7 ++ ([])))) (Free.os Free.int)
  have hS := hS.ext d1
  refine x_one (i := 12) (by kernel_rfl) ?_
  obtain ⟨r2, m1, x6, r3, d2, r4⟩ := new_block x5 [(.slice n7 n8 n9)] 37
  refine xk_val (w' := r2) (b := false) (.slice (some ⟨m1, 0, none⟩) 1 1) rfl  (y_bslice rfl (by rw [x6, r3]; kernel_rfl)) rfl (fun _ => hS.ext d2) ?_
  have a1 := a1.ext d2
  have d0 := d0.cn d2
  have b5 := b5.ext d2
  have a3 := a3.ext d2
  have a2 := a2.ext d2
  have a6 := a6.ext d2
  have a8 := a8.ext d2
  have b3 := b3.ext d2
  have b4 := b4.ext d2
  have b6 := b6.ext d2
  have k2 := k2.ext d2
  have hC := hC.ext d2
  have hO := hO.new1 d2 r3 r4.lt
  have hO := hO.perm (R := (m1 :: ((l2) ++ ([]))) ++ (([j1]) ++ (([a0]) ++ (l1 ++ (j0 ++ (j9 ++ (([h5]) ++ (i2 ++ (f2 ++ (b8 ++ ([]))))))))))) (by simp)
  have x7 := hO.nd
  have o0 := os_of_box (r := (RT.os 3 (RT.int .i64))) (M := (PastL M [] a4 a5 (a7 ++ ([])))) (css := [[(.slice n7 n8 n9)]]) (fps := [(l2 : List Nat)]) (xs := ([r263] : List (List Int))) r4 ⟨(os_unval k2), trivial⟩ (Nat.le_of_ble_eq_true rfl) x7
  have o0 : (RT.os 37 (RT.os 3 (RT.int .i64))).val (PastL M [] a4 a5 (a7 ++ ([]))) r2 (.slice (some ⟨m1, 0, none⟩) 1 1) [r263] (m1 :: ((l2) ++ ([]))) := o0
  have hS := hS.ext d2
  refine x_one (i := 13) (by kernel_rfl) ?_
  obtain ⟨y268, x8, hs⟩ := bind_some hs
  have hO := hO.fr7
  obtain ⟨j2, j3, j4, x9, o1, y0, g2, y1, c2⟩ := app_os Rw47 x8 b5 o0 hO.inM (fun g hg hq => hO.apart g hq (mem_l hg))
  have h9 := os_block b5
  refine xk_val (w' := x9) (b := true) (.slice j2 j3 j4) rfl  (y_append rfl rfl (y0 _)) rfl (fun h => nomatch h) ?_
  have hO := hO.fr1
  have hO := hO.fr1
  have a1 := a1.ma g2 hO h9 (fun _ e => (mem_r (mem_r (mem_r (mem_r (mem_r (mem_r (mem_r (mem_r (mem_l (e)))))))))))
  have d0 := d0.ap g2 hO h9 (mem_r (mem_r (mem_l (List.mem_singleton.2 rfl))))
  have a3 := a3.ma g2 hO h9 (fun _ e => (mem_r (mem_r (mem_r (mem_r (mem_r (mem_r (mem_r (mem_l (e))))))))))
  have a2 := a2.mt g2 hO h9
  have a6 := a6.ma g2 hO h9 (fun _ e => (mem_r (mem_r (mem_r (mem_r (mem_r (mem_r (mem_l (e)))))))))
  have a8 := a8.ma g2 hO h9 (fun _ e => (mem_r (mem_r (mem_r (mem_r (mem_l (e)))))))
  have b3 := b3.ma g2 hO h9 (fun _ e => (mem_r (mem_r (mem_r (mem_r (mem_r (mem_l (e))))))))
  have b4 := b4.ma g2 hO h9 (fun _ e => (mem_r (mem_r (mem_r (mem_l (e))))))
  have b6 := b6.ma g2 hO h9 (fun _ e => (mem_r (mem_l (e))))
  have hC := hC.st g2 hO h9
  have hO := hO.eat g2 y1 (os_nodup c2) c2.fpl
  refine x_p 14 (.pointer (some ⟨a0, 0, none⟩)) rfl (by kernel_rfl)  (fun _ => y_nilc rfl) (fun h => nomatch h) ?_
  refine x_p 15 (.pointer (some ⟨a0, 3, none⟩)) rfl (by kernel_rfl)  (fun _ => y_faddr rfl Fa58x3) (fun h => nomatch h) ?_
  refine x_one (i := 16) (by kernel_rfl) ?_
  obtain ⟨m2, y2, g3, d3⟩ := box_store (P := Try.prog) d0 [(.int .i64 a_.1), (.slice a9 b0 b1), (.slice e5 e6 e7)] [(.slice d4 d5 d6)] [(.slice b9 c0 c1), (.int .i64 0), (.int .i64 0)] [(.slice j2 j3 j4)] rfl rfl (by intro u hu; simp only [List.mem_cons, List.not_mem_nil, or_false] at hu; rcases hu with rfl <;> rfl)
  refine xk_skip (w' := m2) (b := true) rfl (ys_store rfl rfl (y2 _ _ rfl Sz47)) rfl (fun h => nomatch h) ?_
  have hO := hO.fr2
  have a1 := a1.ma g3 hO same_ (fun _ e => (mem_r (mem_r (mem_r (mem_r (mem_r (mem_r (mem_r (mem_l (e))))))))))
  have a3 := a3.ma g3 hO same_ (fun _ e => (mem_r (mem_r (mem_r (mem_r (mem_r (mem_r (mem_l (e)))))))))
  have a2 := a2.mt g3 hO same_
  have a6 := a6.ma g3 hO same_ (fun _ e => (mem_r (mem_r (mem_r (mem_r (mem_r (mem_l (e))))))))
  have a8 := a8.ma g3 hO same_ (fun _ e => (mem_r (mem_r (mem_r (mem_l (e))))))
  have b3 := b3.ma g3 hO same_ (fun _ e => (mem_r (mem_r (mem_r (mem_r (mem_l (e)))))))
  have b4 := b4.ma g3 hO same_ (fun _ e => (mem_r (mem_r (mem_l (e)))))
  have b6 := b6.ma g3 hO same_ (fun _ e => (mem_r (mem_l (e))))
  have c2 := c2.ma g3 hO same_ (fun _ e => (mem_l (e)))
  have hC := hC.st g3 hO same_
  have hO := hO.ext g3
  have d3 : BoxV m2 a0 58 [(.int .i64 a_.1), (.slice a9 b0 b1), (.slice e5 e6 e7), (.slice j2 j3 j4), (.slice b9 c0 c1), (.int .i64 0), (.int .i64 0)] := d3
  refine x_end (by kernel_rfl) ?_
  clear hS
  refine x_start [13, 16] Mx rfl ?_
  have e3 := Chg.drew m2
  generalize World.drew m2 = r5 at e3 ⊢
  have a1 := a1.ext e3
  have d3 := d3.cn e3
  have a3 := a3.ext e3
  have a2 := a2.ext e3
  have a6 := a6.ext e3
  have a8 := a8.ext e3
  have b3 := b3.ext e3
  have b4 := b4.ext e3
  have b6 := b6.ext e3
  have c2 := c2.ext e3
  have hC := hC.ext e3
  have hO := hO.ext e3
  have hS := Chg.refl [] r5
  refine x_p 0 (.pointer (some ⟨a0, 0, none⟩)) rfl (by kernel_rfl)  (fun _ => y_move rfl) (fun _ => hS) ?_
  refine x_p 1 (.pointer (some ⟨a0, 0, none⟩)) rfl (by kernel_rfl)  (fun _ => y_move rfl) (fun _ => hS) ?_
  refine x_p 2 (.pointer (some ⟨a0, 0, none⟩)) rfl (by kernel_rfl)  (fun _ => y_nilc rfl) (fun _ => hS) ?_
  refine x_p 3 (.pointer (some ⟨a0, 4, none⟩)) rfl (by kernel_rfl)  (fun _ => y_faddr rfl Fa58x4) (fun _ => hS) ?_
  refine x_l 4 (.slice b9 c0 c1) rfl (by kernel_rfl)  (fun w' hw' => y_load rfl ((box_load Ag47 Sz47 d3 [(.int .i64 a_.1), (.slice a9 b0 b1), (.slice e5 e6 e7), (.slice j2 j3 j4)] [(.slice b9 c0 c1)] [(.int .i64 0), (.int .i64 0)] rfl rfl (fun _ => rfl)) w' hw')) hS ?_
  refine x_p 5 (.pointer (some ⟨a0, 0, none⟩)) rfl (by kernel_rfl)  (fun _ => y_move rfl) (fun _ => hS) ?_
  refine x_p 6 (.pointer (some ⟨a0, 0, none⟩)) rfl (by kernel_rfl)  (fun _ => y_nilc rfl) (fun _ => hS) ?_
  refine x_p 7 (.pointer (some ⟨a0, 0, none⟩)) rfl (by kernel_rfl)  (fun _ => y_faddr rfl Fa58x0) (fun _ => hS) ?_
  refine x_l 8 (.int .i64 a_.1) rfl (by kernel_rfl)  (fun w' hw' => y_load rfl ((box_load Ag3 Sz3 d3 [] [(.int .i64 a_.1)] [(.slice a9 b0 b1), (.slice e5 e6 e7), (.slice j2 j3 j4), (.slice b9 c0 c1), (.int .i64 0), (.int .i64 0)] rfl rfl (fun _ => rfl)) w' hw')) hS ?_
  refine x_p 9 (.slice k8 k9 l0) rfl (by kernel_rfl)  (fun _ => y_move rfl) (fun _ => hS) ?_
  refine x_one (i := 10) (by kernel_rfl) ?_
  obtain ⟨r6, k3, y3, r8, d8, r9⟩ := new_block r5 [(.int .i64 0), (.int .i64 1), (.int .i64 1)] 3
  refine xk_val (w' := r6) (b := false) (.slice (some ⟨k3, 0, none⟩) 3 3) rfl  (y_bslice rfl (by rw [y3, r8]; kernel_rfl)) rfl (fun _ => hS.ext d8) ?_
  have a1 := a1.ext d8
  have d3 := d3.cn d8
  have a3 := a3.ext d8
  have a2 := a2.ext d8
  have a6 := a6.ext d8
  have a8 := a8.ext d8
  have b3 := b3.ext d8
  have b4 := b4.ext d8
  have b6 := b6.ext d8
  have c2 := c2.ext d8
  have hC := hC.ext d8
  have hO := hO.new1 d8 r8 r9.lt
  have g4 := os_of_box (r := (RT.int .i64)) (M := (PastL M [] a4 a5 (a7 ++ ([])))) (css := [[(.int .i64 0)], [(.int .i64 1)], [(.int .i64 1)]]) (fps := [([] : List Nat), ([] : List Nat), ([] : List Nat)]) (xs := ([0, 1, 1] : List Int)) r9 ⟨⟨rfl, rfl⟩, ⟨⟨rfl, rfl⟩, ⟨⟨rfl, rfl⟩, trivial⟩⟩⟩ (Nat.le_of_ble_eq_true rfl) (List.nodup_cons.2 ⟨(fun h => nomatch h), List.nodup_nil⟩)
  have g4 : (RT.os 3 (RT.int .i64)).val (PastL M [] a4 a5 (a7 ++ ([]))) r6 (.slice (some ⟨k3, 0, none⟩) 3 3) [0, 1, 1] [k3] := g4
  have hS := hS.ext d8
  refine x_one (i := 11) (by kernel_rfl) ?_
  obtain ⟨r275, y4, hs⟩ := bind_some hs
  refine xk_call (b := false) rfl  Bd46 rfl (c_impl_valuesAt (M := (Less (PastL M [] a4 a5 (a7 ++ ([]))) ([k3]))) a_.1 x195 ([0, 1, 1]) (a2.sub Less.sub) (((Frz.os Frz.int)).val g4 Less.sub Less.not) hO.less.fut y4) rfl (by rintro _ _ _ ⟨o2, o3, o4, l3, rfl, c7, k4, s0⟩; exact hS.ext c7) ?_
  rintro _ y5 ⟨o2, o3, o4, l3, rfl, c7, k4, s0⟩
  have a1 := a1.ext c7
  have d3 := d3.cn c7
  have a3 := a3.ext c7
  have a2 := a2.ext c7
  have a6 := a6.ext c7
  have a8 := a8.ext c7
  have b3 := b3.ext c7
  have b4 := b4.ext c7
  have b6 := b6.ext c7
  have c2 := c2.ext c7
  have g4 := g4.ext c7
  have hC := hC.ext c7
  have hO := Own.join0 hO c7 s0
  have hO := hO.perm (R := l3 ++ (([k3]) ++ (([a0]) ++ (o1 ++ (([j1]) ++ (l1 ++ (j0 ++ (j9 ++ (([h5]) ++ (f2 ++ (b8 ++ ([])))))))))))) (by simp)
  have k4 := k4.free (M' := (PastL M [] a4 a5 (a7 ++ ([])))) (Free.os Free.int)
  have hS := hS.ext c7
  refine x_one (i := 12) (by kernel_rfl) ?_
  obtain ⟨s1, m3, y6, s2, c8, s4⟩ := new_block y5 [(.slice o2 o3 o4)] 37
  refine xk_val (w' := s1) (b := false) (.slice (some ⟨m3, 0, none⟩) 1 1) rfl  (y_bslice rfl (by rw [y6, s2]; kernel_rfl)) rfl (fun _ => hS.ext c8) ?_
  have a1 := a1.ext c8
  have d3 := d3.cn c8
  have a3 := a3.ext c8
  have a2 := a2.ext c8
  have a6 := a6.ext c8
  have a8 := a8.ext c8
  have b3 := b3.ext c8
  have b4 := b4.ext c8
  have b6 := b6.ext c8
  have c2 := c2.ext c8
  have g4 := g4.ext c8
  have k4 := k4.ext c8
  have hC := hC.ext c8
  have hO := hO.new1 c8 s2 s4.lt
  have hO := hO.perm (R := (m3 :: ((l3) ++ ([]))) ++ (([k3]) ++ (([a0]) ++ (o1 ++ (([j1]) ++ (l1 ++ (j0 ++ (j9 ++ (([h5]) ++ (f2 ++ (b8 ++ ([])))))))))))) (by simp)
  have y7 := hO.nd
  have o5 := os_of_box (r := (RT.os 3 (RT.int .i64))) (M := (PastL M [] a4 a5 (a7 ++ ([])))) (css := [[(.slice o2 o3 o4)]]) (fps := [(l3 : List Nat)]) (xs := ([r275] : List (List Int))) s4 ⟨(os_unval k4), trivial⟩ (Nat.le_of_ble_eq_true rfl) y7
  have o5 : (RT.os 37 (RT.os 3 (RT.int .i64))).val (PastL M [] a4 a5 (a7 ++ ([]))) s1 (.slice (some ⟨m3, 0, none⟩) 1 1) [r275] (m3 :: ((l3) ++ ([]))) := o5
  have hS := hS.ext c8
  refine x_one (i := 13) (by kernel_rfl) ?_
  obtain ⟨y280, y8, hs⟩ := bind_some hs
  have hO := hO.fr9
  obtain ⟨m4, m5, m6, y9, z0, z1, e9, z2, l4⟩ := app_os Rw47 y8 a3 o5 hO.inM (fun g hg hq => hO.apart g hq (mem_l hg))
  have g5 := os_block a3
  refine xk_val (w' := y9) (b := true) (.slice m4 m5 m6) rfl  (y_append rfl rfl (z1 _)) rfl (fun h => nomatch h) ?_
  have hO := hO.fr1
  have hO := hO.fr1
  have a1 := a1.ma e9 hO g5 (fun _ e => (mem_r (mem_r (mem_r (mem_r (mem_r (mem_r (mem_r (mem_r (mem_r (mem_l (e))))))))))))
  have d3 := d3.ap e9 hO g5 (mem_r (mem_r (mem_l (List.mem_singleton.2 rfl))))
  have a2 := a2.mt e9 hO g5
  have a6 := a6.ma e9 hO g5 (fun _ e => (mem_r (mem_r (mem_r (mem_r (mem_r (mem_r (mem_r (mem_r (mem_l (e)))))))))))
  have a8 := a8.ma e9 hO g5 (fun _ e => (mem_r (mem_r (mem_r (mem_r (mem_r (mem_r (mem_l (e)))))))))
  have b3 := b3.ma e9 hO g5 (fun _ e => (mem_r (mem_r (mem_r (mem_r (mem_r (mem_r (mem_r (mem_l (e))))))))))
  have b4 := b4.ma e9 hO g5 (fun _ e => (mem_r (mem_r (mem_r (mem_r (mem_r (mem_l (e))))))))
  have b6 := b6.ma e9 hO g5 (fun _ e => (mem_r (mem_r (mem_r (mem_r (mem_l (e)))))))
  have c2 := c2.ma e9 hO g5 (fun _ e => (mem_r (mem_r (mem_r (mem_l (e))))))
  have g4 := g4.ma e9 hO g5 (fun _ e => (mem_r (mem_l (e))))
  have hC := hC.st e9 hO g5
  have hO := hO.eat e9 z2 (os_nodup l4) l4.fpl
  refine x_p 14 (.pointer (some ⟨a0, 0, none⟩)) rfl (by kernel_rfl)  (fun _ => y_nilc rfl) (fun h => nomatch h) ?_
  refine x_p 15 (.pointer (some ⟨a0, 4, none⟩)) rfl (by kernel_rfl)  (fun _ => y_faddr rfl Fa58x4) (fun h => nomatch h) ?_
  refine x_one (i := 16) (by kernel_rfl) ?_
  obtain ⟨s5, z3, f0, o6⟩ := box_store (P := Try.prog) d3 [(.int .i64 a_.1), (.slice a9 b0 b1), (.slice e5 e6 e7), (.slice j2 j3 j4)] [(.slice b9 c0 c1)] [(.int .i64 0), (.int .i64 0)] [(.slice m4 m5 m6)] rfl rfl (by intro u hu; simp only [List.mem_cons, List.not_mem_nil, or_false] at hu; rcases hu with rfl <;> rfl)
  refine xk_skip (w' := s5) (b := true) rfl (ys_store rfl rfl (z3 _ _ rfl Sz47)) rfl (fun h => nomatch h) ?_
  have hO := hO.fr2
  have a1 := a1.ma f0 hO same_ (fun _ e => (mem_r (mem_r (mem_r (mem_r (mem_r (mem_r (mem_r (mem_r (mem_l (e)))))))))))
  have a2 := a2.mt f0 hO same_
  have a6 := a6.ma f0 hO same_ (fun _ e => (mem_r (mem_r (mem_r (mem_r (mem_r (mem_r (mem_r (mem_l (e))))))))))
  have a8 := a8.ma f0 hO same_ (fun _ e => (mem_r (mem_r (mem_r (mem_r (mem_r (mem_l (e))))))))
  have b3 := b3.ma f0 hO same_ (fun _ e => (mem_r (mem_r (mem_r (mem_r (mem_r (mem_r (mem_l (e)))))))))
  have b4 := b4.ma f0 hO same_ (fun _ e => (mem_r (mem_r (mem_r (mem_r (mem_l (e)))))))
  have b6 := b6.ma f0 hO same_ (fun _ e => (mem_r (mem_r (mem_r (mem_l (e))))))
  have c2 := c2.ma f0 hO same_ (fun _ e => (mem_r (mem_r (mem_l (e)))))
  have g4 := g4.ma f0 hO same_ (fun _ e => (mem_r (mem_l (e))))
  have l4 := l4.ma f0 hO same_ (fun _ e => (mem_l (e)))
  have hC := hC.st f0 hO same_
  have hO := hO.ext f0
  have o6 : BoxV s5 a0 58 [(.int .i64 a_.1), (.slice a9 b0 b1), (.slice e5 e6 e7), (.slice j2 j3 j4), (.slice m4 m5 m6), (.int .i64 0), (.int .i64 0)] := o6
  refine x_end (by kernel_rfl) ?_
  clear hS
  refine c_region ?_
  refine pl_val (.int .i64 (w64 ((h1 : Int) + 1))) (y_add rfl rfl) ?_
  refine pl_val (.int .i64 (w64 ((h1 : Int) + 1))) (y_move rfl) ?_
  refine c_nil ?_
  cases hs
  have hO := hO.fr2
  have hO := hO.drop
  have hO := hO.fr3
  have hO := hO.drop
  have hO := hO.fr4
  have hO := hO.drop
  have hO := hO.fr4
  have hO := hO.drop
  have hO := hO.fr4
  have hO := hO.drop
  have hO := hO.fr4
  have hO := hO.fr1
  have hO := hO.fr2
  have hO := hO.fr3
  have hO := hO.fr4
  exact ⟨_, rfl, drop_cons_next hd, _, e5, e6, e7, l1, j2, j3, j4, o1, m4, m5, m6, z0, fr_ovl 123 ⟨rfl, rfl, rfl, congrArg (Value.int .i64) (w64_succ hlt (Int.natCast_nonneg _) (os_max a1)), trivial⟩, hC, hO, a1, o6, b4, c2, l4⟩
 ·skip
  have hO := hO.fr1
  have hO := hO.fr1
  have hO := hO.nil
  have hO := hO.nil
  have hO := hO.nil
  exact ⟨0, rfl, rfl, _, none, 0, 0, [], none, 0, 0, [], none, 0, 0, [], fr_ovl 123 ⟨rfl, rfl, rfl, rfl, trivial⟩, hC, hO, a1, b2, os_nil, os_nil, os_nil⟩
 cases o196 with
 | nx _ => exact True.intro
 | rt r_ =>
  have hs := after_rt hs
  intro p0 s8 hK
  cases hs
  exact hK
 | br s192 =>
  have hs := after_br hs
  rintro p0 b7 ⟨σ, f3, f4, f5, i6, f6, f7, f8, i7, f9, g0, g1, i9, rfl, hC, hO, a1, b2, c3, c4, c5⟩
  refine c_seq ?_
  refine x_start [13] Mx rfl ?_
  have j5 := Chg.drew b7
  generalize World.drew b7 = z4 at j5 ⊢
  have a1 := a1.ext j5
  have b2 := b2.cn j5
  have c3 := c3.ext j5
  have c4 := c4.ext j5
  have c5 := c5.ext j5
  have hC := hC.ext j5
  have hO := hO.ext j5
  have hS := Chg.refl [] z4
  refine x_p 0 (.pointer (some ⟨a0, 0, none⟩)) rfl (by kernel_rfl)  (fun _ => y_move rfl) (fun _ => hS) ?_
  refine x_p 1 (.pointer (some ⟨a0, 0, none⟩)) rfl (by kernel_rfl)  (fun _ => y_move rfl) (fun _ => hS) ?_
  refine x_p 2 (.pointer (some ⟨a0, 0, none⟩)) rfl (by kernel_rfl)  (fun _ => y_nilc rfl) (fun _ => hS) ?_
  refine x_p 3 (.pointer (some ⟨a0, 1, none⟩)) rfl (by kernel_rfl)  (fun _ => y_faddr rfl Fa58x1) (fun _ => hS) ?_
  refine x_l 4 (.slice a9 b0 b1) rfl (by kernel_rfl)  (fun w' hw' => y_load rfl ((box_load Ag47 Sz47 b2 [(.int .i64 a_.1)] [(.slice a9 b0 b1)] [(.slice f3 f4 f5), (.slice f6 f7 f8), (.slice f9 g0 g1), (.int .i64 0), (.int .i64 0)] rfl rfl (fun _ => rfl)) w' hw')) hS ?_
  refine x_p 5 (.pointer (some ⟨a0, 0, none⟩)) rfl (by kernel_rfl)  (fun _ => y_move rfl) (fun _ => hS) ?_
  refine x_p 6 (.pointer (some ⟨a0, 0, none⟩)) rfl (by kernel_rfl)  (fun _ => y_nilc rfl) (fun _ => hS) ?_
  refine x_p 7 (.pointer (some ⟨a0, 0, none⟩)) rfl (by kernel_rfl)  (fun _ => y_faddr rfl Fa58x0) (fun _ => hS) ?_
  refine x_l 8 (.int .i64 a_.1) rfl (by kernel_rfl)  (fun w' hw' => y_load rfl ((box_load Ag3 Sz3 b2 [] [(.int .i64 a_.1)] [(.slice a9 b0 b1), (.slice f3 f4 f5), (.slice f6 f7 f8), (.slice f9 g0 g1), (.int .i64 0), (.int .i64 0)] rfl rfl (fun _ => rfl)) w' hw')) hS ?_
  refine x_one (i := 9) (by kernel_rfl) ?_
  obtain ⟨r292, z5, hs⟩ := bind_some hs
  refine xk_call (b := false) rfl  Bd84 rfl (c_impl_projection (M := (PastL M [] a4 a5 (a7 ++ ([])))) a_.1 3 0  hO.fut z5) rfl (by rintro _ _ _ ⟨z6, z7, z8, l5, rfl, i0, d9, s6⟩; exact hS.ext i0) ?_
  rintro _ C4 ⟨z6, z7, z8, l5, rfl, i0, d9, s6⟩
  have a1 := a1.ext i0
  have b2 := b2.cn i0
  have c3 := c3.ext i0
  have c4 := c4.ext i0
  have c5 := c5.ext i0
  have hC := hC.ext i0
  have hO := Own.join0 hO i0 s6
  have hO := hO.perm (R := l5 ++ (i6 ++ (i7 ++ (i9 ++ (([a0]) ++ (b8 ++ ([]))))))) (by simp)
  have hS := hS.ext i0
  refine x_one (i := 10) (by kernel_rfl) ?_
  have hO := hO.fr5
  obtain ⟨r295, z9, hs⟩ := bind_some hs
  refine xk_call (b := false) rfl  Bd83 rfl (c_impl_patternAt (M := (Less (Less (PastL M [] a4 a5 (a7 ++ ([]))) b8) l5)) p24.1 r292 ((((Frz.os (Frz.rs Frz.int))).val a1 Less.sub Less.not).sub Less.sub) (((Frz.os Frz.int)).val (d9.sub Less.sub) Less.sub Less.not) (hO.less).less.fut z9) rfl (by rintro _ _ _ ⟨rfl, g6⟩; exact hS.ext g6) ?_
  rintro _ C5 ⟨rfl, g6⟩
  have a1 := a1.ext g6
  have b2 := b2.cn g6
  have c3 := c3.ext g6
  have c4 := c4.ext g6
  have c5 := c5.ext g6
  have d9 := d9.ext g6
  have hC := hC.ext g6
  have hO := hO.ext g6
  have hS := hS.ext g6
  refine x_p 11 (.pointer (some ⟨a0, 0, none⟩)) rfl (by kernel_rfl)  (fun _ => y_nilc rfl) (fun _ => hS) ?_
  refine x_p 12 (.pointer (some ⟨a0, 5, none⟩)) rfl (by kernel_rfl)  (fun _ => y_faddr rfl Fa58x5) (fun _ => hS) ?_
  refine x_one (i := 13) (by kernel_rfl) ?_
  obtain ⟨m7, A0, k0, g7⟩ := box_store (P := Try.prog) b2 [(.int .i64 a_.1), (.slice a9 b0 b1), (.slice f3 f4 f5), (.slice f6 f7 f8), (.slice f9 g0 g1)] [(.int .i64 0)] [(.int .i64 0)] [(.int .i64 r295)] rfl rfl (by intro u hu; simp only [List.mem_cons, List.not_mem_nil, or_false] at hu; rcases hu with rfl <;> rfl)
  refine xk_skip (w' := m7) (b := true) rfl (ys_store rfl rfl (A0 _ _ rfl Sz3)) rfl (fun h => nomatch h) ?_
  have hO := hO.fr5
  have a1 := a1.ma k0 hO same_ (fun _ e => (mem_l (e)))
  have c3 := c3.ma k0 hO same_ (fun _ e => (mem_r (mem_r (mem_l (e)))))
  have c4 := c4.ma k0 hO same_ (fun _ e => (mem_r (mem_r (mem_r (mem_l (e))))))
  have c5 := c5.ma k0 hO same_ (fun _ e => (mem_r (mem_r (mem_r (mem_r (mem_l (e)))))))
  have d9 := d9.ma k0 hO same_ (fun _ e => (mem_r (mem_l (e))))
  have hC := hC.st k0 hO same_
  have hO := hO.ext k0
  have g7 : BoxV m7 a0 58 [(.int .i64 a_.1), (.slice a9 b0 b1), (.slice f3 f4 f5), (.slice f6 f7 f8), (.slice f9 g0 g1), (.int .i64 r295), (.int .i64 0)] := g7
  refine x_end (by kernel_rfl) ?_
  clear hS
  refine c_seq ?_
  refine x_start [13] Mx rfl ?_
  have i5 := Chg.drew m7
  generalize World.drew m7 = A1 at i5 ⊢
  have a1 := a1.ext i5
  have g7 := g7.cn i5
  have c3 := c3.ext i5
  have c4 := c4.ext i5
  have c5 := c5.ext i5
  have d9 := d9.ext i5
  have hC := hC.ext i5
  have hO := hO.ext i5
  have hS := Chg.refl [] A1
  refine x_p 0 (.pointer (some ⟨a0, 0, none⟩)) rfl (by kernel_rfl)  (fun _ => y_move rfl) (fun _ => hS) ?_
  refine x_p 1 (.pointer (some ⟨a0, 0, none⟩)) rfl (by kernel_rfl)  (fun _ => y_move rfl) (fun _ => hS) ?_
  refine x_p 2 (.pointer (some ⟨a0, 0, none⟩)) rfl (by kernel_rfl)  (fun _ => y_nilc rfl) (fun _ => hS) ?_
  refine x_p 3 (.pointer (some ⟨a0, 1, none⟩)) rfl (by kernel_rfl)  (fun _ => y_faddr rfl Fa58x1) (fun _ => hS) ?_
  refine x_l 4 (.slice a9 b0 b1) rfl (by kernel_rfl)  (fun w' hw' => y_load rfl ((box_load Ag47 Sz47 g7 [(.int .i64 a_.1)] [(.slice a9 b0 b1)] [(.slice f3 f4 f5), (.slice f6 f7 f8), (.slice f9 g0 g1), (.int .i64 r295), (.int .i64 0)] rfl rfl (fun _ => rfl)) w' hw')) hS ?_
  refine x_p 5 (.pointer (some ⟨a0, 0, none⟩)) rfl (by kernel_rfl)  (fun _ => y_move rfl) (fun _ => hS) ?_
  refine x_p 6 (.pointer (some ⟨a0, 0, none⟩)) rfl (by kernel_rfl)  (fun _ => y_nilc rfl) (fun _ => hS) ?_
  refine x_p 7 (.pointer (some ⟨a0, 0, none⟩)) rfl (by kernel_rfl)  (fun _ => y_faddr rfl Fa58x0) (fun _ => hS) ?_
  refine x_l 8 (.int .i64 a_.1) rfl (by kernel_rfl)  (fun w' hw' => y_load rfl ((box_load Ag3 Sz3 g7 [] [(.int .i64 a_.1)] [(.slice a9 b0 b1), (.slice f3 f4 f5), (.slice f6 f7 f8), (.slice f9 g0 g1), (.int .i64 r295), (.int .i64 0)] rfl rfl (fun _ => rfl)) w' hw')) hS ?_
  refine x_one (i := 9) (by kernel_rfl) ?_
  obtain ⟨r299, A2, hs⟩ := bind_some hs
  refine xk_call (b := false) rfl  Bd84 rfl (c_impl_projection (M := (PastL M [] a4 a5 (a7 ++ ([])))) a_.1 3 2  hO.fut A2) rfl (by rintro _ _ _ ⟨A3, A4, A5, m8, rfl, g8, k5, s7⟩; exact hS.ext g8) ?_
  rintro _ C6 ⟨A3, A4, A5, m8, rfl, g8, k5, s7⟩
  have a1 := a1.ext g8
  have g7 := g7.cn g8
  have c3 := c3.ext g8
  have c4 := c4.ext g8
  have c5 := c5.ext g8
  have d9 := d9.ext g8
  have hC := hC.ext g8
  have hO := Own.join0 hO g8 s7
  have hO := hO.perm (R := m8 ++ (([a0]) ++ (b8 ++ (l5 ++ (i6 ++ (i7 ++ (i9 ++ ([])))))))) (by simp)
  have hS := hS.ext g8
  refine x_one (i := 10) (by kernel_rfl) ?_
  have hO := hO.fr2
  obtain ⟨r302, A6, hs⟩ := bind_some hs
  refine xk_call (b := false) rfl  Bd83 rfl (c_impl_patternAt (M := (Less (Less (PastL M [] a4 a5 (a7 ++ ([]))) b8) m8)) p24.1 r299 ((((Frz.os (Frz.rs Frz.int))).val a1 Less.sub Less.not).sub Less.sub) (((Frz.os Frz.int)).val (k5.sub Less.sub) Less.sub Less.not) (hO.less).less.fut A6) rfl (by rintro _ _ _ ⟨rfl, f1⟩; exact hS.ext f1) ?_
  rintro _ C7 ⟨rfl, f1⟩
  have a1 := a1.ext f1
  have g7 := g7.cn f1
  have c3 := c3.ext f1
  have c4 := c4.ext f1
  have c5 := c5.ext f1
  have d9 := d9.ext f1
  have k5 := k5.ext f1
  have hC := hC.ext f1
  have hO := hO.ext f1
  have hS := hS.ext f1
  refine x_p 11 (.pointer (some ⟨a0, 0, none⟩)) rfl (by kernel_rfl)  (fun _ => y_nilc rfl) (fun _ => hS) ?_
  refine x_p 12 (.pointer (some ⟨a0, 6, none⟩)) rfl (by kernel_rfl)  (fun _ => y_faddr rfl Fa58x6) (fun _ => hS) ?_
  refine x_one (i := 13) (by kernel_rfl) ?_
  obtain ⟨o7, A7, j6, o8⟩ := box_store (P := Try.prog) g7 [(.int .i64 a_.1), (.slice a9 b0 b1), (.slice f3 f4 f5), (.slice f6 f7 f8), (.slice f9 g0 g1), (.int .i64 r295)] [(.int .i64 0)] [] [(.int .i64 r302)] rfl rfl (by intro u hu; simp only [List.mem_cons, List.not_mem_nil, or_false] at hu; rcases hu with rfl <;> rfl)
  refine xk_skip (w' := o7) (b := true) rfl (ys_store rfl rfl (A7 _ _ rfl Sz3)) rfl (fun h => nomatch h) ?_
  have hO := hO.fr2
  have a1 := a1.ma j6 hO same_ (fun _ e => (mem_l (e)))
  have c3 := c3.ma j6 hO same_ (fun _ e => (mem_r (mem_r (mem_r (mem_l (e))))))
  have c4 := c4.ma j6 hO same_ (fun _ e => (mem_r (mem_r (mem_r (mem_r (mem_l (e)))))))
  have c5 := c5.ma j6 hO same_ (fun _ e => (mem_r (mem_r (mem_r (mem_r (mem_r (mem_l (e))))))))
  have d9 := d9.ma j6 hO same_ (fun _ e => (mem_r (mem_r (mem_l (e)))))
  have k5 := k5.ma j6 hO same_ (fun _ e => (mem_r (mem_l (e))))
  have hC := hC.st j6 hO same_
  have hO := hO.ext j6
  have o8 : BoxV o7 a0 58 [(.int .i64 a_.1), (.slice a9 b0 b1), (.slice f3 f4 f5), (.slice f6 f7 f8), (.slice f9 g0 g1), (.int .i64 r295), (.int .i64 r302)] := o8
  refine x_end (by kernel_rfl) ?_
  clear hS
  refine c_sr ?_
  refine pl_val (.pointer (some ⟨a0, 0, none⟩)) (y_move rfl) ?_
  refine pl_val (.pointer (some ⟨a0, 0, none⟩)) (y_assign rfl) ?_
  refine pl_val (.bool true) (y_assign rfl) ?_
  refine c_nil ?_
  refine wp_ret ?_
  have hO := hO.fr6
  have hO := hO.fr6
  have hO := hO.fr6
  have hO := hO.fr4
  have hO := hO.fr4
  have hO := hO.perm (R := (a0 :: (([] : List Nat) ++ (b8 ++ (i6 ++ (i7 ++ (i9 ++ (([] : List Nat) ++ ([] : List Nat)))))))) ++ (m8 ++ (l5 ++ ([])))) (by simp)
  have A8 : (RT.po 58 (RT.pr (RT.int .i64) (RT.pr (RT.os 37 (RT.rs (RT.int .i64))) (RT.pr (RT.os 4 RT.bool) (RT.pr (RT.os 37 (RT.os 3 (RT.int .i64))) (RT.pr (RT.os 37 (RT.os 3 (RT.int .i64))) (RT.pr (RT.int .i64) (RT.int .i64)))))))).val (PastL M [] a4 a5 (a7 ++ ([]))) o7 (.pointer (some ⟨a0, 0, none⟩)) (a_.1, p24.1, s192.1, s192.2.1, s192.2.2, r295, r302) (a0 :: (([] : List Nat) ++ (b8 ++ (i6 ++ (i7 ++ (i9 ++ (([] : List Nat) ++ ([] : List Nat)))))))) := po_shut o8 ⟨_, _, _, _, rfl, rfl, ⟨rfl, rfl⟩, ⟨_, _, _, _, rfl, rfl, (os_unval a1), ⟨_, _, _, _, rfl, rfl, (os_unval c3), ⟨_, _, _, _, rfl, rfl, (os_unval c4), ⟨_, _, _, _, rfl, rfl, (os_unval c5), ⟨_, _, _, _, rfl, rfl, ⟨rfl, rfl⟩, ⟨rfl, rfl⟩⟩⟩⟩⟩⟩⟩ hO.nd
  cases hs
  have hO := hO.fr1
  have hO := hO.drop
  have hO := hO.fr1
  have hO := hO.drop
  exact ⟨_, (.pointer (some ⟨a0, 0, none⟩)), (a0 :: (([] : List Nat) ++ (b8 ++ (i6 ++ (i7 ++ (i9 ++ (([] : List Nat) ++ ([] : List Nat)))))))), fr_ovl 123 ⟨rfl, rfl, trivial⟩, hC, (KeepsF.out hK hO.allM (op_some A8)), hO.top⟩

def k_impl_chainer__ops (M : Nat → Prop) (w0 : World) (r : (List (Int × (List Int)))) (a : Act) (w : World) : Prop :=
  ∃ (σ : Nat → Value) (ra0 : Option Addr) (rn0 rc0 : Nat) (rf0 : List Nat), a = fr 29 (ovl σ [(4, (.slice ra0 rn0 rc0))]) ∧ Chg [] w0 w ∧ (RT.os 64 (RT.pr (RT.int .i64) (RT.os 3 (RT.int .i64)))).val M w (.slice ra0 rn0 rc0) r rf0 ∧ Own (Nw w0 []) (fun _ => True) w (rf0 ++ ([]))
def s_impl_chainer__ops (places : List Int) (b0 : Int × (List (List Int)) × (List Bool) × (List (List Int)) × (List (List Int)) × Int × Int) : Option ((List (Int × (List Int)))) :=
  (forR (S := (List (Int × (List Int)))) (R := (List (Int × (List Int)))) (fun _ x27 s24 =>
  (idx b0.2.1 x27).bind fun x35 =>
  (s_impl_clone x35).bind fun r40 =>
  (app s24 ([(3, r40)])).bind fun y45 =>
  some (.nx y45)) 0 places ([])).bind fun o28 => after o28 (fun r_ => some r_) (fun s24 =>
  some s24)
set_option maxHeartbeats 4000000 in
theorem c_impl_chainer__ops {M : Nat → Prop} {w : World} {vg0 : Nat} {pa0 : Option Addr} {pn0 pc0 : Nat} {va0x1 : Option Addr} {vn0x1 vc0x1 : Nat} {va0x2 : Option Addr} {vn0x2 vc0x2 : Nat} {va0x3 : Option Addr} {vn0x3 vc0x3 : Nat} {va0x4 : Option Addr} {vn0x4 vc0x4 : Nat} (places : List Int) (b0 : Int × (List (List Int)) × (List Bool) × (List (List Int)) × (List (List Int)) × Int × Int) (h0 : (RT.rs (RT.int .i64)).val M w (.slice pa0 pn0 pc0) places ([])) (hb0 : RBox M w vg0 58 [(.int .i64 b0.1), (.slice va0x1 vn0x1 vc0x1), (.slice va0x2 vn0x2 vc0x2), (.slice va0x3 vn0x3 vc0x3), (.slice va0x4 vn0x4 vc0x4), (.int .i64 b0.2.2.2.2.2.1), (.int .i64 b0.2.2.2.2.2.2)]) (hl0x1 : (RT.rs (RT.rs (RT.int .i64))).val M w (.slice va0x1 vn0x1 vc0x1) b0.2.1 ([])) (hl0x2 : (RT.rs RT.bool).val M w (.slice va0x2 vn0x2 vc0x2) b0.2.2.1 ([])) (hl0x3 : (RT.rs (RT.rs (RT.int .i64))).val M w (.slice va0x3 vn0x3 vc0x3) b0.2.2.2.1 ([])) (hl0x4 : (RT.rs (RT.rs (RT.int .i64))).val M w (.slice va0x4 vn0x4 vc0x4) b0.2.2.2.2.1 ([])) (hM : ∀ g, w.heap.size ≤ g → M g) {r : (List (Int × (List Int)))} (hs : s_impl_chainer__ops places b0 = some r) :
    Gives Try.prog 85 [(.pointer (some ⟨vg0, 0, none⟩)), (.slice pa0 pn0 pc0)] w (fun v w' => ∃ (ra0 : Option Addr) (rn0 rc0 : Nat) (rf0 : List Nat), v = (.slice ra0 rn0 rc0) ∧ Chg [] w w' ∧ (RT.os 64 (RT.pr (RT.int .i64) (RT.os 3 (RT.int .i64)))).val M w' (.slice ra0 rn0 rc0) r rf0 ∧ Own (Nw w []) (fun _ => True) w' (rf0 ++ ([]))) := by
 refine calls_fr Try.func85 rfl Try.ntmps85 (Nat.le_of_ble_eq_true rfl) ?_
 have hO := Own.start (N := Nw w []) hM Nw.fut
 have hC := Chg.refl [] w
 unfold s_impl_chainer__ops at hs
 refine wp_mono (Q := KPost (k_impl_chainer__ops M w r)) ?_ (fun e a d8 h => ?_)
 rotate_left
 ·cases e
  case ret =>
   obtain ⟨σ, ra0, rn0, rc0, rf0, rfl, hrest⟩ := h
   exact ret1x Try.results85 (res_tmp rfl) ⟨ra0, rn0, rc0, rf0, rfl, hrest⟩
  all_goals exact (h : False).elim
 refine c_sr ?_
 refine pl_val (.slice none 0 0) (y_assign rfl) ?_
 refine c_nil ?_
 refine c_sr ?_
 obtain ⟨d2, b1, d9, d3, a5, d4⟩ := new_block w [] 64
 refine pl_val (w' := d2) (.slice (some ⟨b1, 0, none⟩) 0 0) (y_bslice rfl (by rw [d9, d3]; kernel_rfl)) ?_
 have h0 := h0.ext a5
 have hl0x1 := hl0x1.ext a5
 have hl0x2 := hl0x2.ext a5
 have hl0x3 := hl0x3.ext a5
 have hl0x4 := hl0x4.ext a5
 have hb0 := hb0.ext a5
 have hC := hC.ext a5
 have hO := hO.new1 a5 d3 d4.lt
 have c2 := os_of_box (r := (RT.pr (RT.int .i64) (RT.os 3 (RT.int .i64)))) (M := M) (css := []) (fps := []) (xs := ([] : List (Int × (List Int)))) d4 trivial (Nat.zero_le _) (List.nodup_cons.2 ⟨(fun h => nomatch h), List.nodup_nil⟩)
 have c2 : (RT.os 64 (RT.pr (RT.int .i64) (RT.os 3 (RT.int .i64)))).val M d2 (.slice (some ⟨b1, 0, none⟩) 0 0) [] [b1] := c2
 refine pl_val (.slice (some ⟨b1, 0, none⟩) 0 0) (y_assign rfl) ?_
 refine c_nil ?_
 refine c_seq ?_
 refine c_sr ?_
 refine pl_val (.slice pa0 pn0 pc0) (y_move rfl) ?_
 refine pl_val (.int .i64 (places.length : Int)) (y_len' Sl37 (rs_len h0) rfl) ?_
 refine pl_val (.int .i64 0) (y_move rfl) ?_
 refine c_nil ?_
 obtain ⟨o28, e0, hs⟩ := bind_some hs
 refine wp_block ?_
 refine wp_forR (id := 0) (I := fun i_ xs_ s24 a a0 => ∃ a3 : Nat, i_ = (a3 : Int) ∧ List.drop a3 places = xs_ ∧ (∃ (σ : Nat → Value) (b2 : Option Addr) (b3 : Nat) (b4 : Nat) (a9 : List Nat), a = fr 29 (ovl σ [(0, (.pointer (some ⟨vg0, 0, none⟩))), (5, (.slice b2 b3 b4)), (9, (.slice pa0 pn0 pc0)), (10, (.int .i64 (places.length : Int))), (11, (.int .i64 (a3 : Int)))]) ∧ Chg [] w a0 ∧ Own (Nw w []) M a0 (a9 ++ []) ∧ (RT.rs (RT.int .i64)).val M a0 (.slice pa0 pn0 pc0) places ([]) ∧ (RT.rs (RT.rs (RT.int .i64))).val M a0 (.slice va0x1 vn0x1 vc0x1) b0.2.1 ([]) ∧ (RT.rs RT.bool).val M a0 (.slice va0x2 vn0x2 vc0x2) b0.2.2.1 ([]) ∧ (RT.rs (RT.rs (RT.int .i64))).val M a0 (.slice va0x3 vn0x3 vc0x3) b0.2.2.2.1 ([]) ∧ (RT.rs (RT.rs (RT.int .i64))).val M a0 (.slice va0x4 vn0x4 vc0x4) b0.2.2.2.2.1 ([]) ∧ RBox M a0 vg0 58 [(.int .i64 b0.1), (.slice va0x1 vn0x1 vc0x1), (.slice va0x2 vn0x2 vc0x2), (.slice va0x3 vn0x3 vc0x3), (.slice va0x4 vn0x4 vc0x4), (.int .i64 b0.2.2.2.2.2.1), (.int .i64 b0.2.2.2.2.2.2)] ∧ (RT.os 64 (RT.pr (RT.int .i64) (RT.os 3 (RT.int .i64)))).val M a0 (.slice b2 b3 b4) s24 a9)) (J := fun s24 a a0 => ∃ (σ : Nat → Value) (b5 : Option Addr) (b6 : Nat) (b7 : Nat) (b9 : List Nat), a = fr 29 (ovl σ [(5, (.slice b5 b6 b7))]) ∧ Chg [] w a0 ∧ Own (Nw w []) M a0 (b9 ++ []) ∧ (RT.rs (RT.int .i64)).val M a0 (.slice pa0 pn0 pc0) places ([]) ∧ (RT.rs (RT.rs (RT.int .i64))).val M a0 (.slice va0x1 vn0x1 vc0x1) b0.2.1 ([]) ∧ (RT.rs RT.bool).val M a0 (.slice va0x2 vn0x2 vc0x2) b0.2.2.1 ([]) ∧ (RT.rs (RT.rs (RT.int .i64))).val M a0 (.slice va0x3 vn0x3 vc0x3) b0.2.2.2.1 ([]) ∧ (RT.rs (RT.rs (RT.int .i64))).val M a0 (.slice va0x4 vn0x4 vc0x4) b0.2.2.2.2.1 ([]) ∧ RBox M a0 vg0 58 [(.int .i64 b0.1), (.slice va0x1 vn0x1 vc0x1), (.slice va0x2 vn0x2 vc0x2), (.slice va0x3 vn0x3 vc0x3), (.slice va0x4 vn0x4 vc0x4), (.int .i64 b0.2.2.2.2.2.1), (.int .i64 b0.2.2.2.2.2.2)] ∧ (RT.os 64 (RT.pr (RT.int .i64) (RT.os 3 (RT.int .i64)))).val M a0 (.slice b5 b6 b7) s24 b9) (K := (k_impl_chainer__ops M w)) ?_ ?_ places 0 ([]) o28 _ _ ?_ e0 ?_
 ·rintro _ s24 a a0 ⟨a3, rfl, hd, σ, b2, b3, b4, a9, rfl, hC, hO, h0, hl0x1, hl0x2, hl0x3, hl0x4, hb0, a6⟩
  have hlt := drop_nil_ge hd
  refine c_sr ?_
  refine pl_val (.bool (decide ((a3 : Int) < (places.length : Int)))) (y_lss rfl rfl) ?_
  refine c_nil ?_
  refine c_seq ?_
  refine c_condF (congrArg Value.bool (decide_eq_false hlt)) ?_
  refine wp_exit ?_
  exact ⟨rfl, _, b2, b3, b4, a9, fr_ovl 29 ⟨rfl, trivial⟩, hC, hO, h0, hl0x1, hl0x2, hl0x3, hl0x4, hb0, a6⟩
 ·rintro _ x27 xs_ s24 o28 a a0 ⟨a3, rfl, hd, σ, b2, b3, b4, a9, rfl, hC, hO, h0, hl0x1, hl0x2, hl0x3, hl0x4, hb0, a6⟩ hs
  have hlt := drop_cons_lt hd
  have e1 := drop_cons_idx hd
  refine c_sr ?_
  refine pl_val (.bool (decide ((a3 : Int) < (places.length : Int)))) (y_lss rfl rfl) ?_
  refine c_nil ?_
  refine c_seq ?_
  refine c_condT (congrArg Value.bool (decide_eq_true hlt)) ?_
  refine wp_skip ?_
  refine c_seq ?_
  refine wp_block ?_
  refine c_sr ?_
  obtain ⟨e2, e3, e4, e5⟩ := rs_idx Sl37 Sz3 h0 e1
  refine pl_val (.pointer (some ⟨e2, e3, none⟩)) (e4 _ _ _ _ _ _ _ _ _ rfl rfl) ?_
  refine pl_val (.int .i64 x27) (y_load rfl ((at_load_int Ag3 Sz3 e5) _ (Chg.refl _ _))) ?_
  refine pl_val (.int .i64 x27) (y_assign rfl) ?_
  refine c_nil ?_
  refine c_region ?_
  refine pl_val (.slice b2 b3 b4) (y_move rfl) ?_
  refine pl_val (.pointer (some ⟨vg0, 0, none⟩)) (y_move rfl) ?_
  refine pl_val (.pointer (some ⟨vg0, 0, none⟩)) (y_nilc rfl) ?_
  refine pl_val (.pointer (some ⟨vg0, 1, none⟩)) (y_faddr rfl Fa58x1) ?_
  refine pl_val (.slice va0x1 vn0x1 vc0x1) (y_load rfl ((box_load Ag47 Sz47 hb0.1 [(.int .i64 b0.1)] [(.slice va0x1 vn0x1 vc0x1)] [(.slice va0x2 vn0x2 vc0x2), (.slice va0x3 vn0x3 vc0x3), (.slice va0x4 vn0x4 vc0x4), (.int .i64 b0.2.2.2.2.2.1), (.int .i64 b0.2.2.2.2.2.2)] rfl rfl (fun _ => rfl)) _ (Chg.refl _ _))) ?_
  refine pl_val (.int .i64 x27) (y_move rfl) ?_
  obtain ⟨x35, e6, hs⟩ := bind_some hs
  obtain ⟨e7, e8, e9, b8⟩ := rs_idx Sl47 Sz37 hl0x1 e6
  refine pl_val (.pointer (some ⟨e7, e8, none⟩)) (e9 _ _ _ _ _ _ _ _ _ rfl rfl) ?_
  obtain ⟨g6, f0, a7⟩ := at_load Ag37 Sz37 (fun _ => rfl) b8
  obtain ⟨f1, f2, f3, rfl⟩ := rs_sl a7
  refine pl_val (.slice f1 f2 f3) (y_load rfl (f0 _ (Chg.refl _ _))) ?_
  obtain ⟨r40, f4, hs⟩ := bind_some hs
  refine pl_call Bd113 rfl (c_impl_clone (M := M) x35 a7 hO.fut f4) ?_
  rintro _ f5 ⟨c3, c4, c5, c0, rfl, a2, c6, g7, f6⟩
  have h0 := h0.ext a2
  have hl0x1 := hl0x1.ext a2
  have hl0x2 := hl0x2.ext a2
  have hl0x3 := hl0x3.ext a2
  have hl0x4 := hl0x4.ext a2
  have hb0 := hb0.ext a2
  have a6 := a6.ext a2
  have a7 := a7.ext a2
  have b8 := at_ext b8 a2
  have hC := hC.ext a2
  have hO := Own.join0 hO a2 f6
  have hO := hO.perm (R := c0 ++ (a9 ++ ([]))) (by simp)
  refine pl_val (.agg #[(.int .i64 3), (.slice c3 c4 c5)]) (y_build rfl (by kernel_rfl)) ?_
  obtain ⟨d5, c1, f7, d6, a1, d7⟩ := new_block f5 [(.int .i64 3), (.slice c3 c4 c5)] 64
  refine pl_val (w' := d5) (.slice (some ⟨c1, 0, none⟩) 1 1) (y_bslice rfl (by rw [f7, d6]; kernel_rfl)) ?_
  have h0 := h0.ext a1
  have hl0x1 := hl0x1.ext a1
  have hl0x2 := hl0x2.ext a1
  have hl0x3 := hl0x3.ext a1
  have hl0x4 := hl0x4.ext a1
  have hb0 := hb0.ext a1
  have a6 := a6.ext a1
  have a7 := a7.ext a1
  have c6 := c6.ext a1
  have b8 := at_ext b8 a1
  have hC := hC.ext a1
  have hO := hO.new1 a1 d6 d7.lt
  have hO := hO.perm (R := (c1 :: ((c0) ++ ([]))) ++ (a9 ++ ([]))) (by simp)
  have f8 := hO.nd
  have c7 := os_of_box (r := (RT.pr (RT.int .i64) (RT.os 3 (RT.int .i64)))) (M := M) (css := [[(.int .i64 3), (.slice c3 c4 c5)]]) (fps := [(c0 : List Nat)]) (xs := ([(3, r40)] : List (Int × (List Int)))) d7 ⟨⟨_, _, _, _, rfl, rfl, ⟨rfl, rfl⟩, (os_unval c6)⟩, trivial⟩ (Nat.le_of_ble_eq_true rfl) f8
  have c7 : (RT.os 64 (RT.pr (RT.int .i64) (RT.os 3 (RT.int .i64)))).val M d5 (.slice (some ⟨c1, 0, none⟩) 1 1) [(3, r40)] (c1 :: ((c0) ++ ([]))) := c7
  obtain ⟨y45, f9, hs⟩ := bind_some hs
  have hO := hO.fr1
  obtain ⟨c8, c9, d0, g0, g1, g2, a4, g3, d1⟩ := app_os Rw26 f9 a6 c7 hO.inM (fun g hg hq => hO.apart g hq (mem_l hg))
  have a8 := os_block a6
  refine pl_val (w' := g0) (.slice c8 c9 d0) (y_append rfl rfl (g2 _)) ?_
  have hO := hO.fr1
  have hO := hO.fr1
  have h0 := h0.mt a4 hO a8
  have hl0x1 := hl0x1.mt a4 hO a8
  have hl0x2 := hl0x2.mt a4 hO a8
  have hl0x3 := hl0x3.mt a4 hO a8
  have hl0x4 := hl0x4.mt a4 hO a8
  have hb0 := hb0.mut a4 (fun q hq => hO.inM q (a8 q hq))
  have a7 := a7.mt a4 hO a8
  have hC := hC.st a4 hO a8
  have hO := hO.eat a4 g3 (os_nodup d1) d1.fpl
  refine pl_val (.slice c8 c9 d0) (y_assign rfl) ?_
  refine c_nil ?_
  refine c_region ?_
  refine pl_val (.int .i64 (w64 ((a3 : Int) + 1))) (y_add rfl rfl) ?_
  refine pl_val (.int .i64 (w64 ((a3 : Int) + 1))) (y_move rfl) ?_
  refine c_nil ?_
  cases hs
  exact ⟨_, rfl, drop_cons_next hd, _, c8, c9, d0, g1, fr_ovl 29 ⟨rfl, rfl, rfl, rfl, congrArg (Value.int .i64) (w64_succ hlt (Int.natCast_nonneg _) (rs_max h0)), trivial⟩, hC, hO, h0, hl0x1, hl0x2, hl0x3, hl0x4, hb0, d1⟩
 ·skip
  exact ⟨0, rfl, rfl, _, (some ⟨b1, 0, none⟩), 0, 0, ([b1]), fr_ovl 29 ⟨rfl, rfl, rfl, rfl, rfl, trivial⟩, hC, hO, h0, hl0x1, hl0x2, hl0x3, hl0x4, hb0, c2⟩
 cases o28 with
 | nx _ => exact True.intro
 | rt r_ =>
  have hs := after_rt hs
  intro g4 d8 hK
  cases hs
  exact hK
 | br s24 =>
  have hs := after_br hs
  rintro g4 a0 ⟨σ, b5, b6, b7, b9, rfl, hC, hO, h0, hl0x1, hl0x2, hl0x3, hl0x4, hb0, g5⟩
  refine c_sr ?_
  refine pl_val (.slice b5 b6 b7) (y_move rfl) ?_
  refine pl_val (.slice b5 b6 b7) (y_assign rfl) ?_
  refine c_nil ?_
  refine wp_ret ?_
  cases hs
  exact ⟨_, b5, b6, b7, b9, fr_ovl 29 ⟨rfl, trivial⟩, hC, g5, hO.top⟩

def k_impl_seconds (M : Nat → Prop) (w0 : World) (r : (List Int)) (a : Act) (w : World) : Prop :=
  ∃ (σ : Nat → Value) (ra0 : Option Addr) (rn0 rc0 : Nat) (rf0 : List Nat), a = fr 5 (ovl σ [(2, (.slice ra0 rn0 rc0))]) ∧ Chg [] w0 w ∧ (RT.os 3 (RT.int .i64)).val M w (.slice ra0 rn0 rc0) r rf0 ∧ Own (Nw w0 []) (fun _ => True) w (rf0 ++ ([]))
def s_impl_seconds (n : Int) : Option ((List Int)) :=
  (s_impl_projection n 2 1).bind fun r2 =>
  some r2
set_option maxHeartbeats 4000000 in
theorem c_impl_seconds {M : Nat → Prop} {w : World}  (n : Int)  (hM : ∀ g, w.heap.size ≤ g → M g) {r : (List Int)} (hs : s_impl_seconds n = some r) :
    Gives Try.prog 89 [(.int .i64 n)] w (fun v w' => ∃ (ra0 : Option Addr) (rn0 rc0 : Nat) (rf0 : List Nat), v = (.slice ra0 rn0 rc0) ∧ Chg [] w w' ∧ (RT.os 3 (RT.int .i64)).val M w' (.slice ra0 rn0 rc0) r rf0 ∧ Own (Nw w []) (fun _ => True) w' (rf0 ++ ([]))) := by
 refine calls_fr Try.func89 rfl Try.ntmps89 (Nat.le_of_ble_eq_true rfl) ?_
 have hO := Own.start (N := Nw w []) hM Nw.fut
 have hC := Chg.refl [] w
 unfold s_impl_seconds at hs
 refine wp_mono (Q := KPost (k_impl_seconds M w r)) ?_ (fun e a a5 h => ?_)
 rotate_left
 ·cases e
  case ret =>
   obtain ⟨σ, ra0, rn0, rc0, rf0, rfl, hrest⟩ := h
   exact ret1x Try.results89 (res_tmp rfl) ⟨ra0, rn0, rc0, rf0, rfl, hrest⟩
  all_goals exact (h : False).elim
 refine c_sr ?_
 refine pl_val (.slice none 0 0) (y_assign rfl) ?_
 refine c_nil ?_
 refine c_sr ?_
 refine pl_val (.int .i64 n) (y_move rfl) ?_
 obtain ⟨r2, a6, hs⟩ := bind_some hs
 refine pl_call Bd84 rfl (c_impl_projection (M := M) n 2 1  hO.fut a6) ?_
 rintro _ a5 ⟨a0, a1, a2, a3, rfl, a4, a7, a8⟩
 have hC := hC.ext a4
 have hO := Own.join0 hO a4 a8
 have hO := hO.perm (R := a3 ++ ([])) (by simp)
 refine pl_val (.slice a0 a1 a2) (y_assign rfl) ?_
 refine c_nil ?_
 refine wp_ret ?_
 cases hs
 exact ⟨_, a0, a1, a2, a3, fr_ovl 5 ⟨rfl, trivial⟩, hC, a7, hO.top⟩

theorem Ag105 : AggT Try.prog 105 true := fun _ => by kernel_rfl

theorem Sz105 : SzT Try.prog 105 4 := ⟨_, rfl, rfl⟩

def k_impl_chainer__direct (M : Nat → Prop) (w0 : World) (vg0 : Nat) (r : (Int × Unit × Unit × Unit)) (a : Act) (w : World) : Prop :=
  ∃ (σ : Nat → Value) (rg2 : Nat) (ng0 : Nat), a = fr 7 (ovl σ [(2, (.pointer (some ⟨rg2, 0, none⟩)))]) ∧ BoxV w rg2 105 [(.int .i64 r.1), (.func (.func 100) #[] #[(.pointer (some ⟨ng0, 0, none⟩))]), (.func (.func 101) #[] #[(.pointer (some ⟨ng0, 0, none⟩))]), (.func (.func 102) #[] #[(.pointer (some ⟨ng0, 0, none⟩))])] ∧ Chg [] w0 w ∧ BoxV w ng0 52 [(.pointer (some ⟨vg0, 0, none⟩))] ∧ Own (Nw w0 []) (fun _ => True) w ([ng0] ++ ([]))
def s_impl_chainer__direct (b0 : Int × (List (List Int)) × (List Bool) × (List (List Int)) × (List (List Int)) × Int × Int) : Option ((Int × Unit × Unit × Unit)) :=
  some (1, (), (), ())
set_option maxHeartbeats 4000000 in
theorem c_impl_chainer__direct {M : Nat → Prop} {w : World} {vg0 : Nat} {va0x1 : Option Addr} {vn0x1 vc0x1 : Nat} {va0x2 : Option Addr} {vn0x2 vc0x2 : Nat} {va0x3 : Option Addr} {vn0x3 vc0x3 : Nat} {va0x4 : Option Addr} {vn0x4 vc0x4 : Nat} (b0 : Int × (List (List Int)) × (List Bool) × (List (List Int)) × (List (List Int)) × Int × Int) (hb0 : RBox M w vg0 58 [(.int .i64 b0.1), (.slice va0x1 vn0x1 vc0x1), (.slice va0x2 vn0x2 vc0x2), (.slice va0x3 vn0x3 vc0x3), (.slice va0x4 vn0x4 vc0x4), (.int .i64 b0.2.2.2.2.2.1), (.int .i64 b0.2.2.2.2.2.2)]) (hl0x1 : (RT.rs (RT.rs (RT.int .i64))).val M w (.slice va0x1 vn0x1 vc0x1) b0.2.1 ([])) (hl0x2 : (RT.rs RT.bool).val M w (.slice va0x2 vn0x2 vc0x2) b0.2.2.1 ([])) (hl0x3 : (RT.rs (RT.rs (RT.int .i64))).val M w (.slice va0x3 vn0x3 vc0x3) b0.2.2.2.1 ([])) (hl0x4 : (RT.rs (RT.rs (RT.int .i64))).val M w (.slice va0x4 vn0x4 vc0x4) b0.2.2.2.2.1 ([])) (hM : ∀ g, w.heap.size ≤ g → M g) {r : (Int × Unit × Unit × Unit)} (hs : s_impl_chainer__direct b0 = some r) :
    Gives Try.prog 73 [(.pointer (some ⟨vg0, 0, none⟩))] w (fun v w' => ∃ (ng0 : Nat), v = (.agg #[(.int .i64 r.1), (.func (.func 100) #[] #[(.pointer (some ⟨ng0, 0, none⟩))]), (.func (.func 101) #[] #[(.pointer (some ⟨ng0, 0, none⟩))]), (.func (.func 102) #[] #[(.pointer (some ⟨ng0, 0, none⟩))])]) ∧ Chg [] w w' ∧ BoxV w' ng0 52 [(.pointer (some ⟨vg0, 0, none⟩))] ∧ Own (Nw w []) (fun _ => True) w' ([ng0] ++ ([]))) := by
 refine calls_fr Try.func73 rfl Try.ntmps73 (Nat.le_of_ble_eq_true rfl) ?_
 have hO := Own.start (N := Nw w []) hM Nw.fut
 have hC := Chg.refl [] w
 unfold s_impl_chainer__direct at hs
 refine wp_mono (Q := KPost (k_impl_chainer__direct M w vg0 r)) ?_ (fun e a b7 h => ?_)
 rotate_left
 ·cases e
  case ret =>
   obtain ⟨σ, rg2, ng0, rfl, hbrg2, hrest⟩ := h
   exact ret1x Try.results73 (res_cell rfl (box_load Ag105 Sz105 hbrg2 [] _ [] rfl rfl (fun h => nomatch h))) ⟨ng0, rfl, hrest⟩
  all_goals exact (h : False).elim
 refine c_sr ?_
 obtain ⟨a7, a0, b3, a8, a3, a4⟩ := new_block w [(.pointer (some ⟨vg0, 0, none⟩))] 52
 refine pl_val (w' := a7) (.pointer (some ⟨a0, 0, none⟩)) (y_box rfl (by rw [b3, a8]; kernel_rfl)) ?_
 have hl0x1 := hl0x1.ext a3
 have hl0x2 := hl0x2.ext a3
 have hl0x3 := hl0x3.ext a3
 have hl0x4 := hl0x4.ext a3
 have hb0 := hb0.ext a3
 have hC := hC.ext a3
 have hO := hO.new1 a3 a8 a4.lt
 obtain ⟨b4, a5, b5, a9, a1, b1⟩ := new_block a7 [(.int .i64 0), .nilFunc, .nilFunc, .nilFunc] 105
 refine pl_val (w' := b4) (.pointer (some ⟨a5, 0, none⟩)) (y_alloc (by rw [b5, a9]; kernel_rfl)) ?_
 have hl0x1 := hl0x1.ext a1
 have hl0x2 := hl0x2.ext a1
 have hl0x3 := hl0x3.ext a1
 have hl0x4 := hl0x4.ext a1
 have hb0 := hb0.ext a1
 have a4 := a4.cn a1
 have hC := hC.ext a1
 have hO := hO.new1 a1 a9 b1.lt
 refine c_nil ?_
 refine c_sr ?_
 refine pl_val (.func (.func 100) #[] #[(.pointer (some ⟨a0, 0, none⟩))]) (y_func rfl rfl) ?_
 refine pl_val (.func (.func 101) #[] #[(.pointer (some ⟨a0, 0, none⟩))]) (y_func rfl rfl) ?_
 refine pl_val (.func (.func 102) #[] #[(.pointer (some ⟨a0, 0, none⟩))]) (y_func rfl rfl) ?_
 refine pl_val (.agg #[(.int .i64 1), (.func (.func 100) #[] #[(.pointer (some ⟨a0, 0, none⟩))]), (.func (.func 101) #[] #[(.pointer (some ⟨a0, 0, none⟩))]), (.func (.func 102) #[] #[(.pointer (some ⟨a0, 0, none⟩))])]) (y_build rfl (by kernel_rfl)) ?_
 obtain ⟨b2, b6, a2, a6⟩ := box_store (P := Try.prog) b1 [] [(.int .i64 0), .nilFunc, .nilFunc, .nilFunc] [] [(.int .i64 1), (.func (.func 100) #[] #[(.pointer (some ⟨a0, 0, none⟩))]), (.func (.func 101) #[] #[(.pointer (some ⟨a0, 0, none⟩))]), (.func (.func 102) #[] #[(.pointer (some ⟨a0, 0, none⟩))])] rfl rfl (by intro u hu; simp only [List.mem_cons, List.not_mem_nil, or_false] at hu; rcases hu with rfl | rfl | rfl | rfl <;> rfl)
 refine pl_skip (w' := b2) (ys_store rfl rfl (b6 _ _ rfl Sz105)) ?_
 have hl0x1 := hl0x1.mt a2 hO same_
 have hl0x2 := hl0x2.mt a2 hO same_
 have hl0x3 := hl0x3.mt a2 hO same_
 have hl0x4 := hl0x4.mt a2 hO same_
 have hb0 := hb0.mut a2 (fun q hq => hO.inM q ((fun _ h => h) q hq))
 have a4 := a4.ap a2 hO same_ (mem_l (List.mem_singleton.2 rfl))
 have hC := hC.st a2 hO same_
 have hO := hO.ext a2
 have a6 : BoxV b2 a5 105 [(.int .i64 1), (.func (.func 100) #[] #[(.pointer (some ⟨a0, 0, none⟩))]), (.func (.func 101) #[] #[(.pointer (some ⟨a0, 0, none⟩))]), (.func (.func 102) #[] #[(.pointer (some ⟨a0, 0, none⟩))])] := a6
 refine c_nil ?_
 refine wp_ret ?_
 cases hs
 have hO := hO.drop
 exact ⟨_, a5, a0, fr_ovl 7 ⟨rfl, trivial⟩, a6, hC, a4, hO.top⟩

theorem Bd41 : Bodied Try.prog 41 := bodied Try.func41 (by kernel_rfl) rfl

theorem Bd73 : Bodied Try.prog 73 := bodied Try.func73 (by kernel_rfl) rfl

theorem Fa105x0 : ∀ (a : Addr) (w : World), (Instr.fieldAt 105 (.pointer (some a)) 0).run Try.prog w = .ok (.pointer (some (a.add 0))) w := fun _ _ => by kernel_rfl

theorem Fa105x2 : ∀ (a : Addr) (w : World), (Instr.fieldAt 105 (.pointer (some a)) 2).run Try.prog w = .ok (.pointer (some (a.add 2))) w := fun _ _ => by kernel_rfl

theorem Ag61 : AggT Try.prog 61 false := fun _ => by kernel_rfl

theorem Sz61 : SzT Try.prog 61 1 := ⟨_, rfl, rfl⟩

theorem Ag52 : AggT Try.prog 52 false := fun _ => by kernel_rfl

theorem Sz52 : SzT Try.prog 52 1 := ⟨_, rfl, rfl⟩

theorem Bd89 : Bodied Try.prog 89 := bodied Try.func89 (by kernel_rfl) rfl

end Go.Proofs
