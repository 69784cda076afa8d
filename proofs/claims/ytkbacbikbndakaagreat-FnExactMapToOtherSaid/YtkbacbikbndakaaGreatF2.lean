/- What functions of the program compute, as plain functions, and that a call gives just that. Conditions: those named in each theorem. -/
import Derived.Test.YtkbacbikbndakaaGreatF1
set_option linter.unusedVariables false
namespace Go.Proofs
open Go.G Go.RowKit
set_option maxRecDepth 100000
set_option maxHeartbeats 4000000

def WJ (M : Nat → Prop) (w0 : World) (r : (List Int)) (a : Act) (w : World) : Prop :=
  ∃ (σ : Nv) (ra0 : OA) (rn0 rc0 : Nat) (rf0 : List Nat), a = fr 27 (ovl σ [(6, (sv ra0 rn0 rc0))]) ∧ Chg [] w0 w ∧ (RT.os 3 ri).val M w (sv ra0 rn0 rc0) r rf0 ∧ Own (Nw w0 []) (fun _ => True) w (rf0 ++ [])
def yz (i : Int) (k : Int) (n : Int) : Option ((List Int)) :=
  (mks k (0 : Int)).bind fun y2 =>
  (iter (S := Int × Int × (List Int)) (R := (List Int)) (fun s17 =>
  (bif (decide (0 ≤ s17.2.1)) then (nz n).bind fun u26 =>
  (idx s17.2.2 s17.2.1).bind fun x27 =>
  (nz n).bind fun u30 =>
  some (.nx (w64 (Int.tdiv s17.1 n), w64 (s17.2.1 - 1), List.set s17.2.2 (Int.toNat s17.2.1) (Int.tmod s17.1 n))) else some (.br (s17.1, s17.2.1, s17.2.2)))) FU (i, w64 (k - 1), y2)).bind fun o21 => after o21 (fun r_ => some r_) (fun s17 =>
  some s17.2.2)
theorem wl {M : Nat → Prop} {w : World}  (i : Int) (k : Int) (n : Int) (hM : Hm w M) {r : (List Int)} (hs : yz i k n = some r) :
    Gives Tryz.prog 34 [(iv i), (iv k), (iv n)] w (fun v w' => ∃ (ra0 : OA) (rn0 rc0 : Nat) (rf0 : List Nat), v = (sv ra0 rn0 rc0) ∧ Chg [] w w' ∧ (RT.os 3 ri).val M w' (sv ra0 rn0 rc0) r rf0 ∧ Own (Nw w []) (fun _ => True) w' (rf0 ++ [])) := by
 refine zr Tryz.func34 rfl Tryz.ntmps34 (nl rfl) ?_
 have hO := Own.start (N := Nw w []) hM Nw.fut
 have hC := Chg.refl [] w
 unfold yz at hs
 refine wp_k (K := (WJ M w r)) (by rintro _ _ ⟨σ, ra0, rn0, rc0, rf0, rfl, hrest⟩; exact Za Tryz.results34 (zB rfl) ⟨ra0, rn0, rc0, rf0, rfl, hrest⟩) (c_sr (ax rfl (zb (c_sr (mi rfl ?_)))))
 obtain ⟨y2, b5, hs⟩ := bind_some hs
 obtain ⟨a0, a1, a2, a7, b6, b7, b1, b8, a8⟩ := YX (M := M) (w := w) (r := ri) Rw34 b5 (fun _ _ => ⟨rfl, rfl⟩)
 refine za (w' := a7) (sv a0 a1 a2) (yC rfl rfl b7) ?_
 have hC := hC.ext b1
 have hO := hO.new b1 b8 (zu a8) a8.fpl
 refine ax rfl (zb (zd (c_sr (mi rfl (za _ (ysu rfl rfl) (ai rfl (zb ?_)))))))
 obtain ⟨o21, b9, hs⟩ := bind_some hs
 refine wp_block (Zy (id := 0) (I := fun s17 a a3 => ∃ (σ : Nv) (a4 : List Nat), a = fr 27 (ovl σ [(0, (iv s17.1)), (2, (iv n)), (7, (sv a0 a1 a2)), (8, (iv s17.2.1))]) ∧ Chg [] w a3 ∧ Own (Nw w []) M a3 (a4 ++ []) ∧ (RT.os 3 ri).val M a3 (sv a0 a1 a2) s17.2.2 a4) (J := fun s17 a a3 => ∃ (σ : Nv) (a6 : List Nat), a = fr 27 (ovl σ [(7, (sv a0 a1 a2))]) ∧ Chg [] w a3 ∧ Own (Nw w []) M a3 (a6 ++ []) ∧ (RT.os 3 ri).val M a3 (sv a0 a1 a2) s17.2.2 a6) (K := (WJ M w)) ?_ FU (i, w64 (k - 1), y2) o21 _ _ ?_ b9 ?_)
 ·rintro s17 o21 a a3 ⟨σ, a4, rfl, hC, hO, a5⟩ hs
  refine zd (c_sr (mi rfl (za _ (Xs rfl rfl) (zb ?_))))
  rcases zf hs with ⟨a9, hs⟩ | ⟨a9, hs⟩
  ·refine zh (cb a9) (wp_skip (zd (wp_block (c_sr (ms rfl (mi rfl (mi rfl (mi rfl ?_))))))))
   obtain ⟨u26, c0, hs⟩ := bind_some hs
   refine za (iv (Int.tmod s17.1 n)) (y_rem rfl rfl (Us c0)) ?_
   obtain ⟨x27, c1, hs⟩ := bind_some hs
   obtain ⟨b2, d1, b3, c2, c3, d2, d3⟩ := zS Sl34 Sz3 a5 c1
   refine za _ (ip c3 rfl rfl) ?_
   obtain ⟨c4, c5, c6, b4, c7, b0⟩ := yH (P := Tryz.prog) (c' := [(iv (Int.tmod s17.1 n))]) b3 a5 c2 (fun g hg => hO.inM g (zC a5 g (by simpa using hg))) ⟨rfl, rfl⟩ List.nodup_nil (fun _ h => nomatch h) (fun _ h => .inl h)
   have c8 : ∀ q ∈ [b2], q ∈ a4 := fun q hq => zC a5 q (by rw [b3]; exact hq)
   refine Zh (w' := c4) (zY rfl rfl (c6 _ _ rfl Sz3)) ?_
   have hC := hC.st b4 hO c8
   have hO := hO.grow b4 (fun q hq => .inl ((c7 q hq).resolve_right (fun h => nomatch h))) (zu b0) b0.fpl
   refine zb (ze (mi rfl (mi rfl ?_)))
   obtain ⟨u30, c9, hs⟩ := bind_some hs
   refine za (iv (w64 (Int.tdiv s17.1 n))) (y_quo rfl rfl (Us c9)) (ai rfl (zb (ze (mi rfl (za _ (ysu rfl rfl) (ai rfl (zb ?_)))))))
   cases hs
   exact ⟨_, c5, fr_m 27 rfl, hC, hO, b0⟩
  refine zi (cb a9) (wp_exit ?_)
  cases hs
  exact ⟨rfl, _, a4, fr_m 27 rfl, hC, hO, a5⟩
 ·skip
  exact ⟨_, b6, fr_m 27 rfl, hC, hO, a8⟩
 cases o21 with
 | nx _ => exact True.intro
 | rt r_ =>
  have hs := zq hs
  intro a0 a7 hK
  cases hs
  exact hK
 | br s17 =>
  have hs := zp hs
  rintro a0 a3 ⟨σ, a6, rfl, hC, hO, d0⟩
  refine c_sr (ms rfl (ax rfl (zb (wp_ret ?_))))
  cases hs
  exact ⟨_, a0, a1, a2, a6, fr_m 27 rfl, hC, d0, hO.top⟩

def UY (M : Nat → Prop) (w0 : World) (r : (List Int)) (a : Act) (w : World) : Prop :=
  ∃ (σ : Nv) (ra0 : OA) (rn0 rc0 : Nat) (rf0 : List Nat), a = fr 6 (ovl σ [(2, (sv ra0 rn0 rc0))]) ∧ Chg [] w0 w ∧ (RT.os 3 ri).val M w (sv ra0 rn0 rc0) r rf0 ∧ Option.isNone ra0 = false ∧ Own (Nw w0 []) (fun _ => True) w (rf0 ++ [])
def yR (list : List Int) : Option ((List Int)) :=
  (app ([]) list).bind fun y5 =>
  some y5
theorem vF {M : Nat → Prop} {w : World} {pa0 : OA} {pn0 pc0 : Nat} (list : List Int) (h0 : rl.val M w (sv pa0 pn0 pc0) list []) (hM : Hm w M) {r : (List Int)} (hs : yR list = some r) :
    Gives Tryz.prog 86 [(sv pa0 pn0 pc0)] w (fun v w' => ∃ (ra0 : OA) (rn0 rc0 : Nat) (rf0 : List Nat), v = (sv ra0 rn0 rc0) ∧ Chg [] w w' ∧ (RT.os 3 ri).val M w' (sv ra0 rn0 rc0) r rf0 ∧ Option.isNone ra0 = false ∧ Own (Nw w []) (fun _ => True) w' (rf0 ++ [])) := by
 refine zr Tryz.func86 rfl Tryz.ntmps86 (nl rfl) ?_
 have hO := Own.start (N := Nw w []) hM Nw.fut
 have hC := Chg.refl [] w
 unfold yR at hs
 refine wp_k (K := (UY M w r)) (by rintro _ _ ⟨σ, ra0, rn0, rc0, rf0, rfl, hrest⟩; exact Za Tryz.results86 (zB rfl) ⟨ra0, rn0, rc0, rf0, rfl, hrest⟩) (c_sr (ax rfl (zb (c_sr ?_))))
 obtain ⟨a8, a1, b2, a9, a2, b0⟩ := zg w [] 3
 refine za (w' := a8) (sv (some ⟨a1, 0, none⟩) 0 0) (zz rfl (by rw [b2, a9]; kernel_rfl)) ?_
 obtain ⟨h0, hC⟩ := xt2 a2 h0 hC
 have hO := hO.new1 a2 a9 b0.lt
 have a0 := os0 (r := ri) (M := M) b0
 refine ms rfl ?_
 obtain ⟨y5, b3, hs⟩ := bind_some hs
 obtain ⟨a3, a4, a5, b4, b5, b6, a6, b7, a7, b8⟩ := app_rs_nn Rw34 b3 a0 h0 hO.inM
 have b1 := zC a0
 refine za (w' := b4) (sv a3 a4 a5) (zN rfl rfl (b6 _)) ?_
 have h0 := h0.mt a6 hO b1
 have hC := hC.st a6 hO b1
 have hO := hO.grow a6 b7 (zu a7) a7.fpl
 refine ax rfl (zb (wp_ret ?_))
 cases hs
 exact ⟨_, a3, a4, a5, b5, fr_m 6 rfl, hC, a7, b8, hO.top⟩

theorem Rw110 : RowT Tryz.prog 110 5 1 [(.int .u8 0)] := ⟨Tryz.underlying110, ⟨_, _, rfl, rfl, rfl, rfl, by decide⟩, rfl, by decide⟩

def vT (M : Nat → Prop) (w0 : World) (r : ByteArray) (a : Act) (w : World) : Prop :=
  ∃ (σ : Nv) , a = fr 27 (ovl σ [(2, (.string r))]) ∧ Chg [] w0 w
def ZC (list : List Int) : Option (ByteArray) :=
  (mkc 0 (w64 (2 * (list.length : Int)))).bind fun u3 =>
  (forR (S := (List Int)) (R := ByteArray) (fun _ x16 s13 =>
  (app s13 ([IntKind.u8.wrap (ishr .i64 x16 8), IntKind.u8.wrap x16])).bind fun y27 =>
  some (.nx y27)) 0 list (List.replicate (Int.toNat 0) (0 : Int))).bind fun o17 => after o17 (fun r_ => some r_) (fun s13 =>
  some (bstr s13))
theorem xc {M : Nat → Prop} {w : World} {pa0 : OA} {pn0 pc0 : Nat} (list : List Int) (h0 : rl.val M w (sv pa0 pn0 pc0) list []) (hM : Hm w M) {r : ByteArray} (hs : ZC list = some r) :
    Gives Tryz.prog 60 [(sv pa0 pn0 pc0)] w (fun v w' => v = (.string r) ∧ Chg [] w w') := by
 refine zr Tryz.func60 rfl Tryz.ntmps60 (nl rfl) ?_
 have hO := Own.start (N := Nw w []) hM Nw.fut
 have hC := Chg.refl [] w
 unfold ZC at hs
 refine wp_k (K := (vT M w r)) (by rintro _ _ ⟨σ, rfl, hrest⟩; exact Za Tryz.results60 (zB rfl) ⟨rfl, hrest⟩) (c_sr (za (.string ByteArray.empty) (zA rfl) (zb (c_sr (ms rfl (za _ (zn Sl34 (zt h0) rfl) (za _ (ymu rfl rfl) ?_)))))))
 obtain ⟨u3, c9, hs⟩ := bind_some hs
 obtain ⟨b1, b2, b3, d0, d1, d2, b4, d3, b5⟩ := zci (M := M) (w := w) (r := (RT.int .u8)) (x := (0 : Int)) Rw110 c9 (fun _ _ => ⟨rfl, rfl⟩)
 refine za (w' := d0) (sv b1 b2 b3) (yC rfl rfl d2) ?_
 obtain ⟨h0, hC⟩ := xt2 b4 h0 hC
 have hO := hO.new b4 d3 (zu b5) b5.fpl
 refine ax rfl (zb (zd (c_sr (ms rfl (za _ (zn Sl34 (zt h0) rfl) (mi rfl (zb ?_)))))))
 obtain ⟨o17, d4, hs⟩ := bind_some hs
 refine wp_block (YE (id := 0) (I := fun i_ xs_ s13 a a0 => ∃ a1 : Nat, i_ = (a1 : Int) ∧ List.drop a1 list = xs_ ∧ (∃ (σ : Nv) (a2 : OA) (a3 : Nat) (a4 : Nat) (a6 : List Nat), a = fr 27 (ovl σ [(3, (sv a2 a3 a4)), (10, (sv pa0 pn0 pc0)), (11, (iv (list.length : Int))), (12, (iv (a1 : Int)))]) ∧ Chg [] w a0 ∧ Own (Nw w []) M a0 (a6 ++ []) ∧ rl.val M a0 (sv pa0 pn0 pc0) list [] ∧ (RT.os 5 (RT.int .u8)).val M a0 (sv a2 a3 a4) s13 a6)) (J := fun s13 a a0 => ∃ (σ : Nv) (a7 : OA) (a8 : Nat) (a9 : Nat) (b6 : List Nat), a = fr 27 (ovl σ [(3, (sv a7 a8 a9))]) ∧ Chg [] w a0 ∧ Own (Nw w []) M a0 (b6 ++ []) ∧ rl.val M a0 (sv pa0 pn0 pc0) list [] ∧ (RT.os 5 (RT.int .u8)).val M a0 (sv a7 a8 a9) s13 b6) (K := (vT M w)) ?_ ?_ list 0 (List.replicate (Int.toNat 0) (0 : Int)) o17 _ _ ?_ d4 ?_)
 ·rintro _ s13 a a0 ⟨a1, rfl, hd, σ, a2, a3, a4, a6, rfl, hC, hO, h0, a5⟩
  have hlt := ZI hd
  refine c_sr (za _ (zw rfl rfl) (zb (zd (zi (df hlt) (wp_exit ?_)))))
  exact ⟨rfl, _, a2, a3, a4, a6, fr_m 27 rfl, hC, hO, h0, a5⟩
 ·rintro _ x16 xs_ s13 o17 a a0 ⟨a1, rfl, hd, σ, a2, a3, a4, a6, rfl, hC, hO, h0, a5⟩ hs
  have hlt := ZB hd
  have d5 := Zt hd
  refine c_sr (za _ (zw rfl rfl) (zb (zd (zh (dt hlt) (wp_skip (zd (wp_block (c_sr ?_))))))))
  obtain ⟨d6, d7, d8, d9⟩ := zK Sl34 Sz3 h0 d5
  refine za _ (ip d8 rfl rfl) (za (iv x16) (zo rfl ((zm Ag3 Sz3 d9) _ (Chg.refl _ _))) (ai rfl (zb (ze (ms rfl (mi rfl (za (iv (ishr .i64 x16 8)) (zbn rfl rfl (by decide)) (za (.int .u8 (IntKind.u8.wrap (ishr .i64 x16 8))) (Yr Tryz.underlying3 Tryz.underlying5 rfl) (mi rfl (za (.int .u8 (IntKind.u8.wrap x16)) (Yr Tryz.underlying3 Tryz.underlying5 rfl) ?_))))))))))
  obtain ⟨c4, b7, e0, c5, b0, c6⟩ := zg a0 [(.int .u8 (IntKind.u8.wrap (ishr .i64 x16 8))), (.int .u8 (IntKind.u8.wrap x16))] 5
  refine za (w' := c4) (sv (some ⟨b7, 0, none⟩) 2 2) (zz rfl (by rw [e0, c5]; kernel_rfl)) ?_
  obtain ⟨h0, a5, hC⟩ := xt3 b0 h0 a5 hC
  have hO := hO.new1 b0 c5 c6.lt
  have b8 := Zn (r := (RT.int .u8)) (M := M) (css := [[(.int .u8 (IntKind.u8.wrap (ishr .i64 x16 8)))], [(.int .u8 (IntKind.u8.wrap x16))]]) (fps := [([] : List Nat), ([] : List Nat)]) (xs := ([IntKind.u8.wrap (ishr .i64 x16 8), IntKind.u8.wrap x16] : List Int)) c6 ⟨⟨rfl, rfl⟩, ⟨⟨rfl, rfl⟩, trivial⟩⟩ (nl rfl) (List.nodup_cons.2 ⟨(fun h => nomatch h), List.nodup_nil⟩)
  have b8 : (RT.os 5 (RT.int .u8)).val M c4 (sv (some ⟨b7, 0, none⟩) 2 2) [IntKind.u8.wrap (ishr .i64 x16 8), IntKind.u8.wrap x16] [b7] := b8
  obtain ⟨y27, e1, hs⟩ := bind_some hs
  have hO := hO.fr1
  obtain ⟨b9, c0, c1, e2, e3, e4, c2, e5, c3⟩ := ya Rw110 e1 a5 b8 hO.inM (fun g hg hq => hO.apart g hq (zD hg))
  have c7 := zC a5
  refine za (w' := e2) (sv b9 c0 c1) (zN rfl rfl (e4 _)) ?_
  have hO := hO.fr1.fr1
  have h0 := h0.mt c2 hO c7
  have hC := hC.st c2 hO c7
  have hO := hO.eat c2 e5 (zu c3) c3.fpl
  refine ax rfl (zb (ze (za _ (yad rfl rfl) (mi rfl (zb ?_)))))
  cases hs
  exact ⟨_, rfl, Zk hd, _, b9, c0, c1, e3, zG 27 ⟨rfl, rfl, rfl, congrArg (Value.int .i64) (Yc hlt (Int.natCast_nonneg _) (Xo h0)), trivial⟩, hC, hO, h0, c3⟩
 ·skip
  exact ⟨0, rfl, rfl, _, b1, b2, b3, d1, fr_m 27 rfl, hC, hO, h0, b5⟩
 cases o17 with
 | nx _ => exact True.intro
 | rt r_ =>
  have hs := zq hs
  intro e6 c8 hK
  cases hs
  exact hK
 | br s13 =>
  have hs := zp hs
  rintro e6 a0 ⟨σ, a7, a8, a9, b6, rfl, hC, hO, h0, e7⟩
  refine c_sr (ms rfl (za (.string (bstr s13)) (y_str Tryz.underlying110 Tryz.underlying9 Tryz.underlying5 e7 rfl) (za (.string (bstr s13)) (zA rfl) (zb (wp_ret ?_)))))
  cases hs
  exact ⟨_, fr_m 27 rfl, hC⟩

theorem Va : ∀ (a : Addr) (w : World), (Instr.fieldAt 90 (.pointer (some a)) 3).run Tryz.prog w = .ok (.pointer (some (a.add 4))) w := fun _ _ => by kernel_rfl

theorem Ag88 : AggT Tryz.prog 88 false := fun _ => by kernel_rfl

theorem Sz88 : SzT Tryz.prog 88 1 := ⟨_, rfl, rfl⟩

theorem Bd60 : zF Tryz.prog 60 := zJ Tryz.func60 (by kernel_rfl) rfl

theorem Zv3 : ∀ w, (zeroValue 3).run Tryz.prog w = .ok ((Value.int .i64) 0) w := fun _ => by kernel_rfl

theorem YD : ∀ (a : Addr) (w : World), (Instr.fieldAt 90 (.pointer (some a)) 2).run Tryz.prog w = .ok (.pointer (some (a.add 3))) w := fun _ _ => by kernel_rfl

theorem Ag45 : AggT Tryz.prog 45 false := fun _ => by kernel_rfl

theorem Sz45 : SzT Tryz.prog 45 1 := ⟨_, rfl, rfl⟩

def Vu (M : Nat → Prop) (w0 : World) (vg0 : Nat) (pa0 : OA) (pn0 pc0 : Nat) (va0x1 : OA) (vn0x1 vc0x1 : Nat) (va0x3 : OA) (vn0x3 vc0x3 : Nat) (vf0x3 : List Nat) (vn0x4 : Nat) (vf0x4 : List Nat) (t : List Int) (b0 : Int × (List (Int × (List Int))) × Int × tM × (List (ByteArray × Int))) (r : tM × (List (ByteArray × Int))) (a : Act) (w : World) : Prop :=
  ∃ (σ : Nv) (oa0x3 : OA) (on0x3 : Nat) (oc0x3 : Nat) (of0x3 : List Nat) (on0x4 : Nat) (of0x4 : List Nat), a = fr 39 (ovl σ []) ∧ Chg ([vg0] ++ (vf0x3 ++ (vf0x4 ++ []))) w0 w ∧ BoxV w vg0 90 [(iv b0.1), (sv va0x1 vn0x1 vc0x1), (iv b0.2.2.1), (sv oa0x3 on0x3 oc0x3), (.map (some on0x4))] ∧ (RT.os 34 rl).val M w (sv oa0x3 on0x3 oc0x3) r.1 of0x3 ∧ (RT.mo (Value.int .i64)).val M w (.map (some on0x4)) r.2 of0x4 ∧ Own (Nw w0 ([vg0] ++ (vf0x3 ++ (vf0x4 ++ [])))) (fun _ => True) w ([vg0] ++ (of0x3 ++ (of0x4 ++ [])))
def yg (t : List Int) (b0 : Int × (List (Int × (List Int))) × Int × (List (List Int)) × (List (ByteArray × Int))) : Option ((List (List Int)) × (List (ByteArray × Int))) :=
  (ZC t).bind fun r11 =>
  (bif (!((mget b0.2.2.2.2 r11).isSome)) then (ZC t).bind fun r19 =>
  (app b0.2.2.2.1 ([t])).bind fun y24 =>
  some (y24, mput b0.2.2.2.2 r19 (b0.2.2.2.1.length : Int)) else some (b0.2.2.2.1, b0.2.2.2.2))
theorem wo {M : Nat → Prop} {w : World} {vg0 : Nat} {pa0 : OA} {pn0 pc0 : Nat} {va0x1 : OA} {vn0x1 vc0x1 : Nat} {va0x3 : OA} {vn0x3 vc0x3 : Nat} {vf0x3 : List Nat} {vn0x4 : Nat} {vf0x4 : List Nat} (t : List Int) (b0 : Int × (List (Int × (List Int))) × Int × tM × (List (ByteArray × Int))) (h0 : rl.val M w (sv pa0 pn0 pc0) t []) (hb0 : BoxV w vg0 90 [(iv b0.1), (sv va0x1 vn0x1 vc0x1), (iv b0.2.2.1), (sv va0x3 vn0x3 vc0x3), (.map (some vn0x4))]) (hl0x1 : rp.val M w (sv va0x1 vn0x1 vc0x1) b0.2.1 []) (hl0x3 : (RT.os 34 rl).val M w (sv va0x3 vn0x3 vc0x3) b0.2.2.2.1 vf0x3) (hl0x4 : (RT.mo (Value.int .i64)).val M w (.map (some vn0x4)) b0.2.2.2.2 vf0x4) (hI : Own (Nw w ([vg0] ++ (vf0x3 ++ (vf0x4 ++ [])))) M w ([vg0] ++ (vf0x3 ++ (vf0x4 ++ [])))) (hM : Hm w M) {r : tM × (List (ByteArray × Int))} (hs : yg t b0 = some r) :
    Gives Tryz.prog 85 [(pq vg0 0), (sv pa0 pn0 pc0)] w (fun v w' => ∃ (oa0x3 : OA) (on0x3 : Nat) (oc0x3 : Nat) (of0x3 : List Nat) (on0x4 : Nat) (of0x4 : List Nat), v = (.tuple #[]) ∧ Chg ([vg0] ++ (vf0x3 ++ (vf0x4 ++ []))) w w' ∧ BoxV w' vg0 90 [(iv b0.1), (sv va0x1 vn0x1 vc0x1), (iv b0.2.2.1), (sv oa0x3 on0x3 oc0x3), (.map (some on0x4))] ∧ (RT.os 34 rl).val M w' (sv oa0x3 on0x3 oc0x3) r.1 of0x3 ∧ (RT.mo (Value.int .i64)).val M w' (.map (some on0x4)) r.2 of0x4 ∧ Own (Nw w ([vg0] ++ (vf0x3 ++ (vf0x4 ++ [])))) (fun _ => True) w' ([vg0] ++ (of0x3 ++ (of0x4 ++ [])))) := by
 refine zr Tryz.func85 rfl Tryz.ntmps85 (nl rfl) ?_
 have hO := hI
 have hC := Chg.refl ([vg0] ++ (vf0x3 ++ (vf0x4 ++ []))) w
 unfold yg at hs
 refine wp_mono (Q := wO (Vu M w vg0 pa0 pn0 pc0 va0x1 vn0x1 vc0x1 va0x3 vn0x3 vc0x3 vf0x3 vn0x4 vf0x4 t b0 r)) ?_ (fun e a d7 h => ?_)
 rotate_left
 ·cases e
  case ret =>
   obtain ⟨σ, oa0x3, on0x3, oc0x3, of0x3, on0x4, of0x4, rfl, hrest⟩ := h
   exact vU Tryz.results85  ⟨oa0x3, on0x3, oc0x3, of0x3, on0x4, of0x4, rfl, hrest⟩
  case normal =>
   obtain ⟨σ, oa0x3, on0x3, oc0x3, of0x3, on0x4, of0x4, rfl, hrest⟩ := h
   exact vY Tryz.results85  ⟨oa0x3, on0x3, oc0x3, of0x3, on0x4, of0x4, rfl, hrest⟩
  all_goals exact (h : False).elim
 refine zd (zQ [] Mx rfl ?_)
 have a2 := Chg.drew w
 generalize World.drew w = c5 at a2 ⊢
 obtain ⟨h0, hl0x1, hl0x3, hl0x4, hb0, hC, hO⟩ := xt7 a2 h0 hl0x1 hl0x3 hl0x4 hb0 hC hO
 have hS := Chg.refl [] c5
 refine xmp 0 rfl rfl hS (xq 1 _ rfl (Zs rfl) hS (xq 2 (pq vg0 4) rfl (zk rfl Va) hS (xl 3 rfl (ldx rfl Ag88 Sz88 hb0 rfl) hS (xms 4 rfl rfl hS (zI (i := 5) (by kernel_rfl) ?_)))))
 obtain ⟨r11, c6, hs⟩ := bind_some hs
 refine zL (b := false) rfl Bd60 rfl (xc (M := M) t h0 hO.fut c6) rfl (by rintro _ _ _ ⟨rfl, a0⟩; exact hS.ext a0) ?_
 rintro _ b9 ⟨rfl, a0⟩
 obtain ⟨h0, hl0x1, hl0x3, hl0x4, hb0, hC, hO, hS⟩ := xt8 a0 h0 hl0x1 hl0x3 hl0x4 hb0 hC hO hS
 refine zI (i := 6) (by kernel_rfl) (zR (b := false) (.tuple #[(iv ((mget b0.2.2.2.2 r11).getD 0)), (.bool ((mget b0.2.2.2.2 r11).isSome))]) rfl (y_look2 (enc := (Value.int .i64)) Tryz.underlying88 Tryz.underlying9 Zv3 (mo_at hl0x4) rfl rfl) rfl (fun _ => hS) (xq 7 (.tuple #[(iv ((mget b0.2.2.2.2 r11).getD 0)), (.bool ((mget b0.2.2.2.2 r11).isSome))]) rfl (zx rfl) hS (xq 8 (iv ((mget b0.2.2.2.2 r11).getD 0)) rfl (zH rfl (by kernel_rfl)) hS (xq 9 (.bool ((mget b0.2.2.2.2 r11).isSome)) rfl (zH rfl (by kernel_rfl)) hS (xq 10 (iv ((mget b0.2.2.2.2 r11).getD 0)) rfl (zA rfl) hS (xq 11 (.bool ((mget b0.2.2.2.2 r11).isSome)) rfl (zA rfl) hS (xe ?_)))))))
 clear hS
 refine c_sr (mb rfl (za _ (ZA rfl) (zb ?_)))
 rcases zf hs with ⟨b5, hs⟩ | ⟨b5, hs⟩
 ·refine zh (cb b5) (zd (zQ [11] Mx rfl ?_))
  have a3 := Chg.drew b9
  generalize World.drew b9 = c7 at a3 ⊢
  obtain ⟨h0, hl0x1, hl0x3, hl0x4, hb0, hC, hO⟩ := xt7 a3 h0 hl0x1 hl0x3 hl0x4 hb0 hC hO
  have hS := Chg.refl [] c7
  refine xmp 0 rfl rfl hS (xq 1 _ rfl (Zs rfl) hS (xq 2 (pq vg0 4) rfl (zk rfl Va) hS (xl 3 rfl (ldx rfl Ag88 Sz88 hb0 rfl) hS (xms 4 rfl rfl hS (xmp 6 rfl rfl hS (xq 7 _ rfl (Zs rfl) hS (xq 8 (pq vg0 3) rfl (zk rfl YD) hS (xl 9 rfl (ldx rfl Ag45 Sz45 hb0 rfl) hS (xq 10 _ rfl (zn Sl45 (ZH hl0x3) rfl) hS (zI (i := 5) (by kernel_rfl) ?_))))))))))
  obtain ⟨r19, c8, hs⟩ := bind_some hs
  refine zL (b := false) rfl Bd60 rfl (xc (M := M) t h0 hO.fut c8) rfl (by rintro _ _ _ ⟨rfl, a1⟩; exact hS.ext a1) ?_
  rintro _ d8 ⟨rfl, a1⟩
  obtain ⟨h0, hl0x1, hl0x3, hl0x4, hb0, hC, hO, hS⟩ := xt8 a1 h0 hl0x1 hl0x3 hl0x4 hb0 hC hO hS
  refine zI (i := 11) (by kernel_rfl) ?_
  have hO := hO.fr2
  obtain ⟨c0, c9, a6, a4⟩ := mo_put (P := Tryz.prog) (t := 88) (key := r19) (x := (b0.2.2.2.1.length : Int)) Tryz.underlying88 Tryz.underlying9 hl0x4
  refine zat (w' := c0) (b := true) rfl (ys_put rfl rfl rfl c9) rfl (fun h => nomatch h) ?_
  have h0 := h0.mt a6 hO zl
  have hl0x1 := hl0x1.mt a6 hO zl
  have hl0x3 := hl0x3.ma a6 hO zl (fun _ e => (zj (zD (e))))
  have hb0 := hb0.ap a6 hO zl mS
  have hC := hC.st a6 hO zl
  have hO := hO.ext a6
  refine xe ?_
  clear hS
  refine ze (mp rfl (mp rfl (za _ (Zs rfl) (za (pq vg0 3) (zk rfl YD) (za _ (ld rfl Ag45 Sz45 hb0 rfl) (ms rfl ?_))))))
  obtain ⟨c1, b6, d0, c2, a5, c3⟩ := zg c0 [(sv pa0 pn0 pc0)] 34
  refine za (w' := c1) (sv (some ⟨b6, 0, none⟩) 1 1) (zz rfl (by rw [d0, c2]; kernel_rfl)) ?_
  obtain ⟨h0, hl0x1, hl0x3, a4, hb0, hC⟩ := xt6 a5 h0 hl0x1 hl0x3 a4 hb0 hC
  have hO := hO.new1 a5 c2 c3.lt
  have b7 := Zn (r := rl) (M := M) (css := [[(sv pa0 pn0 pc0)]]) (fps := [([] : List Nat)]) (xs := ([t] : tM)) c3 ⟨(yI h0), trivial⟩ (nl rfl) (List.nodup_cons.2 ⟨(fun h => nomatch h), List.nodup_nil⟩)
  have b7 : (RT.os 34 rl).val M c1 (sv (some ⟨b6, 0, none⟩) 1 1) [t] [b6] := b7
  obtain ⟨y24, d1, hs⟩ := bind_some hs
  have hO := hO.fr3
  obtain ⟨b2, b3, b4, d2, d3, d4, a7, d5, a9⟩ := ya Rw45 d1 hl0x3 b7 hO.inM (fun g hg hq => hO.apart g hq (zD hg))
  have b1 := zC hl0x3
  refine za (w' := d2) (sv b2 b3 b4) (zN rfl rfl (d4 _)) ?_
  have hO := hO.fr1.fr1
  have h0 := h0.mt a7 hO b1
  have hl0x1 := hl0x1.mt a7 hO b1
  have a4 := a4.ma a7 hO b1 (fun _ e => (zj (zD (e))))
  have hb0 := hb0.ap a7 hO b1 (zj (zj mS))
  have hC := hC.st a7 hO b1
  have hO := hO.eat a7 d5 (zu a9) a9.fpl
  refine za _ (Zs rfl) (za (pq vg0 3) (zk rfl YD) ?_)
  obtain ⟨c4, d6, a8, b8⟩ := Zx (P := Tryz.prog) hb0 [(iv b0.1), (sv va0x1 vn0x1 vc0x1), (iv b0.2.2.1)] [(sv va0x3 vn0x3 vc0x3)] [(.map (some vn0x4))] [(sv b2 b3 b4)] rfl rfl (oc rfl)
  refine Zh (w' := c4) (zY rfl rfl (d6 _ _ rfl Sz45)) ?_
  have hO := hO.fr2
  have h0 := h0.mt a8 hO zl
  have hl0x1 := hl0x1.mt a8 hO zl
  have a4 := a4.ma a8 hO zl (fun _ e => (zj (zD (e))))
  have a9 := a9.ma a8 hO zl (fun _ e => (zD (e)))
  have hC := hC.st a8 hO zl
  have hO := hO.ext a8
  have b8 : BoxV c4 vg0 90 [(iv b0.1), (sv va0x1 vn0x1 vc0x1), (iv b0.2.2.1), (sv b2 b3 b4), (.map (some vn0x4))] := b8
  refine zb ?_
  cases hs
  have hO := hO.fr2.fr2.fr2
  exact ⟨_, b2, b3, b4, d3, vn0x4, vf0x4, zG 39 trivial, hC, b8, a9, a4, hO.top⟩
 refine zi (cb b5) (wp_skip ?_)
 cases hs
 have hO := hO.fr2.fr2.fr2
 exact ⟨_, va0x3, vn0x3, vc0x3, vf0x3, vn0x4, vf0x4, zG 39 trivial, hC, hb0, hl0x3, hl0x4, hO.top⟩

def XZ (M : Nat → Prop) (w0 : World) (r : Int) (a : Act) (w : World) : Prop :=
  ∃ (σ : Nv) , a = fr 23 (ovl σ [(2, (iv r))]) ∧ Chg [] w0 w
def yM (a_ : Int × (List (Int × (List Int)))) : Option (Int) :=
  (forR (S := Int) (R := Int) (fun _ x11 s8 =>
  some (.nx (max s8 x11.1))) 0 a_.2 0).bind fun o12 => after o12 (fun r_ => some r_) (fun s8 =>
  (bif (s8 == 3) then some 40 else (bif (s8 == 2) then some 200 else some 300)))
theorem XS {M : Nat → Prop} {w : World} {pa0 : OA} {pn0 pc0 : Nat} (a_ : tA) (h0 : rp.val M w (sv pa0 pn0 pc0) a_.2 []) (hM : Hm w M) {r : Int} (hs : yM a_ = some r) :
    Gives Tryz.prog 87 [(.agg #[(iv a_.1), (sv pa0 pn0 pc0)])] w (fun v w' => v = (iv r) ∧ Chg [] w w') := by
 refine zr Tryz.func87 rfl Tryz.ntmps87 (nl rfl) ?_
 have hO := Own.start (N := Nw w []) hM Nw.fut
 have hC := Chg.refl [] w
 unfold yM at hs
 refine wp_k (K := (XZ M w r)) (by rintro _ _ ⟨σ, rfl, hrest⟩; exact Za Tryz.results87 (zB rfl) ⟨rfl, hrest⟩) (c_sr ?_)
 obtain ⟨c1, b4, c2, b5, a8, b6⟩ := zg w [(iv a_.1), (sv pa0 pn0 pc0)] 30
 refine za (w' := c1) (pq b4 0) (Zj rfl (by rw [c2, b5]; kernel_rfl)) ?_
 obtain ⟨h0, hC⟩ := xt2 a8 h0 hC
 have hO := hO.new1 a8 b5 b6.lt
 refine ai rfl (zb (c_sr (ai rfl (zb (zd (c_sr (za (pq b4 1) (zk rfl Zq) (za _ (ld rfl Ag28 Sz28 b6 rfl) (za _ (zn Sl28 (zt h0) rfl) (mi rfl (zb ?_)))))))))))
 have hO := hO.drop
 obtain ⟨o12, c3, hs⟩ := bind_some hs
 refine wp_block (YE (id := 0) (I := fun i_ xs_ s8 a a0 => ∃ a1 : Nat, i_ = (a1 : Int) ∧ List.drop a1 a_.2 = xs_ ∧ (∃ (σ : Nv), a = fr 23 (ovl σ [(3, (iv s8)), (7, (sv pa0 pn0 pc0)), (8, (iv (a_.2.length : Int))), (9, (iv (a1 : Int)))]) ∧ Chg [] w a0 ∧ Own (Nw w []) M a0 [] ∧ rp.val M a0 (sv pa0 pn0 pc0) a_.2 [])) (J := fun s8 a a0 => ∃ (σ : Nv), a = fr 23 (ovl σ [(3, (iv s8))]) ∧ Chg [] w a0 ∧ Own (Nw w []) M a0 [] ∧ rp.val M a0 (sv pa0 pn0 pc0) a_.2 []) (K := (XZ M w)) ?_ ?_ a_.2 0 0 o12 _ _ ?_ c3 ?_)
 ·rintro _ s8 a a0 ⟨a1, rfl, hd, σ, rfl, hC, hO, h0⟩
  have hlt := ZI hd
  refine c_sr (za _ (zw rfl rfl) (zb (zd (zi (df hlt) (wp_exit ?_)))))
  exact ⟨rfl, _, fr_m 23 rfl, hC, hO, h0⟩
 ·rintro _ x11 xs_ s8 o12 a a0 ⟨a1, rfl, hd, σ, rfl, hC, hO, h0⟩ hs
  have hlt := ZB hd
  have c4 := Zt hd
  refine c_sr (za _ (zw rfl rfl) (zb (zd (zh (dt hlt) (wp_skip (zd (wp_block (c_sr ?_))))))))
  obtain ⟨c5, c6, c7, a9⟩ := zK Sl28 Sz77 h0 c4
  refine za _ (ip c7 rfl rfl) ?_
  obtain ⟨d7, c8, c9⟩ := Zc Ag77 Sz77 (by intro h; cases h) a9
  obtain ⟨d8, rfl, d0⟩ := c9
  obtain ⟨d9, e0, rfl, d1, d2⟩ := Yn d0
  obtain rfl := Yx d1
  obtain ⟨a3, a4, a5, rfl, a6⟩ := YV d2
  refine za (.agg #[(iv x11.1), (sv a3 a4 a5)]) (zo rfl (c8 _ (Chg.refl _ _))) ?_
  obtain ⟨d3, b0, d4, b7, a2, b8⟩ := zg a0 [(iv 0), (sv none 0 0)] 77
  refine za (w' := d3) (pq b0 0) (YF (by rw [d4, b7]; kernel_rfl)) ?_
  obtain ⟨h0, a6, a9, hC⟩ := xt4 a2 h0 a6 a9 hC
  have hO := hO.new1 a2 b7 b8.lt
  obtain ⟨b9, d5, a7, b1⟩ := Zx (P := Tryz.prog) b8 [] [(iv 0), (sv none 0 0)] [] [(iv x11.1), (sv a3 a4 a5)] rfl rfl (oc rfl)
  refine Zh (w' := b9) (zY rfl rfl (d5 _ _ rfl Sz77)) ?_
  have h0 := h0.mt a7 hO zl
  have a6 := a6.mt a7 hO zl
  have hC := hC.st a7 hO zl
  have hO := hO.ext a7
  have b1 : BoxV b9 b0 77 [(iv x11.1), (sv a3 a4 a5)] := b1
  refine zb (ze (mi rfl (za (pq b0 0) (zk rfl ZP) (za _ (ld rfl Ag3 Sz3 b1 rfl) (za (iv (max s8 x11.1)) (y_max rfl rfl) (ai rfl (zb (ze (za _ (yad rfl rfl) (mi rfl (zb ?_)))))))))))
  cases hs
  have hO := hO.drop
  exact ⟨_, rfl, Zk hd, _, zG 23 ⟨rfl, rfl, rfl, congrArg (Value.int .i64) (Yc hlt (Int.natCast_nonneg _) (Xo h0)), trivial⟩, hC, hO, h0⟩
 ·skip
  exact ⟨0, rfl, rfl, _, fr_m 23 rfl, hC, hO, h0⟩
 cases o12 with
 | nx _ => exact True.intro
 | rt r_ =>
  have hs := zq hs
  intro d6 c0 hK
  cases hs
  exact hK
 | br s8 =>
  have hs := zp hs
  rintro d6 a0 ⟨σ, rfl, hC, hO, h0⟩
  refine zd (c_sr (mi rfl (zb (wp_block (c_sr (za (.bool (s8 == 3)) (xV rfl rfl) (ab rfl (zb ?_))))))))
  rcases zf hs with ⟨b2, hs⟩ | ⟨b2, hs⟩
  ·refine zh (cb b2) (c_sr (ai rfl (zb (wp_ret ?_))))
   cases hs
   exact ⟨_, fr_m 23 rfl, hC⟩
  refine zi (cb b2) (c_sr (za (.bool (s8 == 2)) (xV rfl rfl) (ab rfl (zb ?_))))
  rcases zf hs with ⟨b3, hs⟩ | ⟨b3, hs⟩
  ·refine zh (cb b3) (c_sr (ai rfl (zb (wp_ret ?_))))
   cases hs
   exact ⟨_, fr_m 23 rfl, hC⟩
  refine zi (cb b3) (wp_skip (c_sr (ai rfl (zb (wp_ret ?_)))))
  cases hs
  exact ⟨_, fr_m 23 rfl, hC⟩

def xw (M : Nat → Prop) (w0 : World) (r : (List Int)) (a : Act) (w : World) : Prop :=
  ∃ (σ : Nv) (ra0 : OA) (rn0 rc0 : Nat) (rf0 : List Nat), a = fr 47 (ovl σ [(8, (sv ra0 rn0 rc0))]) ∧ Chg [] w0 w ∧ (RT.os 3 ri).val M w (sv ra0 rn0 rc0) r rf0 ∧ Own (Nw w0 []) (fun _ => True) w (rf0 ++ [])
def yb (a_ : Int × (List (Int × (List Int)))) (f : Int × (List Int)) (k : Int) (tuples : List (List Int)) : Option ((List Int)) :=
  (mks k (0 : Int)).bind fun y7 =>
  (forC (S := (List Int)) (R := (List Int)) (fun k58 s56 =>
  (forR (S := Int) (R := (List Int)) (fun _ x74 s71 =>
  (idx x74 k58).bind fun x81 =>
  some (.nx (w64 ((w64 (s71 * a_.1)) + x81)))) 0 tuples 0).bind fun o75 => after o75 (fun r_ => some (.rt r_)) (fun s71 =>
  (idx f.2 s71).bind fun x83 =>
  (idx s56 k58).bind fun x85 =>
  some (.nx (List.set s56 (Int.toNat k58) x83)))) 0 (y7.length : Int) y7).bind fun o60 => after o60 (fun r_ => some r_) (fun s56 =>
  some s56)
theorem XF {M : Nat → Prop} {w : World} {pa0 : OA} {pn0 pc0 : Nat} {pa1 : OA} {pn1 pc1 : Nat} {pa2 : OA} {pn2 pc2 : Nat} (a_ : tA) (f : Int × (List Int)) (k : Int) (tuples : tM) (h0 : rp.val M w (sv pa0 pn0 pc0) a_.2 []) (h1 : rl.val M w (sv pa1 pn1 pc1) f.2 []) (h2 : rm.val M w (sv pa2 pn2 pc2) tuples []) (hM : Hm w M) {r : (List Int)} (hs : yb a_ f k tuples = some r) :
    Gives Tryz.prog 63 [(.agg #[(iv a_.1), (sv pa0 pn0 pc0)]), (.agg #[(iv f.1), (sv pa1 pn1 pc1)]), (iv k), (sv pa2 pn2 pc2)] w (fun v w' => ∃ (ra0 : OA) (rn0 rc0 : Nat) (rf0 : List Nat), v = (sv ra0 rn0 rc0) ∧ Chg [] w w' ∧ (RT.os 3 ri).val M w' (sv ra0 rn0 rc0) r rf0 ∧ Own (Nw w []) (fun _ => True) w' (rf0 ++ [])) := by
 refine zr Tryz.func63 rfl Tryz.ntmps63 (nl rfl) ?_
 have hO := Own.start (N := Nw w []) hM Nw.fut
 have hC := Chg.refl [] w
 unfold yb at hs
 refine wp_k (K := (xw M w r)) (by rintro _ _ ⟨σ, ra0, rn0, rc0, rf0, rfl, hrest⟩; exact Za Tryz.results63 (zB rfl) ⟨ra0, rn0, rc0, rf0, rfl, hrest⟩) (c_sr ?_)
 obtain ⟨c7, a8, d3, c8, b7, a0⟩ := zg w [(iv a_.1), (sv pa0 pn0 pc0)] 30
 refine za (w' := c7) (pq a8 0) (Zj rfl (by rw [d3, c8]; kernel_rfl)) ?_
 obtain ⟨h0, h1, h2, hC⟩ := xt4 b7 h0 h1 h2 hC
 have hO := hO.new1 b7 c8 a0.lt
 obtain ⟨c9, a9, d4, d0, b5, a2⟩ := zg c7 [(iv f.1), (sv pa1 pn1 pc1)] 77
 refine za (w' := c9) (pq a9 0) (Zj rfl (by rw [d4, d0]; kernel_rfl)) ?_
 obtain ⟨h0, h1, h2, a0, hC⟩ := xt5 b5 h0 h1 h2 a0 hC
 have hO := hO.new1 b5 d0 a2.lt
 refine ax rfl (zb (c_sr (mi rfl ?_)))
 obtain ⟨y7, d5, hs⟩ := bind_some hs
 obtain ⟨a4, a5, a6, d6, d7, d8, b3, d9, b8⟩ := YX (M := M) (w := c9) (r := ri) Rw34 d5 (fun _ _ => ⟨rfl, rfl⟩)
 refine za (w' := d6) (sv a4 a5 a6) (yC rfl rfl d8) ?_
 obtain ⟨h0, h1, h2, a0, a2, hC⟩ := xt6 b3 h0 h1 h2 a0 a2 hC
 have hO := hO.new b3 d9 (zu b8) b8.fpl
 refine ax rfl (zb (zd (c_sr (ms rfl (za _ (zn Sl34 (ZH b8) rfl) (mi rfl (zb ?_)))))))
 obtain ⟨o60, e0, hs⟩ := bind_some hs
 refine wp_block (zT (id := 0) (y7.length : Int) (I := fun k58 s56 a a3 => ∃ (σ : Nv) (b0 : List Nat), a = fr 47 (ovl σ [(3, (sv pa2 pn2 pc2)), (4, (pq a8 0)), (5, (pq a9 0)), (9, (sv a4 a5 a6)), (17, (iv (y7.length : Int))), (18, (iv k58))]) ∧ Chg [] w a3 ∧ Own (Nw w []) M a3 (b0 ++ ([a9] ++ ([a8] ++ []))) ∧ rp.val M a3 (sv pa0 pn0 pc0) a_.2 [] ∧ rl.val M a3 (sv pa1 pn1 pc1) f.2 [] ∧ rm.val M a3 (sv pa2 pn2 pc2) tuples [] ∧ BoxV a3 a8 30 [(iv a_.1), (sv pa0 pn0 pc0)] ∧ BoxV a3 a9 77 [(iv f.1), (sv pa1 pn1 pc1)] ∧ (RT.os 3 ri).val M a3 (sv a4 a5 a6) s56 b0) (J := fun s56 a a3 => ∃ (σ : Nv) (b9 : List Nat), a = fr 47 (ovl σ [(9, (sv a4 a5 a6))]) ∧ Chg [] w a3 ∧ Own (Nw w []) M a3 (b9 ++ ([a9] ++ ([a8] ++ []))) ∧ rp.val M a3 (sv pa0 pn0 pc0) a_.2 [] ∧ rl.val M a3 (sv pa1 pn1 pc1) f.2 [] ∧ rm.val M a3 (sv pa2 pn2 pc2) tuples [] ∧ BoxV a3 a8 30 [(iv a_.1), (sv pa0 pn0 pc0)] ∧ BoxV a3 a9 77 [(iv f.1), (sv pa1 pn1 pc1)] ∧ (RT.os 3 ri).val M a3 (sv a4 a5 a6) s56 b9) (K := (xw M w)) ?_ ?_ 0 y7 o60 _ _ ?_ e0 ?_)
 ·rintro k58 s56 a a3 ⟨σ, b0, rfl, hC, hO, h0, h1, h2, a0, a2, a7⟩ hlt
  refine c_sr (za _ (zw rfl rfl) (zb (zd (zi (df hlt) (wp_exit ?_)))))
  have hO := hO.fr2.fr2.fr2
  exact ⟨rfl, _, b0, fr_m 47 rfl, hC, hO, h0, h1, h2, a0, a2, a7⟩
 ·rintro k58 s56 o60 a a3 ⟨σ, b0, rfl, hC, hO, h0, h1, h2, a0, a2, a7⟩ hlt hw hs
  refine c_sr (za _ (zw rfl rfl) (zb (zd (zh (dt hlt) (wp_skip (zd (wp_block (c_sr (mi rfl (ai rfl (zb (c_sr (ai rfl (zb (zd (c_sr (ms rfl (za _ (zn Sl45 (zt h2) rfl) (mi rfl (zb ?_))))))))))))))))))))
  obtain ⟨o75, e1, hs⟩ := bind_some hs
  refine wp_block (YE (id := 2) (I := fun i_ xs_ s71 a a1 => ∃ b2 : Nat, i_ = (b2 : Int) ∧ List.drop b2 tuples = xs_ ∧ (∃ (σ : Nv), a = fr 47 (ovl σ [(3, (sv pa2 pn2 pc2)), (4, (pq a8 0)), (5, (pq a9 0)), (9, (sv a4 a5 a6)), (10, (iv k58)), (11, (iv s71)), (17, (iv (y7.length : Int))), (18, (iv k58)), (21, (sv pa2 pn2 pc2)), (22, (iv (tuples.length : Int))), (23, (iv (b2 : Int)))]) ∧ Chg [] w a1 ∧ Own (Nw w []) M a1 (b0 ++ ([a9] ++ ([a8] ++ []))) ∧ rp.val M a1 (sv pa0 pn0 pc0) a_.2 [] ∧ rl.val M a1 (sv pa1 pn1 pc1) f.2 [] ∧ rm.val M a1 (sv pa2 pn2 pc2) tuples [] ∧ BoxV a1 a8 30 [(iv a_.1), (sv pa0 pn0 pc0)] ∧ BoxV a1 a9 77 [(iv f.1), (sv pa1 pn1 pc1)] ∧ (RT.os 3 ri).val M a1 (sv a4 a5 a6) s56 b0)) (J := fun s71 a a1 => ∃ (σ : Nv), a = fr 47 (ovl σ [(3, (sv pa2 pn2 pc2)), (4, (pq a8 0)), (5, (pq a9 0)), (9, (sv a4 a5 a6)), (10, (iv k58)), (11, (iv s71)), (17, (iv (y7.length : Int))), (18, (iv k58))]) ∧ Chg [] w a1 ∧ Own (Nw w []) M a1 (b0 ++ ([a9] ++ ([a8] ++ []))) ∧ rp.val M a1 (sv pa0 pn0 pc0) a_.2 [] ∧ rl.val M a1 (sv pa1 pn1 pc1) f.2 [] ∧ rm.val M a1 (sv pa2 pn2 pc2) tuples [] ∧ BoxV a1 a8 30 [(iv a_.1), (sv pa0 pn0 pc0)] ∧ BoxV a1 a9 77 [(iv f.1), (sv pa1 pn1 pc1)] ∧ (RT.os 3 ri).val M a1 (sv a4 a5 a6) s56 b0) (K := (xw M w)) ?_ ?_ tuples 0 0 o75 _ _ ?_ e1 ?_)
  ·rintro _ s71 a a1 ⟨b2, rfl, hd, σ, rfl, hC, hO, h0, h1, h2, a0, a2, a7⟩
   have hlt := ZI hd
   refine c_sr (za _ (zw rfl rfl) (zb (zd (zi (df hlt) (wp_exit ?_)))))
   have hO := hO.fr2.fr2.fr2
   exact ⟨rfl, _, fr_m 47 rfl, hC, hO, h0, h1, h2, a0, a2, a7⟩
  ·rintro _ x74 xs_ s71 o75 a a1 ⟨b2, rfl, hd, σ, rfl, hC, hO, h0, h1, h2, a0, a2, a7⟩ hs
   have hlt := ZB hd
   have e2 := Zt hd
   refine c_sr (za _ (zw rfl rfl) (zb (zd (zh (dt hlt) (wp_skip (zd (wp_block (c_sr ?_))))))))
   obtain ⟨e3, e4, e5, e6⟩ := zK Sl45 Sz34 h2 e2
   refine za _ (ip e5 rfl rfl) ?_
   obtain ⟨g7, e7, c0⟩ := Zc Ag34 Sz34 (fun _ => rfl) e6
   obtain ⟨c1, c2, c3, rfl⟩ := yl c0
   refine za (sv c1 c2 c3) (zo rfl (e7 _ (Chg.refl _ _))) (ax rfl (zb (zQ [] Mx rfl ?_)))
   have b1 := Chg.drew a1
   generalize World.drew a1 = e8 at b1 ⊢
   obtain ⟨h0, h1, h2, a0, a2, a7, c0, hC⟩ := xt8 b1 h0 h1 h2 a0 a2 a7 c0 hC
   have hO := hO.ext b1
   have hS := Chg.refl [] e8
   refine xmi 0 rfl rfl hS (xq 1 (pq a8 0) rfl (zk rfl yO) hS (xl 2 rfl (ldx rfl Ag3 Sz3 a0 rfl) hS (xq 3 _ rfl (ymu rfl rfl) hS (xms 4 rfl rfl hS (xmi 5 rfl rfl hS ?_)))))
   obtain ⟨x81, e9, hs⟩ := bind_some hs
   obtain ⟨f0, f1, f2, f3⟩ := zK Sl34 Sz3 c0 e9
   refine xq 6 _ rfl (ip f2 rfl rfl) hS (x_l 7 (iv x81) rfl (by kernel_rfl) (fun w' hw' => zo rfl ((zm Ag3 Sz3 f3) w' hw')) hS (xq 8 _ rfl (yad rfl rfl) hS (xq 9 (iv (w64 ((w64 (s71 * a_.1)) + x81))) rfl (zA rfl) hS (xe ?_))))
   clear hS
   refine ze (za _ (yad rfl rfl) (mi rfl (zb ?_)))
   cases hs
   have hO := hO.fr2.fr2.fr2
   exact ⟨_, rfl, Zk hd, _, zG 47 ⟨rfl, rfl, rfl, rfl, rfl, rfl, rfl, rfl, rfl, rfl, congrArg (Value.int .i64) (Yc hlt (Int.natCast_nonneg _) (Xo h2)), trivial⟩, hC, hO, h0, h1, h2, a0, a2, a7⟩
  ·skip
   have hO := hO.fr2.fr2.fr2
   exact ⟨0, rfl, rfl, _, fr_m 47 rfl, hC, hO, h0, h1, h2, a0, a2, a7⟩
  cases o75 with
  | nx _ => exact True.intro
  | rt r_ =>
   have hs := zq hs
   intro c4 c6 hK
   cases hs
   exact hK
  | br s71 =>
   have hs := zp hs
   rintro c4 a1 ⟨σ, rfl, hC, hO, h0, h1, h2, a0, a2, a7⟩
   refine ze (ms rfl (mi rfl (za (pq a9 1) (zk rfl xA) (za _ (ld rfl Ag34 Sz34 a2 rfl) (mi rfl ?_)))))
   obtain ⟨x83, f4, hs⟩ := bind_some hs
   obtain ⟨f5, f6, f7, f8⟩ := zK Sl34 Sz3 h1 f4
   refine za _ (ip f7 rfl rfl) (za (iv x83) (zo rfl ((zm Ag3 Sz3 f8) _ (Chg.refl _ _))) ?_)
   obtain ⟨x85, f9, hs⟩ := bind_some hs
   obtain ⟨d1, g8, d2, g0, g1, g9, h3⟩ := zS Sl34 Sz3 a7 f9
   refine za _ (ip g1 rfl rfl) ?_
   obtain ⟨g2, g3, g4, b4, g5, c5⟩ := yH (P := Tryz.prog) (c' := [(iv x83)]) d2 a7 g0 (fun g hg => hO.inM g (zC a7 g (by simpa using hg))) ⟨rfl, rfl⟩ List.nodup_nil (fun _ h => nomatch h) (fun _ h => .inl h)
   have b6 : ∀ q ∈ [d1], q ∈ b0 := fun q hq => zC a7 q (by rw [d2]; exact hq)
   refine Zh (w' := g2) (zY rfl rfl (g4 _ _ rfl Sz3)) ?_
   have h0 := h0.mt b4 hO b6
   have h1 := h1.mt b4 hO b6
   have h2 := h2.mt b4 hO b6
   have a0 := a0.ap b4 hO b6 (zj mS)
   have a2 := a2.ap b4 hO b6 mS
   have hC := hC.st b4 hO b6
   have hO := hO.grow b4 (fun q hq => .inl ((g5 q hq).resolve_right (fun h => nomatch h))) (zu c5) c5.fpl
   refine zb (ze (za _ (yad rfl rfl) (mi rfl (zb ?_))))
   cases hs
   have hO := hO.fr2.fr2.fr2
   exact ⟨_, g3, zG 47 ⟨rfl, rfl, rfl, rfl, rfl, congrArg (Value.int .i64) hw, trivial⟩, hC, hO, h0, h1, h2, a0, a2, c5⟩
 ·skip
  have hO := hO.fr2.fr2.fr2
  exact ⟨_, d7, fr_m 47 rfl, hC, hO, h0, h1, h2, a0, a2, b8⟩
 cases o60 with
 | nx _ => exact True.intro
 | rt r_ =>
  have hs := zq hs
  intro c4 c6 hK
  cases hs
  exact hK
 | br s56 =>
  have hs := zp hs
  rintro c4 a3 ⟨σ, b9, rfl, hC, hO, h0, h1, h2, a0, a2, g6⟩
  refine c_sr (ms rfl (ax rfl (zb (wp_ret ?_))))
  cases hs
  have hO := hO.fr1.drop.fr1.drop
  exact ⟨_, a4, a5, a6, b9, fr_m 47 rfl, hC, g6, hO.top⟩

theorem Vr : ∀ (a : Addr) (w : World), (Instr.fieldAt 90 (.pointer (some a)) 0).run Tryz.prog w = .ok (.pointer (some (a.add 0))) w := fun _ _ => by kernel_rfl

theorem Fa90x1 : ∀ (a : Addr) (w : World), (Instr.fieldAt 90 (.pointer (some a)) 1).run Tryz.prog w = .ok (.pointer (some (a.add 2))) w := fun _ _ => by kernel_rfl

theorem Bd63 : zF Tryz.prog 63 := zJ Tryz.func63 (by kernel_rfl) rfl

theorem Bd85 : zF Tryz.prog 85 := zJ Tryz.func85 (by kernel_rfl) rfl

theorem Bd87 : zF Tryz.prog 87 := zJ Tryz.func87 (by kernel_rfl) rfl

theorem Bd88 : zF Tryz.prog 88 := zJ Tryz.func88 (by kernel_rfl) rfl

def xW (M : Nat → Prop) (w0 : World) (vg0 : Nat) (pa0 : OA) (pn0 pc0 : Nat) (pa1 : OA) (pn1 pc1 : Nat) (pf1 : List Nat) (va0x1 : OA) (vn0x1 vc0x1 : Nat) (va0x3 : OA) (vn0x3 vc0x3 : Nat) (vf0x3 : List Nat) (vn0x4 : Nat) (vf0x4 : List Nat) (f : Int × (List Int)) (args : tM) (old : Int) (many : Int) (fresh : Bool) (b0 : Int × (List (Int × (List Int))) × Int × tM × (List (ByteArray × Int))) (r : Bool × tM × (List (ByteArray × Int))) (a : Act) (w : World) : Prop :=
  ∃ (σ : Nv) (rfi0 : List Nat) (oa0x3 : OA) (on0x3 : Nat) (oc0x3 : Nat) (of0x3 : List Nat) (on0x4 : Nat) (of0x4 : List Nat), a = fr 80 (ovl σ [(12, (.bool r.1))]) ∧ Chg (pf1 ++ ([vg0] ++ (vf0x3 ++ (vf0x4 ++ [])))) w0 w ∧ (RT.os 34 rl).val (PastL M (pf1 ++ ([vg0] ++ (vf0x3 ++ (vf0x4 ++ [])))) w0 w (rfi0 ++ ([vg0] ++ (of0x3 ++ (of0x4 ++ []))))) w (sv pa1 pn1 pc1) args rfi0 ∧ BoxV w vg0 90 [(iv b0.1), (sv va0x1 vn0x1 vc0x1), (iv b0.2.2.1), (sv oa0x3 on0x3 oc0x3), (.map (some on0x4))] ∧ (RT.os 34 rl).val (PastL M (pf1 ++ ([vg0] ++ (vf0x3 ++ (vf0x4 ++ [])))) w0 w (rfi0 ++ ([vg0] ++ (of0x3 ++ (of0x4 ++ []))))) w (sv oa0x3 on0x3 oc0x3) r.2.1 of0x3 ∧ (RT.mo (Value.int .i64)).val (PastL M (pf1 ++ ([vg0] ++ (vf0x3 ++ (vf0x4 ++ [])))) w0 w (rfi0 ++ ([vg0] ++ (of0x3 ++ (of0x4 ++ []))))) w (.map (some on0x4)) r.2.2 of0x4 ∧ Own (Nw w0 (pf1 ++ ([vg0] ++ (vf0x3 ++ (vf0x4 ++ []))))) (fun _ => True) w (rfi0 ++ ([vg0] ++ (of0x3 ++ (of0x4 ++ []))))
def zM : Nat → (Int × (List Int)) → (List (List Int)) → (Int) → (Int) → (Bool) → (Int × (List (Int × (List Int))) × Int × (List (List Int)) × (List (ByteArray × Int))) → Option (Bool × (List (List Int)) × (List (ByteArray × Int)))
  | 0, _, _, _, _, _, _ => none
  | fu_ + 1, f, args, old, many, fresh, b0 =>
  (bif ((args.length : Int) == f.1) then (bif (fresh || ((f.1 == 0) && (old == 0))) then (yb (b0.1, b0.2.1) (f.1, f.2) b0.2.2.1 args).bind fun r45 =>
  (yg r45 (b0.1, b0.2.1, b0.2.2.1, b0.2.2.2.1, b0.2.2.2.2)).bind fun r50 =>
  some (r50.1, r50.2) else some (b0.2.2.2.1, b0.2.2.2.2)).bind fun s34 =>
  (yM (b0.1, b0.2.1)).bind fun r58 =>
  some ((decide ((s34.1.length : Int) ≤ r58)), s34.1, s34.2) else (forC (S := (List (List Int)) × (List (ByteArray × Int))) (R := Bool × (List (List Int)) × (List (ByteArray × Int))) (fun k665 s663 =>
  ((idx s663.1 k665).bind fun x881 =>
  (app args ([x881])).bind fun y889 =>
  (bif fresh then (zM fu_ (f.1, f.2) y889 old many true (b0.1, b0.2.1, b0.2.2.1, s663.1, s663.2)).bind fun r893 =>
  some ((!r893.1), r893.2.1, r893.2.2) else (zM fu_ (f.1, f.2) y889 old many (decide (old ≤ k665)) (b0.1, b0.2.1, b0.2.2.1, s663.1, s663.2)).bind fun r897 =>
  some ((!r897.1), r897.2.1, r897.2.2))).bind fun s871 =>
  (bif s871.1 then some (.rt (false, s871.2.1, s871.2.2)) else some (.nx (s871.2.1, s871.2.2)))) 0 many (b0.2.2.2.1, b0.2.2.2.2)).bind fun o667 => after o667 (fun r_ => some r_) (fun s663 =>
  some (true, s663.1, s663.2)))
theorem wZ : ∀ (fu_ : Nat) {M : Nat → Prop} {w : World} {vg0 : Nat} {pa0 : OA} {pn0 pc0 : Nat} {pa1 : OA} {pn1 pc1 : Nat} {pf1 : List Nat} {va0x1 : OA} {vn0x1 vc0x1 : Nat} {va0x3 : OA} {vn0x3 vc0x3 : Nat} {vf0x3 : List Nat} {vn0x4 : Nat} {vf0x4 : List Nat} (f : Int × (List Int)) (args : tM) (old : Int) (many : Int) (fresh : Bool) (b0 : Int × (List (Int × (List Int))) × Int × tM × (List (ByteArray × Int))) (h0 : rl.val M w (sv pa0 pn0 pc0) f.2 []) (h1 : (RT.os 34 rl).val M w (sv pa1 pn1 pc1) args pf1) (hb0 : BoxV w vg0 90 [(iv b0.1), (sv va0x1 vn0x1 vc0x1), (iv b0.2.2.1), (sv va0x3 vn0x3 vc0x3), (.map (some vn0x4))]) (hl0x1 : rp.val M w (sv va0x1 vn0x1 vc0x1) b0.2.1 []) (hl0x3 : (RT.os 34 rl).val M w (sv va0x3 vn0x3 vc0x3) b0.2.2.2.1 vf0x3) (hl0x4 : (RT.mo (Value.int .i64)).val M w (.map (some vn0x4)) b0.2.2.2.2 vf0x4) (hI : Own (Nw w (pf1 ++ ([vg0] ++ (vf0x3 ++ (vf0x4 ++ []))))) M w (pf1 ++ ([vg0] ++ (vf0x3 ++ (vf0x4 ++ []))))) (hM : Hm w M) {r : Bool × tM × (List (ByteArray × Int))} (hs : zM fu_ f args old many fresh b0 = some r), Gives Tryz.prog 88 [(pq vg0 0), (.agg #[(iv f.1), (sv pa0 pn0 pc0)]), (sv pa1 pn1 pc1), (iv old), (iv many), (.bool fresh)] w (fun v w' => ∃ (rfi0 : List Nat) (oa0x3 : OA) (on0x3 : Nat) (oc0x3 : Nat) (of0x3 : List Nat) (on0x4 : Nat) (of0x4 : List Nat), v = (.bool r.1) ∧ Chg (pf1 ++ ([vg0] ++ (vf0x3 ++ (vf0x4 ++ [])))) w w' ∧ (RT.os 34 rl).val (PastL M (pf1 ++ ([vg0] ++ (vf0x3 ++ (vf0x4 ++ [])))) w w' (rfi0 ++ ([vg0] ++ (of0x3 ++ (of0x4 ++ []))))) w' (sv pa1 pn1 pc1) args rfi0 ∧ BoxV w' vg0 90 [(iv b0.1), (sv va0x1 vn0x1 vc0x1), (iv b0.2.2.1), (sv oa0x3 on0x3 oc0x3), (.map (some on0x4))] ∧ (RT.os 34 rl).val (PastL M (pf1 ++ ([vg0] ++ (vf0x3 ++ (vf0x4 ++ [])))) w w' (rfi0 ++ ([vg0] ++ (of0x3 ++ (of0x4 ++ []))))) w' (sv oa0x3 on0x3 oc0x3) r.2.1 of0x3 ∧ (RT.mo (Value.int .i64)).val (PastL M (pf1 ++ ([vg0] ++ (vf0x3 ++ (vf0x4 ++ [])))) w w' (rfi0 ++ ([vg0] ++ (of0x3 ++ (of0x4 ++ []))))) w' (.map (some on0x4)) r.2.2 of0x4 ∧ Own (Nw w (pf1 ++ ([vg0] ++ (vf0x3 ++ (vf0x4 ++ []))))) (fun _ => True) w' (rfi0 ++ ([vg0] ++ (of0x3 ++ (of0x4 ++ []))))) := by
 intro fu_
 induction fu_ with
 | zero => intro M w vg0 pa0 pn0 pc0 pa1 pn1 pc1 pf1 va0x1 vn0x1 vc0x1 va0x3 vn0x3 vc0x3 vf0x3 vn0x4 vf0x4 f args old many fresh b0 h0 h1 hb0 hl0x1 hl0x3 hl0x4 hI hM r hs; exact (nomatch hs)
 | succ fu_ c_ih =>
 intro M w vg0 pa0 pn0 pc0 pa1 pn1 pc1 pf1 va0x1 vn0x1 vc0x1 va0x3 vn0x3 vc0x3 vf0x3 vn0x4 vf0x4 f args old many fresh b0 h0 h1 hb0 hl0x1 hl0x3 hl0x4 hI hM r hs
 refine zr Tryz.func88 rfl Tryz.ntmps88 (nl rfl) ?_
 have hO := hI
 have hC := Chg.refl (pf1 ++ ([vg0] ++ (vf0x3 ++ (vf0x4 ++ [])))) w
 rw [zM] at hs
 refine wp_k (K := (xW M w vg0 pa0 pn0 pc0 pa1 pn1 pc1 pf1 va0x1 vn0x1 vc0x1 va0x3 vn0x3 vc0x3 vf0x3 vn0x4 vf0x4 f args old many fresh b0 r)) (by rintro _ _ ⟨σ, rfi0, oa0x3, on0x3, oc0x3, of0x3, on0x4, of0x4, rfl, hrest⟩; exact Za Tryz.results88 (zB rfl) ⟨rfi0, oa0x3, on0x3, oc0x3, of0x3, on0x4, of0x4, rfl, hrest⟩) (c_sr ?_)
 obtain ⟨t0, a3, F5, w4, i4, a2⟩ := zg w [(iv f.1), (sv pa0 pn0 pc0)] 77
 refine za (w' := t0) (pq a3 0) (Zj rfl (by rw [F5, w4]; kernel_rfl)) ?_
 obtain ⟨h0, h1, hl0x1, hl0x3, hl0x4, hb0, hC⟩ := xt7 i4 h0 h1 hl0x1 hl0x3 hl0x4 hb0 hC
 have hO := hO.new1 i4 w4 a2.lt
 refine ab rfl (zb (zd (c_sr (ms rfl (za _ (zn Sl45 (ZH h1) rfl) (za (pq a3 0) (zk rfl ZP) (za _ (ld rfl Ag3 Sz3 a2 rfl) (za (.bool ((args.length : Int) == f.1)) (xV rfl rfl) (zb ?_)))))))))
 rcases zf hs with ⟨t1, hs⟩ | ⟨t1, hs⟩
 ·refine zh (cb t1) (zd (zd (yB (I := fun a q4 => ∃ (σ : Nv), a = fr 80 (ovl σ [(0, (pq vg0 0)), (2, (sv pa1 pn1 pc1)), (3, (iv old)), (4, (iv many)), (5, (.bool fresh)), (7, (pq a3 0)), (12, (.bool false)), (28, (.bool (fresh || ((f.1 == 0) && (old == 0)))))]) ∧ Chg [] t0 q4) ?_ ?_)))
  ·have hMid := Chg.refl [] t0
   refine ze (mb rfl (mb rfl ?_))
   rcases Bool.eq_false_or_eq_true (fresh) with c0 | c0
   ·skip
    refine pn 20 (cb c0) (pn 20 (cb c0) (pn 20 (cb c0) (pn 20 (cb c0) (wD (tg := 24) (by kernel_rfl) rfl (wD (tg := 24) (by kernel_rfl) rfl (pn 20 (cb c0) (za (.bool (fresh || ((f.1 == 0) && (old == 0)))) (yh (cb c0) (cb (by rw [c0]; rfl))) (zb ?_))))))))
    exact ⟨_, fr_m 80 rfl, hMid⟩
   refine py 20 (pq a3 0) (cb c0) (zk rfl ZP) (py 20 _ (cb c0) (ld rfl Ag3 Sz3 a2 rfl) (py 20 (.bool (f.1 == 0)) (cb c0) (xV rfl rfl) (py 20 (.bool (f.1 == 0)) (cb c0) (zx rfl) ?_)))
   rcases Bool.eq_false_or_eq_true ((f.1 == 0)) with f7 | f7
   ·skip
    refine py 24 (iv old) (cb f7) (zx rfl) (py 24 (.bool (old == 0)) (cb f7) (xV rfl rfl) (py 20 (.bool ((f.1 == 0) && (old == 0))) (cb c0) (yh (cb f7) (cb (by rw [f7]; rfl))) (za (.bool (fresh || ((f.1 == 0) && (old == 0)))) (ZU (cb c0) (cb (by rw [c0]; rfl))) (zb ?_))))
    exact ⟨_, fr_m 80 rfl, hMid⟩
   refine pn 24 (cb f7) (pn 24 (cb f7) (py 20 (.bool ((f.1 == 0) && (old == 0))) (cb c0) (ZU (cb f7) (cb (by rw [f7]; rfl))) (za (.bool (fresh || ((f.1 == 0) && (old == 0)))) (ZU (cb c0) (cb (by rw [c0]; rfl))) (zb ?_))))
   exact ⟨_, fr_m 80 rfl, hMid⟩
  rintro q5 q4 ⟨σ, rfl, f8⟩
  obtain ⟨h0, h1, hl0x1, hl0x3, hl0x4, hb0, a2, hC⟩ := xt8 f8 h0 h1 hl0x1 hl0x3 hl0x4 hb0 a2 hC
  have hO := hO.ext f8
  obtain ⟨s34, F6, hs⟩ := bind_some hs
  refine yB (I := fun a d1 => ∃ (σ : Nv) (f9 : Nat → Prop) (l7 : OA) (l8 : Nat) (l9 : Nat) (q6 : List Nat) (n5 : Nat) (q7 : List Nat), a = fr 80 (ovl σ [(0, (pq vg0 0)), (2, (sv pa1 pn1 pc1)), (3, (iv old)), (4, (iv many)), (5, (.bool fresh)), (7, (pq a3 0))]) ∧ Chg (pf1 ++ ([vg0] ++ (vf0x3 ++ (vf0x4 ++ [])))) w d1 ∧ Own (Nw w (pf1 ++ ([vg0] ++ (vf0x3 ++ (vf0x4 ++ []))))) f9 d1 (q6 ++ (q7 ++ ([a3] ++ (pf1 ++ ([vg0] ++ []))))) ∧ KeepsF w (pf1 ++ ([vg0] ++ (vf0x3 ++ (vf0x4 ++ [])))) M f9 ∧ rl.val f9 d1 (sv pa0 pn0 pc0) f.2 [] ∧ (RT.os 34 rl).val f9 d1 (sv pa1 pn1 pc1) args pf1 ∧ rp.val f9 d1 (sv va0x1 vn0x1 vc0x1) b0.2.1 [] ∧ BoxV d1 vg0 90 [(iv b0.1), (sv va0x1 vn0x1 vc0x1), (iv b0.2.2.1), (sv l7 l8 l9), (.map (some n5))] ∧ BoxV d1 a3 77 [(iv f.1), (sv pa0 pn0 pc0)] ∧ (RT.os 34 rl).val f9 d1 (sv l7 l8 l9) s34.1 q6 ∧ (RT.mo (Value.int .i64)).val f9 d1 (.map (some n5)) s34.2 q7) ?_ ?_
  ·replace hs := F6
   rcases zf hs with ⟨t2, hs⟩ | ⟨t2, hs⟩
   ·refine zh (cb t2) (zQ [12] Mx rfl ?_)
    have e9 := Chg.drew q4
    generalize World.drew q4 = F7 at e9 ⊢
    obtain ⟨h0, h1, hl0x1, hl0x3, hl0x4, hb0, a2, hC⟩ := xt8 e9 h0 h1 hl0x1 hl0x3 hl0x4 hb0 a2 hC
    have hO := hO.ext e9
    have hS := Chg.refl [] F7
    refine xmp 0 rfl rfl hS (xmp 1 rfl rfl hS (xq 2 _ rfl (Zs rfl) hS (xq 3 (pq vg0 0) rfl (zk rfl Vr) hS (x_l 4 (.agg #[(iv b0.1), (sv va0x1 vn0x1 vc0x1)]) rfl (by kernel_rfl) (fun w' hw' => zo rfl ((Zz Ag30 Sz30 hb0 [] [(iv b0.1), (sv va0x1 vn0x1 vc0x1)] [(iv b0.2.2.1), (sv va0x3 vn0x3 vc0x3), (.map (some vn0x4))] rfl rfl (fun h => nomatch h)) w' hw')) hS (xl 5 rfl (ldxw rfl Ag77 a2 Sz77) hS (xmp 6 rfl rfl hS (xq 7 _ rfl (Zs rfl) hS (xq 8 (pq vg0 2) rfl (zk rfl Fa90x1) hS (xl 9 rfl (ldx rfl Ag3 Sz3 hb0 rfl) hS (xms 10 rfl rfl hS (zI (i := 11) (by kernel_rfl) ?_)))))))))))
    have hO := hO.fr1
    obtain ⟨r45, F8, hs⟩ := bind_some hs
    refine zL (b := false) rfl Bd63 rfl (XF (M := (Less M pf1)) (b0.1, b0.2.1) (f.1, f.2) b0.2.2.1 args (hl0x1.sub Less.sub) (h0.sub Less.sub) (((Frz.os (Frz.rs Frz.int))).val h1 Less.sub Less.not) hO.less.fut F8) rfl (by rintro _ _ _ ⟨F9, G0, G1, w5, rfl, d2, q8, w6⟩; exact hS.ext d2) ?_
    rintro _ T7 ⟨F9, G0, G1, w5, rfl, d2, q8, w6⟩
    obtain ⟨h0, h1, hl0x1, hl0x3, hl0x4, hb0, a2, hC⟩ := xt8 d2 h0 h1 hl0x1 hl0x3 hl0x4 hb0 a2 hC
    have hO := Own.join0 hO d2 w6
    have hO := hO.perm (R := w5 ++ (pf1 ++ ([a3] ++ ([vg0] ++ (vf0x3 ++ (vf0x4 ++ [])))))) (by simp)
    have q8 := q8.free (M' := M) (Free.os Free.int)
    have hS := hS.ext d2
    refine zI (i := 12) (by kernel_rfl) ?_
    obtain ⟨m0, T8, o9, G2, hO, t3⟩ := xH (Frz.os Frz.int) q8 hO
    have h0 := h0.sub o9
    have h1 := h1.sub o9
    have hl0x1 := hl0x1.sub o9
    have hl0x3 := hl0x3.sub o9
    have hl0x4 := hl0x4.sub o9
    have hK := G2
    have hO := hO.fr4.fr4.fr4
    have G3 := hO
    have w7 := Own.lend (F := ([vg0] ++ (vf0x3 ++ (vf0x4 ++ [])))) (R := pf1 ++ ([a3] ++ [])) (Own.perm (G3) (by simp))
    obtain ⟨r50, G4, hs⟩ := bind_some hs
    refine zL (b := true) rfl Bd85 rfl (wo (M := m0) r45 (b0.1, b0.2.1, b0.2.2.1, b0.2.2.2.1, b0.2.2.2.2) t3 (show BoxV _ vg0 90 [(iv b0.1), (sv va0x1 vn0x1 vc0x1), (iv b0.2.2.1), (sv va0x3 vn0x3 vc0x3), (.map (some vn0x4))] from hb0) hl0x1 hl0x3 hl0x4 w7 w7.fut G4) rfl (fun h => nomatch h) ?_
    rintro _ G5 ⟨w8, w9, x0, x1, x2, x3, rfl, m1, t4, G6, G7, G8⟩
    have hO := hO.fr2.fr2.fr2.perm (R := ([vg0] ++ (vf0x3 ++ (vf0x4 ++ []))) ++ (pf1 ++ ([a3] ++ []))) (by simp)
    have h0 := h0.mt m1 hO zl
    have h1 := h1.ma m1 hO zl (fun _ e => (zD (e)))
    have hl0x1 := hl0x1.mt m1 hO zl
    have a2 := a2.ap m1 hO zl (zj mS)
    have t3 := t3.mt m1 hO zl
    have hC := hC.st m1 hO zl
    have hO := Own.join hO m1 G8
    have hO := hO.perm (R := [vg0] ++ (x1 ++ (x3 ++ (pf1 ++ ([a3] ++ []))))) (by simp)
    have t4 : BoxV G5 vg0 90 [(iv b0.1), (sv va0x1 vn0x1 vc0x1), (iv b0.2.2.1), (sv w8 w9 x0), (.map (some x2))] := t4
    refine xe ?_
    clear hS
    cases hs
    have hO := hO.fr3.fr4.fr4.fr4
    exact ⟨_, m0, w8, w9, x0, x1, x2, x3, fr_m 80 rfl, hC, hO, hK, h0, h1, hl0x1, t4, a2, G6, G7⟩
   refine zi (cb t2) (wp_skip ?_)
   cases hs
   have hO := hO.fr2.fr2.fr2.fr4.fr4
   exact ⟨_, M, va0x3, vn0x3, vc0x3, vf0x3, vn0x4, vf0x4, fr_m 80 rfl, hC, hO, KeepsF.refl, h0, h1, hl0x1, hb0, a2, hl0x3, hl0x4⟩
  rintro q5 d1 ⟨σ, f9, l7, l8, l9, q6, n5, q7, rfl, hC, hO, hK, h0, h1, hl0x1, hb0, a2, n6, p0⟩
  refine zd (zQ [] Mx rfl ?_)
  have f0 := Chg.drew d1
  generalize World.drew d1 = G9 at f0 ⊢
  obtain ⟨h0, h1, hl0x1, hb0, a2, n6, p0, hC⟩ := xt8 f0 h0 h1 hl0x1 hb0 a2 n6 p0 hC
  have hO := hO.ext f0
  have hS := Chg.refl [] G9
  refine xmp 0 rfl rfl hS (xq 1 _ rfl (Zs rfl) hS (xq 2 (pq vg0 3) rfl (zk rfl YD) hS (xl 3 rfl (ldx rfl Ag45 Sz45 hb0 rfl) hS (xq 4 _ rfl (zn Sl45 (ZH n6) rfl) hS (xmp 5 rfl rfl hS (xq 6 _ rfl (Zs rfl) hS (xq 7 (pq vg0 0) rfl (zk rfl Vr) hS (x_l 8 (.agg #[(iv b0.1), (sv va0x1 vn0x1 vc0x1)]) rfl (by kernel_rfl) (fun w' hw' => zo rfl ((Zz Ag30 Sz30 hb0 [] [(iv b0.1), (sv va0x1 vn0x1 vc0x1)] [(iv b0.2.2.1), (sv l7 l8 l9), (.map (some n5))] rfl rfl (fun h => nomatch h)) w' hw')) hS (zI (i := 9) (by kernel_rfl) ?_)))))))))
  obtain ⟨r58, H0, hs⟩ := bind_some hs
  refine zL (b := false) rfl Bd87 rfl (XS (M := f9) (b0.1, b0.2.1) hl0x1 hO.fut H0) rfl (by rintro _ _ _ ⟨rfl, d3⟩; exact hS.ext d3) ?_
  rintro _ T9 ⟨rfl, d3⟩
  obtain ⟨h0, h1, hl0x1, hb0, a2, n6, p0, hC⟩ := xt8 d3 h0 h1 hl0x1 hb0 a2 n6 p0 hC
  obtain ⟨hO, hS⟩ := xt2 d3 hO hS
  refine xq 10 _ rfl (wx rfl rfl) hS (xq 11 (.bool (decide ((s34.1.length : Int) ≤ r58))) rfl (zA rfl) hS (xe ?_))
  clear hS
  refine wp_ret ?_
  cases hs
  have hO := hO.fr2.drop.fr1.fr1.fr3.fr3
  exact ⟨_, pf1, l7, l8, l9, q6, n5, q7, fr_m 80 rfl, hC, (KeepsF.out hK hO.allM h1), hb0, (KeepsF.out hK hO.allM n6), (KeepsF.out hK hO.allM p0), hO.top⟩
 refine zi (cb t1) (wp_skip (zd (c_sr (ai rfl (zb ?_)))))
 obtain ⟨o667, H1, hs⟩ := bind_some hs
 refine wp_block (zT (id := 0) many (I := fun k665 s663 a a8 => ∃ (σ : Nv) (c1 : Nat → Prop) (b6 : OA) (b7 : Nat) (b8 : Nat) (a0 : List Nat) (b9 : Nat) (a1 : List Nat), a = fr 80 (ovl σ [(0, (pq vg0 0)), (2, (sv pa1 pn1 pc1)), (3, (iv old)), (4, (iv many)), (5, (.bool fresh)), (7, (pq a3 0)), (13, (iv k665))]) ∧ Chg (pf1 ++ ([vg0] ++ (vf0x3 ++ (vf0x4 ++ [])))) w a8 ∧ Own (Nw w (pf1 ++ ([vg0] ++ (vf0x3 ++ (vf0x4 ++ []))))) c1 a8 (a0 ++ (a1 ++ ([a3] ++ (pf1 ++ ([vg0] ++ []))))) ∧ KeepsF w (pf1 ++ ([vg0] ++ (vf0x3 ++ (vf0x4 ++ [])))) M c1 ∧ rl.val c1 a8 (sv pa0 pn0 pc0) f.2 [] ∧ (RT.os 34 rl).val c1 a8 (sv pa1 pn1 pc1) args pf1 ∧ rp.val c1 a8 (sv va0x1 vn0x1 vc0x1) b0.2.1 [] ∧ BoxV a8 vg0 90 [(iv b0.1), (sv va0x1 vn0x1 vc0x1), (iv b0.2.2.1), (sv b6 b7 b8), (.map (some b9))] ∧ BoxV a8 a3 77 [(iv f.1), (sv pa0 pn0 pc0)] ∧ (RT.os 34 rl).val c1 a8 (sv b6 b7 b8) s663.1 a0 ∧ (RT.mo (Value.int .i64)).val c1 a8 (.map (some b9)) s663.2 a1) (J := fun s663 a a8 => ∃ (σ : Nv) (i5 : Nat → Prop) (q9 : OA) (r0 : Nat) (r1 : Nat) (r2 : List Nat) (r3 : Nat) (r4 : List Nat), a = fr 80 (ovl σ []) ∧ Chg (pf1 ++ ([vg0] ++ (vf0x3 ++ (vf0x4 ++ [])))) w a8 ∧ Own (Nw w (pf1 ++ ([vg0] ++ (vf0x3 ++ (vf0x4 ++ []))))) i5 a8 (r2 ++ (r4 ++ ([a3] ++ (pf1 ++ ([vg0] ++ []))))) ∧ KeepsF w (pf1 ++ ([vg0] ++ (vf0x3 ++ (vf0x4 ++ [])))) M i5 ∧ rl.val i5 a8 (sv pa0 pn0 pc0) f.2 [] ∧ (RT.os 34 rl).val i5 a8 (sv pa1 pn1 pc1) args pf1 ∧ rp.val i5 a8 (sv va0x1 vn0x1 vc0x1) b0.2.1 [] ∧ BoxV a8 vg0 90 [(iv b0.1), (sv va0x1 vn0x1 vc0x1), (iv b0.2.2.1), (sv q9 r0 r1), (.map (some r3))] ∧ BoxV a8 a3 77 [(iv f.1), (sv pa0 pn0 pc0)] ∧ (RT.os 34 rl).val i5 a8 (sv q9 r0 r1) s663.1 r2 ∧ (RT.mo (Value.int .i64)).val i5 a8 (.map (some r3)) s663.2 r4) (K := (xW M w vg0 pa0 pn0 pc0 pa1 pn1 pc1 pf1 va0x1 vn0x1 vc0x1 va0x3 vn0x3 vc0x3 vf0x3 vn0x4 vf0x4 f args old many fresh b0)) ?_ ?_ 0 (b0.2.2.2.1, b0.2.2.2.2) o667 _ _ ?_ H1 ?_)
 ·rintro k665 s663 a a8 ⟨σ, c1, b6, b7, b8, a0, b9, a1, rfl, hC, hO, hK, h0, h1, hl0x1, hb0, a2, a4, a5⟩ hlt
  refine zd (c_sr (mi rfl (mi rfl (za _ (zw rfl rfl) (zb (zi (df hlt) (wp_exit ?_)))))))
  have hO := hO.fr4.fr4.fr4.fr4.fr4
  exact ⟨rfl, _, c1, b6, b7, b8, a0, b9, a1, zG 80 trivial, hC, hO, hK, h0, h1, hl0x1, hb0, a2, a4, a5⟩
 ·rintro k665 s663 o667 a a8 ⟨σ, c1, b6, b7, b8, a0, b9, a1, rfl, hC, hO, hK, h0, h1, hl0x1, hb0, a2, a4, a5⟩ hlt hw hs
  refine zd (c_sr (mi rfl (mi rfl (za _ (zw rfl rfl) (zb (zh (dt hlt) (wp_skip (zd (wp_block (zd ?_))))))))))
  obtain ⟨s871, H2, hs⟩ := bind_some hs
  refine yB (I := fun a f1 => ∃ (σ : Nv) (g0 : Nat → Prop) (p1 : OA) (p2 : Nat) (p3 : Nat) (p4 : List Nat) (p5 : Nat) (p6 : List Nat), a = fr 80 (ovl σ [(0, (pq vg0 0)), (2, (sv pa1 pn1 pc1)), (3, (iv old)), (4, (iv many)), (5, (.bool fresh)), (7, (pq a3 0)), (13, (iv k665)), (79, (.bool s871.1))]) ∧ Chg (pf1 ++ ([vg0] ++ (vf0x3 ++ (vf0x4 ++ [])))) w f1 ∧ Own (Nw w (pf1 ++ ([vg0] ++ (vf0x3 ++ (vf0x4 ++ []))))) g0 f1 (p4 ++ (p6 ++ ([a3] ++ (pf1 ++ ([vg0] ++ []))))) ∧ KeepsF w (pf1 ++ ([vg0] ++ (vf0x3 ++ (vf0x4 ++ [])))) M g0 ∧ rl.val g0 f1 (sv pa0 pn0 pc0) f.2 [] ∧ (RT.os 34 rl).val g0 f1 (sv pa1 pn1 pc1) args pf1 ∧ rp.val g0 f1 (sv va0x1 vn0x1 vc0x1) b0.2.1 [] ∧ BoxV f1 vg0 90 [(iv b0.1), (sv va0x1 vn0x1 vc0x1), (iv b0.2.2.1), (sv p1 p2 p3), (.map (some p5))] ∧ BoxV f1 a3 77 [(iv f.1), (sv pa0 pn0 pc0)] ∧ (RT.os 34 rl).val g0 f1 (sv p1 p2 p3) s871.2.1 p4 ∧ (RT.mo (Value.int .i64)).val g0 f1 (.map (some p5)) s871.2.2 p6) ?_ ?_
  ·replace hs := H2
   rcases Nat.lt_or_ge pc1 (pn1 + 1) with m2 | m2
   ·skip
    refine zQ [11, 20] Mx rfl ?_
    have f2 := Chg.drew a8
    generalize World.drew a8 = t5 at f2 ⊢
    obtain ⟨h0, h1, hl0x1, hb0, a2, a4, a5, hC⟩ := xt8 f2 h0 h1 hl0x1 hb0 a2 a4 a5 hC
    have hO := hO.ext f2
    have hS := Chg.refl [] t5
    refine xmp 0 rfl rfl hS (xms 2 rfl rfl hS (xmp 3 rfl rfl hS (xq 4 _ rfl (Zs rfl) hS (xq 5 (pq vg0 3) rfl (zk rfl YD) hS (xl 6 rfl (ldx rfl Ag45 Sz45 hb0 rfl) hS (xmi 7 rfl rfl hS ?_))))))
    obtain ⟨x881, H3, hs⟩ := bind_some hs
    obtain ⟨H4, U0, U1, U2, H5, H6, U3⟩ := zS Sl45 Sz34 a4 H3
    have H7 := UE Rd.rs H6
    refine xq 8 _ rfl (ip H5 rfl rfl) hS ?_
    obtain ⟨U4, H8, a6⟩ := Zc Ag34 Sz34 (fun _ => rfl) H7
    obtain ⟨p7, p8, p9, rfl⟩ := yl a6
    refine x_l 9 (sv p7 p8 p9) rfl (by kernel_rfl) (fun w' hw' => zo rfl (H8 w' hw')) hS (xmi 12 rfl rfl hS (xmi 13 rfl rfl hS (xmb 14 rfl rfl hS (wX (i := 1) (j := 10) (by kernel_rfl) ?_ ?_))))
    ·skip
     refine zR (b := false) (.agg #[(iv f.1), (sv pa0 pn0 pc0)]) rfl (zo rfl ((Zz Ag77 Sz77 a2 [] [(iv f.1), (sv pa0 pn0 pc0)] [] rfl rfl (fun h => nomatch h)) _ (Chg.refl _ _))) rfl (fun _ => hS) (zI (i := 10) (by kernel_rfl) ?_)
     obtain ⟨x4, t6, H9, x5, d4, x6⟩ := zg t5 [(sv p7 p8 p9)] 34
     refine zR (w' := x4) (b := false) (sv (some ⟨t6, 0, none⟩) 1 1) rfl (zz rfl (by rw [H9, x5]; kernel_rfl)) rfl (fun _ => hS.ext d4) ?_
     obtain ⟨h0, h1, hl0x1, hb0, a2, a4, a5, a6⟩ := xt8 d4 h0 h1 hl0x1 hb0 a2 a4 a5 a6
     have hC := hC.ext d4
     have hO := hO.new1 d4 x5 x6.lt
     have t7 := Zn (r := rl) (M := c1) (css := [[(sv p7 p8 p9)]]) (fps := [([] : List Nat)]) (xs := ([x881] : tM)) x6 ⟨(yI a6), trivial⟩ (nl rfl) (List.nodup_cons.2 ⟨(fun h => nomatch h), List.nodup_nil⟩)
     have t7 : (RT.os 34 rl).val c1 x4 (sv (some ⟨t6, 0, none⟩) 1 1) [x881] [t6] := t7
     have hS := hS.ext d4
     refine zI (i := 11) (by kernel_rfl) ?_
     obtain ⟨a9, U5, n7, I0, hO, d8⟩ := xH (Frz.os (Frz.rs Frz.int)) t7 hO
     have h0 := h0.sub n7
     have h1 := h1.sub n7
     have hl0x1 := hl0x1.sub n7
     have a4 := a4.sub n7
     have a5 := a5.sub n7
     have a6 := a6.sub n7
     have hK := hK.trans I0
     obtain ⟨y889, q0, hs⟩ := bind_some hs
     have hO := hO.fr3
     obtain ⟨I1, I2, I3, c5, c2, I4, d9, I5, r5⟩ := zah Nf.rs Rw45 q0 h1 d8 hO.inM (by simp) m2
     refine zR (w' := c5) (b := true) (sv I1 I2 I3) rfl (zN rfl rfl (I4 _)) rfl (fun h => nomatch h) ?_
     obtain ⟨h0, h1, hl0x1, hb0, a2, a4, a5, a6⟩ := xt8 d9 h0 h1 hl0x1 hb0 a2 a4 a5 a6
     obtain ⟨d8, hC⟩ := xt2 d9 d8 hC
     have hO := hO.new d9 I5 (zu r5) r5.fpl
     refine x_p 15 (.bool fresh) rfl (by kernel_rfl) (fun _ => zx rfl) (fun h => nomatch h) ?_
     rcases zf hs with ⟨g1, hs⟩ | ⟨g1, hs⟩
     ·skip
      refine x_pn 16 rfl (by kernel_rfl) (tg := 73) (by kernel_rfl) (cb g1) (fun h => nomatch h) (x_pn 17 rfl (by kernel_rfl) (tg := 73) (by kernel_rfl) (cb g1) (fun h => nomatch h) (x_pn 18 rfl (by kernel_rfl) (tg := 73) (by kernel_rfl) (cb g1) (fun h => nomatch h) (x_p 19 (.bool true) rfl (by kernel_rfl) (fun _ => yh (cb g1) rfl) (fun h => nomatch h) (zI (i := 20) (by kernel_rfl) ?_))))
      have hO := hO.fr3.fr3.fr5.fr3
      have I6 := hO
      have x7 := Own.lend (F := (c2 ++ ([vg0] ++ (a0 ++ (a1 ++ []))))) (R := pf1 ++ ([a3] ++ [])) (Own.perm (I6) (by simp))
      obtain ⟨r893, I7, hs⟩ := bind_some hs
      refine zL (b := true) rfl Bd88 rfl (c_ih (M := a9) (f.1, f.2) y889 old many true (b0.1, b0.2.1, b0.2.2.1, s663.1, s663.2) h0 r5 (show BoxV _ vg0 90 [(iv b0.1), (sv va0x1 vn0x1 vc0x1), (iv b0.2.2.1), (sv b6 b7 b8), (.map (some b9))] from hb0) hl0x1 a4 a5 x7 x7.fut I7) rfl (fun h => nomatch h) ?_
      rintro _ i6 ⟨i7, x8, x9, y0, g2, y1, g3, rfl, i9, U6, t8, I8, I9, J0⟩
      have hO := hO.fr3.fr3.fr3.fr3.perm (R := (c2 ++ ([vg0] ++ (a0 ++ (a1 ++ [])))) ++ (pf1 ++ ([a3] ++ []))) (by simp)
      have J1 := Own.pastL hO i9 J0
      have hK := hK.trans (show KeepsF w (pf1 ++ ([vg0] ++ (vf0x3 ++ (vf0x4 ++ [])))) a9 (PastL a9 (c2 ++ ([vg0] ++ (a0 ++ (a1 ++ [])))) c5 i6 (i7 ++ ([vg0] ++ (g2 ++ (g3 ++ []))))) from KeepsF.pastL hC.size (fun g hg => (hO.inN g hg)))
      have h0 := h0.mt i9 hO zl
      have h1 := h1.ma i9 hO zl (fun _ e => (zD (e)))
      have hl0x1 := hl0x1.mt i9 hO zl
      have a2 := a2.ap i9 hO zl (zj mS)
      have a6 := a6.mt i9 hO zl
      have d8 := d8.mt i9 hO zl
      have hC := hC.st i9 hO zl
      have hO := J1
      have h0 := h0.sub (M' := (PastL a9 (c2 ++ ([vg0] ++ (a0 ++ (a1 ++ [])))) c5 i6 (i7 ++ ([vg0] ++ (g2 ++ (g3 ++ [])))))) (fun g hg => .inl hg.1)
      have h1 := h1.sub (M' := (PastL a9 (c2 ++ ([vg0] ++ (a0 ++ (a1 ++ [])))) c5 i6 (i7 ++ ([vg0] ++ (g2 ++ (g3 ++ [])))))) (fun g hg => .inl hg.1)
      have hl0x1 := hl0x1.sub (M' := (PastL a9 (c2 ++ ([vg0] ++ (a0 ++ (a1 ++ [])))) c5 i6 (i7 ++ ([vg0] ++ (g2 ++ (g3 ++ [])))))) (fun g hg => .inl hg.1)
      have a6 := a6.sub (M' := (PastL a9 (c2 ++ ([vg0] ++ (a0 ++ (a1 ++ [])))) c5 i6 (i7 ++ ([vg0] ++ (g2 ++ (g3 ++ [])))))) (fun g hg => .inl hg.1)
      have d8 := d8.sub (M' := (PastL a9 (c2 ++ ([vg0] ++ (a0 ++ (a1 ++ [])))) c5 i6 (i7 ++ ([vg0] ++ (g2 ++ (g3 ++ [])))))) (fun g hg => .inl hg.1)
      have hO := hO.perm (R := i7 ++ ([vg0] ++ (g2 ++ (g3 ++ (pf1 ++ ([a3] ++ [])))))) (by simp)
      have t8 : BoxV i6 vg0 90 [(iv b0.1), (sv va0x1 vn0x1 vc0x1), (iv b0.2.2.1), (sv x8 x9 y0), (.map (some y1))] := t8
      refine x_p 21 (.bool (!r893.1)) rfl (by kernel_rfl) (fun _ => ZA rfl) (fun h => nomatch h) (xe ?_)
      clear hS
      cases hs
      have hO := hO.drop.fr3.fr4.fr4.fr4
      exact ⟨_, (PastL a9 (c2 ++ ([vg0] ++ (a0 ++ (a1 ++ [])))) c5 i6 (i7 ++ ([vg0] ++ (g2 ++ (g3 ++ []))))), x8, x9, y0, g2, y1, g3, fr_m 80 rfl, hC, hO, hK, h0, h1, hl0x1, t8, a2, I8, I9⟩
     refine x_py 16 (iv k665) rfl (by kernel_rfl) (tg := 73) (by kernel_rfl) (cb g1) (fun _ => zx rfl) (fun h => nomatch h) (x_py 17 (iv old) rfl (by kernel_rfl) (tg := 73) (by kernel_rfl) (cb g1) (fun _ => zx rfl) (fun h => nomatch h) (x_py 18 (.bool (decide (old ≤ k665))) rfl (by kernel_rfl) (tg := 73) (by kernel_rfl) (cb g1) (fun _ => Xs rfl rfl) (fun h => nomatch h) (x_p 19 (.bool (decide (old ≤ k665))) rfl (by kernel_rfl) (fun _ => ZU (cb g1) rfl) (fun h => nomatch h) (zI (i := 20) (by kernel_rfl) ?_))))
     have hO := hO.fr3.fr3.fr5.fr3
     have J2 := hO
     have y2 := Own.lend (F := (c2 ++ ([vg0] ++ (a0 ++ (a1 ++ []))))) (R := pf1 ++ ([a3] ++ [])) (Own.perm (J2) (by simp))
     obtain ⟨r897, J3, hs⟩ := bind_some hs
     refine zL (b := true) rfl Bd88 rfl (c_ih (M := a9) (f.1, f.2) y889 old many (decide (old ≤ k665)) (b0.1, b0.2.1, b0.2.2.1, s663.1, s663.2) h0 r5 (show BoxV _ vg0 90 [(iv b0.1), (sv va0x1 vn0x1 vc0x1), (iv b0.2.2.1), (sv b6 b7 b8), (.map (some b9))] from hb0) hl0x1 a4 a5 y2 y2.fut J3) rfl (fun h => nomatch h) ?_
     rintro _ j0 ⟨j1, y3, y4, y5, g4, y6, g5, rfl, j2, U7, t9, J4, J5, J6⟩
     have hO := hO.fr3.fr3.fr3.fr3.perm (R := (c2 ++ ([vg0] ++ (a0 ++ (a1 ++ [])))) ++ (pf1 ++ ([a3] ++ []))) (by simp)
     have J7 := Own.pastL hO j2 J6
     have hK := hK.trans (show KeepsF w (pf1 ++ ([vg0] ++ (vf0x3 ++ (vf0x4 ++ [])))) a9 (PastL a9 (c2 ++ ([vg0] ++ (a0 ++ (a1 ++ [])))) c5 j0 (j1 ++ ([vg0] ++ (g4 ++ (g5 ++ []))))) from KeepsF.pastL hC.size (fun g hg => (hO.inN g hg)))
     have h0 := h0.mt j2 hO zl
     have h1 := h1.ma j2 hO zl (fun _ e => (zD (e)))
     have hl0x1 := hl0x1.mt j2 hO zl
     have a2 := a2.ap j2 hO zl (zj mS)
     have a6 := a6.mt j2 hO zl
     have d8 := d8.mt j2 hO zl
     have hC := hC.st j2 hO zl
     have hO := J7
     have h0 := h0.sub (M' := (PastL a9 (c2 ++ ([vg0] ++ (a0 ++ (a1 ++ [])))) c5 j0 (j1 ++ ([vg0] ++ (g4 ++ (g5 ++ [])))))) (fun g hg => .inl hg.1)
     have h1 := h1.sub (M' := (PastL a9 (c2 ++ ([vg0] ++ (a0 ++ (a1 ++ [])))) c5 j0 (j1 ++ ([vg0] ++ (g4 ++ (g5 ++ [])))))) (fun g hg => .inl hg.1)
     have hl0x1 := hl0x1.sub (M' := (PastL a9 (c2 ++ ([vg0] ++ (a0 ++ (a1 ++ [])))) c5 j0 (j1 ++ ([vg0] ++ (g4 ++ (g5 ++ [])))))) (fun g hg => .inl hg.1)
     have a6 := a6.sub (M' := (PastL a9 (c2 ++ ([vg0] ++ (a0 ++ (a1 ++ [])))) c5 j0 (j1 ++ ([vg0] ++ (g4 ++ (g5 ++ [])))))) (fun g hg => .inl hg.1)
     have d8 := d8.sub (M' := (PastL a9 (c2 ++ ([vg0] ++ (a0 ++ (a1 ++ [])))) c5 j0 (j1 ++ ([vg0] ++ (g4 ++ (g5 ++ [])))))) (fun g hg => .inl hg.1)
     have hO := hO.perm (R := j1 ++ ([vg0] ++ (g4 ++ (g5 ++ (pf1 ++ ([a3] ++ [])))))) (by simp)
     have t9 : BoxV j0 vg0 90 [(iv b0.1), (sv va0x1 vn0x1 vc0x1), (iv b0.2.2.1), (sv y3 y4 y5), (.map (some y6))] := t9
     refine x_p 21 (.bool (!r897.1)) rfl (by kernel_rfl) (fun _ => ZA rfl) (fun h => nomatch h) (xe ?_)
     clear hS
     cases hs
     have hO := hO.drop.fr3.fr4.fr4.fr4
     exact ⟨_, (PastL a9 (c2 ++ ([vg0] ++ (a0 ++ (a1 ++ [])))) c5 j0 (j1 ++ ([vg0] ++ (g4 ++ (g5 ++ []))))), y3, y4, y5, g4, y6, g5, fr_m 80 rfl, hC, hO, hK, h0, h1, hl0x1, t9, a2, J4, J5⟩
    ·skip
     obtain ⟨y7, u0, J8, y8, d5, y9⟩ := zg t5 [(sv p7 p8 p9)] 34
     refine zR (w' := y7) (b := false) (sv (some ⟨u0, 0, none⟩) 1 1) rfl (zz rfl (by rw [J8, y8]; kernel_rfl)) rfl (fun _ => hS.ext d5) ?_
     obtain ⟨h0, h1, hl0x1, hb0, a2, a4, a5, a6⟩ := xt8 d5 h0 h1 hl0x1 hb0 a2 a4 a5 a6
     have hC := hC.ext d5
     have hO := hO.new1 d5 y8 y9.lt
     have r6 := Zn (r := rl) (M := c1) (css := [[(sv p7 p8 p9)]]) (fps := [([] : List Nat)]) (xs := ([x881] : tM)) y9 ⟨(yI a6), trivial⟩ (nl rfl) (List.nodup_cons.2 ⟨(fun h => nomatch h), List.nodup_nil⟩)
     have r6 : (RT.os 34 rl).val c1 y7 (sv (some ⟨u0, 0, none⟩) 1 1) [x881] [u0] := r6
     have hS := hS.ext d5
     refine wX (i := 1) (j := 11) (by kernel_rfl) ?_ ?_
     ·skip
      refine zR (b := false) (.agg #[(iv f.1), (sv pa0 pn0 pc0)]) rfl (zo rfl ((Zz Ag77 Sz77 a2 [] [(iv f.1), (sv pa0 pn0 pc0)] [] rfl rfl (fun h => nomatch h)) _ (Chg.refl _ _))) rfl (fun _ => hS) (zI (i := 11) (by kernel_rfl) ?_)
      obtain ⟨b1, U8, n8, J9, hO, e0⟩ := xH (Frz.os (Frz.rs Frz.int)) r6 hO
      have h0 := h0.sub n8
      have h1 := h1.sub n8
      have hl0x1 := hl0x1.sub n8
      have a4 := a4.sub n8
      have a5 := a5.sub n8
      have a6 := a6.sub n8
      have hK := hK.trans J9
      obtain ⟨y889, q0, hs⟩ := bind_some hs
      have hO := hO.fr3
      obtain ⟨K0, K1, K2, c6, c3, K3, e1, K4, r7⟩ := zah Nf.rs Rw45 q0 h1 e0 hO.inM (by simp) m2
      refine zR (w' := c6) (b := true) (sv K0 K1 K2) rfl (zN rfl rfl (K3 _)) rfl (fun h => nomatch h) ?_
      obtain ⟨h0, h1, hl0x1, hb0, a2, a4, a5, a6⟩ := xt8 e1 h0 h1 hl0x1 hb0 a2 a4 a5 a6
      obtain ⟨e0, hC⟩ := xt2 e1 e0 hC
      have hO := hO.new e1 K4 (zu r7) r7.fpl
      refine x_p 15 (.bool fresh) rfl (by kernel_rfl) (fun _ => zx rfl) (fun h => nomatch h) ?_
      rcases zf hs with ⟨g6, hs⟩ | ⟨g6, hs⟩
      ·skip
       refine x_pn 16 rfl (by kernel_rfl) (tg := 73) (by kernel_rfl) (cb g6) (fun h => nomatch h) (x_pn 17 rfl (by kernel_rfl) (tg := 73) (by kernel_rfl) (cb g6) (fun h => nomatch h) (x_pn 18 rfl (by kernel_rfl) (tg := 73) (by kernel_rfl) (cb g6) (fun h => nomatch h) (x_p 19 (.bool true) rfl (by kernel_rfl) (fun _ => yh (cb g6) rfl) (fun h => nomatch h) (zI (i := 20) (by kernel_rfl) ?_))))
       have hO := hO.fr3.fr3.fr5.fr3
       have K5 := hO
       have z0 := Own.lend (F := (c3 ++ ([vg0] ++ (a0 ++ (a1 ++ []))))) (R := pf1 ++ ([a3] ++ [])) (Own.perm (K5) (by simp))
       obtain ⟨K6, K7, hs⟩ := bind_some hs
       refine zL (b := true) rfl Bd88 rfl (c_ih (M := b1) (f.1, f.2) y889 old many true (b0.1, b0.2.1, b0.2.2.1, s663.1, s663.2) h0 r7 (show BoxV _ vg0 90 [(iv b0.1), (sv va0x1 vn0x1 vc0x1), (iv b0.2.2.1), (sv b6 b7 b8), (.map (some b9))] from hb0) hl0x1 a4 a5 z0 z0.fut K7) rfl (fun h => nomatch h) ?_
       rintro _ j3 ⟨j4, z1, z2, z3, g7, z4, g8, rfl, j5, U9, u1, K8, K9, L0⟩
       have hO := hO.fr3.fr3.fr3.fr3.perm (R := (c3 ++ ([vg0] ++ (a0 ++ (a1 ++ [])))) ++ (pf1 ++ ([a3] ++ []))) (by simp)
       have L1 := Own.pastL hO j5 L0
       have hK := hK.trans (show KeepsF w (pf1 ++ ([vg0] ++ (vf0x3 ++ (vf0x4 ++ [])))) b1 (PastL b1 (c3 ++ ([vg0] ++ (a0 ++ (a1 ++ [])))) c6 j3 (j4 ++ ([vg0] ++ (g7 ++ (g8 ++ []))))) from KeepsF.pastL hC.size (fun g hg => (hO.inN g hg)))
       have h0 := h0.mt j5 hO zl
       have h1 := h1.ma j5 hO zl (fun _ e => (zD (e)))
       have hl0x1 := hl0x1.mt j5 hO zl
       have a2 := a2.ap j5 hO zl (zj mS)
       have a6 := a6.mt j5 hO zl
       have e0 := e0.mt j5 hO zl
       have hC := hC.st j5 hO zl
       have hO := L1
       have h0 := h0.sub (M' := (PastL b1 (c3 ++ ([vg0] ++ (a0 ++ (a1 ++ [])))) c6 j3 (j4 ++ ([vg0] ++ (g7 ++ (g8 ++ [])))))) (fun g hg => .inl hg.1)
       have h1 := h1.sub (M' := (PastL b1 (c3 ++ ([vg0] ++ (a0 ++ (a1 ++ [])))) c6 j3 (j4 ++ ([vg0] ++ (g7 ++ (g8 ++ [])))))) (fun g hg => .inl hg.1)
       have hl0x1 := hl0x1.sub (M' := (PastL b1 (c3 ++ ([vg0] ++ (a0 ++ (a1 ++ [])))) c6 j3 (j4 ++ ([vg0] ++ (g7 ++ (g8 ++ [])))))) (fun g hg => .inl hg.1)
       have a6 := a6.sub (M' := (PastL b1 (c3 ++ ([vg0] ++ (a0 ++ (a1 ++ [])))) c6 j3 (j4 ++ ([vg0] ++ (g7 ++ (g8 ++ [])))))) (fun g hg => .inl hg.1)
       have e0 := e0.sub (M' := (PastL b1 (c3 ++ ([vg0] ++ (a0 ++ (a1 ++ [])))) c6 j3 (j4 ++ ([vg0] ++ (g7 ++ (g8 ++ [])))))) (fun g hg => .inl hg.1)
       have hO := hO.perm (R := j4 ++ ([vg0] ++ (g7 ++ (g8 ++ (pf1 ++ ([a3] ++ [])))))) (by simp)
       have u1 : BoxV j3 vg0 90 [(iv b0.1), (sv va0x1 vn0x1 vc0x1), (iv b0.2.2.1), (sv z1 z2 z3), (.map (some z4))] := u1
       refine x_p 21 (.bool (!K6.1)) rfl (by kernel_rfl) (fun _ => ZA rfl) (fun h => nomatch h) (xe ?_)
       clear hS
       cases hs
       have hO := hO.drop.fr3.fr4.fr4.fr4
       exact ⟨_, (PastL b1 (c3 ++ ([vg0] ++ (a0 ++ (a1 ++ [])))) c6 j3 (j4 ++ ([vg0] ++ (g7 ++ (g8 ++ []))))), z1, z2, z3, g7, z4, g8, fr_m 80 rfl, hC, hO, hK, h0, h1, hl0x1, u1, a2, K8, K9⟩
      refine x_py 16 (iv k665) rfl (by kernel_rfl) (tg := 73) (by kernel_rfl) (cb g6) (fun _ => zx rfl) (fun h => nomatch h) (x_py 17 (iv old) rfl (by kernel_rfl) (tg := 73) (by kernel_rfl) (cb g6) (fun _ => zx rfl) (fun h => nomatch h) (x_py 18 (.bool (decide (old ≤ k665))) rfl (by kernel_rfl) (tg := 73) (by kernel_rfl) (cb g6) (fun _ => Xs rfl rfl) (fun h => nomatch h) (x_p 19 (.bool (decide (old ≤ k665))) rfl (by kernel_rfl) (fun _ => ZU (cb g6) rfl) (fun h => nomatch h) (zI (i := 20) (by kernel_rfl) ?_))))
      have hO := hO.fr3.fr3.fr5.fr3
      have L2 := hO
      have z5 := Own.lend (F := (c3 ++ ([vg0] ++ (a0 ++ (a1 ++ []))))) (R := pf1 ++ ([a3] ++ [])) (Own.perm (L2) (by simp))
      obtain ⟨L3, L4, hs⟩ := bind_some hs
      refine zL (b := true) rfl Bd88 rfl (c_ih (M := b1) (f.1, f.2) y889 old many (decide (old ≤ k665)) (b0.1, b0.2.1, b0.2.2.1, s663.1, s663.2) h0 r7 (show BoxV _ vg0 90 [(iv b0.1), (sv va0x1 vn0x1 vc0x1), (iv b0.2.2.1), (sv b6 b7 b8), (.map (some b9))] from hb0) hl0x1 a4 a5 z5 z5.fut L4) rfl (fun h => nomatch h) ?_
      rintro _ j6 ⟨j7, z6, z7, z8, g9, z9, h2, rfl, j8, V0, u2, L5, L6, L7⟩
      have hO := hO.fr3.fr3.fr3.fr3.perm (R := (c3 ++ ([vg0] ++ (a0 ++ (a1 ++ [])))) ++ (pf1 ++ ([a3] ++ []))) (by simp)
      have L8 := Own.pastL hO j8 L7
      have hK := hK.trans (show KeepsF w (pf1 ++ ([vg0] ++ (vf0x3 ++ (vf0x4 ++ [])))) b1 (PastL b1 (c3 ++ ([vg0] ++ (a0 ++ (a1 ++ [])))) c6 j6 (j7 ++ ([vg0] ++ (g9 ++ (h2 ++ []))))) from KeepsF.pastL hC.size (fun g hg => (hO.inN g hg)))
      have h0 := h0.mt j8 hO zl
      have h1 := h1.ma j8 hO zl (fun _ e => (zD (e)))
      have hl0x1 := hl0x1.mt j8 hO zl
      have a2 := a2.ap j8 hO zl (zj mS)
      have a6 := a6.mt j8 hO zl
      have e0 := e0.mt j8 hO zl
      have hC := hC.st j8 hO zl
      have hO := L8
      have h0 := h0.sub (M' := (PastL b1 (c3 ++ ([vg0] ++ (a0 ++ (a1 ++ [])))) c6 j6 (j7 ++ ([vg0] ++ (g9 ++ (h2 ++ [])))))) (fun g hg => .inl hg.1)
      have h1 := h1.sub (M' := (PastL b1 (c3 ++ ([vg0] ++ (a0 ++ (a1 ++ [])))) c6 j6 (j7 ++ ([vg0] ++ (g9 ++ (h2 ++ [])))))) (fun g hg => .inl hg.1)
      have hl0x1 := hl0x1.sub (M' := (PastL b1 (c3 ++ ([vg0] ++ (a0 ++ (a1 ++ [])))) c6 j6 (j7 ++ ([vg0] ++ (g9 ++ (h2 ++ [])))))) (fun g hg => .inl hg.1)
      have a6 := a6.sub (M' := (PastL b1 (c3 ++ ([vg0] ++ (a0 ++ (a1 ++ [])))) c6 j6 (j7 ++ ([vg0] ++ (g9 ++ (h2 ++ [])))))) (fun g hg => .inl hg.1)
      have e0 := e0.sub (M' := (PastL b1 (c3 ++ ([vg0] ++ (a0 ++ (a1 ++ [])))) c6 j6 (j7 ++ ([vg0] ++ (g9 ++ (h2 ++ [])))))) (fun g hg => .inl hg.1)
      have hO := hO.perm (R := j7 ++ ([vg0] ++ (g9 ++ (h2 ++ (pf1 ++ ([a3] ++ [])))))) (by simp)
      have u2 : BoxV j6 vg0 90 [(iv b0.1), (sv va0x1 vn0x1 vc0x1), (iv b0.2.2.1), (sv z6 z7 z8), (.map (some z9))] := u2
      refine x_p 21 (.bool (!L3.1)) rfl (by kernel_rfl) (fun _ => ZA rfl) (fun h => nomatch h) (xe ?_)
      clear hS
      cases hs
      have hO := hO.drop.fr3.fr4.fr4.fr4
      exact ⟨_, (PastL b1 (c3 ++ ([vg0] ++ (a0 ++ (a1 ++ [])))) c6 j6 (j7 ++ ([vg0] ++ (g9 ++ (h2 ++ []))))), z6, z7, z8, g9, z9, h2, fr_m 80 rfl, hC, hO, hK, h0, h1, hl0x1, u2, a2, L5, L6⟩
     ·skip
      obtain ⟨b2, V1, n9, L9, hO, e2⟩ := xH (Frz.os (Frz.rs Frz.int)) r6 hO
      have h0 := h0.sub n9
      have h1 := h1.sub n9
      have hl0x1 := hl0x1.sub n9
      have a4 := a4.sub n9
      have a5 := a5.sub n9
      have a6 := a6.sub n9
      have hK := hK.trans L9
      obtain ⟨y889, q0, hs⟩ := bind_some hs
      have hO := hO.fr3
      obtain ⟨M0, M1, M2, c7, c4, M3, e3, M4, r8⟩ := zah Nf.rs Rw45 q0 h1 e2 hO.inM (by simp) m2
      refine zR (w' := c7) (b := true) (sv M0 M1 M2) rfl (zN rfl rfl (M3 _)) rfl (fun h => nomatch h) ?_
      obtain ⟨h0, h1, hl0x1, hb0, a2, a4, a5, a6⟩ := xt8 e3 h0 h1 hl0x1 hb0 a2 a4 a5 a6
      obtain ⟨e2, hC⟩ := xt2 e3 e2 hC
      have hO := hO.new e3 M4 (zu r8) r8.fpl
      refine x_p 15 (.bool fresh) rfl (by kernel_rfl) (fun _ => zx rfl) (fun h => nomatch h) ?_
      rcases zf hs with ⟨h3, hs⟩ | ⟨h3, hs⟩
      ·skip
       refine x_pn 16 rfl (by kernel_rfl) (tg := 73) (by kernel_rfl) (cb h3) (fun h => nomatch h) (x_pn 17 rfl (by kernel_rfl) (tg := 73) (by kernel_rfl) (cb h3) (fun h => nomatch h) (x_pn 18 rfl (by kernel_rfl) (tg := 73) (by kernel_rfl) (cb h3) (fun h => nomatch h) (x_p 19 (.bool true) rfl (by kernel_rfl) (fun _ => yh (cb h3) rfl) (fun h => nomatch h) (zI (i := 1) (by kernel_rfl) (zR (b := true) (.agg #[(iv f.1), (sv pa0 pn0 pc0)]) rfl (zo rfl ((Zz Ag77 Sz77 a2 [] [(iv f.1), (sv pa0 pn0 pc0)] [] rfl rfl (fun h => nomatch h)) _ (Chg.refl _ _))) rfl (fun h => nomatch h) (zI (i := 20) (by kernel_rfl) ?_))))))
       have hO := hO.fr3.fr3.fr5.fr3
       have M5 := hO
       have A0 := Own.lend (F := (c4 ++ ([vg0] ++ (a0 ++ (a1 ++ []))))) (R := pf1 ++ ([a3] ++ [])) (Own.perm (M5) (by simp))
       obtain ⟨M6, M7, hs⟩ := bind_some hs
       refine zL (b := true) rfl Bd88 rfl (c_ih (M := b2) (f.1, f.2) y889 old many true (b0.1, b0.2.1, b0.2.2.1, s663.1, s663.2) h0 r8 (show BoxV _ vg0 90 [(iv b0.1), (sv va0x1 vn0x1 vc0x1), (iv b0.2.2.1), (sv b6 b7 b8), (.map (some b9))] from hb0) hl0x1 a4 a5 A0 A0.fut M7) rfl (fun h => nomatch h) ?_
       rintro _ j9 ⟨k0, A1, A2, A3, h4, A4, h5, rfl, k1, V2, u3, M8, M9, N0⟩
       have hO := hO.fr3.fr3.fr3.fr3.perm (R := (c4 ++ ([vg0] ++ (a0 ++ (a1 ++ [])))) ++ (pf1 ++ ([a3] ++ []))) (by simp)
       have N1 := Own.pastL hO k1 N0
       have hK := hK.trans (show KeepsF w (pf1 ++ ([vg0] ++ (vf0x3 ++ (vf0x4 ++ [])))) b2 (PastL b2 (c4 ++ ([vg0] ++ (a0 ++ (a1 ++ [])))) c7 j9 (k0 ++ ([vg0] ++ (h4 ++ (h5 ++ []))))) from KeepsF.pastL hC.size (fun g hg => (hO.inN g hg)))
       have h0 := h0.mt k1 hO zl
       have h1 := h1.ma k1 hO zl (fun _ e => (zD (e)))
       have hl0x1 := hl0x1.mt k1 hO zl
       have a2 := a2.ap k1 hO zl (zj mS)
       have a6 := a6.mt k1 hO zl
       have e2 := e2.mt k1 hO zl
       have hC := hC.st k1 hO zl
       have hO := N1
       have h0 := h0.sub (M' := (PastL b2 (c4 ++ ([vg0] ++ (a0 ++ (a1 ++ [])))) c7 j9 (k0 ++ ([vg0] ++ (h4 ++ (h5 ++ [])))))) (fun g hg => .inl hg.1)
       have h1 := h1.sub (M' := (PastL b2 (c4 ++ ([vg0] ++ (a0 ++ (a1 ++ [])))) c7 j9 (k0 ++ ([vg0] ++ (h4 ++ (h5 ++ [])))))) (fun g hg => .inl hg.1)
       have hl0x1 := hl0x1.sub (M' := (PastL b2 (c4 ++ ([vg0] ++ (a0 ++ (a1 ++ [])))) c7 j9 (k0 ++ ([vg0] ++ (h4 ++ (h5 ++ [])))))) (fun g hg => .inl hg.1)
       have a6 := a6.sub (M' := (PastL b2 (c4 ++ ([vg0] ++ (a0 ++ (a1 ++ [])))) c7 j9 (k0 ++ ([vg0] ++ (h4 ++ (h5 ++ [])))))) (fun g hg => .inl hg.1)
       have e2 := e2.sub (M' := (PastL b2 (c4 ++ ([vg0] ++ (a0 ++ (a1 ++ [])))) c7 j9 (k0 ++ ([vg0] ++ (h4 ++ (h5 ++ [])))))) (fun g hg => .inl hg.1)
       have hO := hO.perm (R := k0 ++ ([vg0] ++ (h4 ++ (h5 ++ (pf1 ++ ([a3] ++ [])))))) (by simp)
       have u3 : BoxV j9 vg0 90 [(iv b0.1), (sv va0x1 vn0x1 vc0x1), (iv b0.2.2.1), (sv A1 A2 A3), (.map (some A4))] := u3
       refine x_p 21 (.bool (!M6.1)) rfl (by kernel_rfl) (fun _ => ZA rfl) (fun h => nomatch h) (xe ?_)
       clear hS
       cases hs
       have hO := hO.drop.fr3.fr4.fr4.fr4
       exact ⟨_, (PastL b2 (c4 ++ ([vg0] ++ (a0 ++ (a1 ++ [])))) c7 j9 (k0 ++ ([vg0] ++ (h4 ++ (h5 ++ []))))), A1, A2, A3, h4, A4, h5, fr_m 80 rfl, hC, hO, hK, h0, h1, hl0x1, u3, a2, M8, M9⟩
      refine x_py 16 (iv k665) rfl (by kernel_rfl) (tg := 73) (by kernel_rfl) (cb h3) (fun _ => zx rfl) (fun h => nomatch h) (x_py 17 (iv old) rfl (by kernel_rfl) (tg := 73) (by kernel_rfl) (cb h3) (fun _ => zx rfl) (fun h => nomatch h) (x_py 18 (.bool (decide (old ≤ k665))) rfl (by kernel_rfl) (tg := 73) (by kernel_rfl) (cb h3) (fun _ => Xs rfl rfl) (fun h => nomatch h) (x_p 19 (.bool (decide (old ≤ k665))) rfl (by kernel_rfl) (fun _ => ZU (cb h3) rfl) (fun h => nomatch h) (zI (i := 1) (by kernel_rfl) (zR (b := true) (.agg #[(iv f.1), (sv pa0 pn0 pc0)]) rfl (zo rfl ((Zz Ag77 Sz77 a2 [] [(iv f.1), (sv pa0 pn0 pc0)] [] rfl rfl (fun h => nomatch h)) _ (Chg.refl _ _))) rfl (fun h => nomatch h) (zI (i := 20) (by kernel_rfl) ?_))))))
      have hO := hO.fr3.fr3.fr5.fr3
      have N2 := hO
      have A5 := Own.lend (F := (c4 ++ ([vg0] ++ (a0 ++ (a1 ++ []))))) (R := pf1 ++ ([a3] ++ [])) (Own.perm (N2) (by simp))
      obtain ⟨N3, N4, hs⟩ := bind_some hs
      refine zL (b := true) rfl Bd88 rfl (c_ih (M := b2) (f.1, f.2) y889 old many (decide (old ≤ k665)) (b0.1, b0.2.1, b0.2.2.1, s663.1, s663.2) h0 r8 (show BoxV _ vg0 90 [(iv b0.1), (sv va0x1 vn0x1 vc0x1), (iv b0.2.2.1), (sv b6 b7 b8), (.map (some b9))] from hb0) hl0x1 a4 a5 A5 A5.fut N4) rfl (fun h => nomatch h) ?_
      rintro _ k2 ⟨k3, A6, A7, A8, h6, A9, h7, rfl, k4, V3, u4, N5, N6, N7⟩
      have hO := hO.fr3.fr3.fr3.fr3.perm (R := (c4 ++ ([vg0] ++ (a0 ++ (a1 ++ [])))) ++ (pf1 ++ ([a3] ++ []))) (by simp)
      have N8 := Own.pastL hO k4 N7
      have hK := hK.trans (show KeepsF w (pf1 ++ ([vg0] ++ (vf0x3 ++ (vf0x4 ++ [])))) b2 (PastL b2 (c4 ++ ([vg0] ++ (a0 ++ (a1 ++ [])))) c7 k2 (k3 ++ ([vg0] ++ (h6 ++ (h7 ++ []))))) from KeepsF.pastL hC.size (fun g hg => (hO.inN g hg)))
      have h0 := h0.mt k4 hO zl
      have h1 := h1.ma k4 hO zl (fun _ e => (zD (e)))
      have hl0x1 := hl0x1.mt k4 hO zl
      have a2 := a2.ap k4 hO zl (zj mS)
      have a6 := a6.mt k4 hO zl
      have e2 := e2.mt k4 hO zl
      have hC := hC.st k4 hO zl
      have hO := N8
      have h0 := h0.sub (M' := (PastL b2 (c4 ++ ([vg0] ++ (a0 ++ (a1 ++ [])))) c7 k2 (k3 ++ ([vg0] ++ (h6 ++ (h7 ++ [])))))) (fun g hg => .inl hg.1)
      have h1 := h1.sub (M' := (PastL b2 (c4 ++ ([vg0] ++ (a0 ++ (a1 ++ [])))) c7 k2 (k3 ++ ([vg0] ++ (h6 ++ (h7 ++ [])))))) (fun g hg => .inl hg.1)
      have hl0x1 := hl0x1.sub (M' := (PastL b2 (c4 ++ ([vg0] ++ (a0 ++ (a1 ++ [])))) c7 k2 (k3 ++ ([vg0] ++ (h6 ++ (h7 ++ [])))))) (fun g hg => .inl hg.1)
      have a6 := a6.sub (M' := (PastL b2 (c4 ++ ([vg0] ++ (a0 ++ (a1 ++ [])))) c7 k2 (k3 ++ ([vg0] ++ (h6 ++ (h7 ++ [])))))) (fun g hg => .inl hg.1)
      have e2 := e2.sub (M' := (PastL b2 (c4 ++ ([vg0] ++ (a0 ++ (a1 ++ [])))) c7 k2 (k3 ++ ([vg0] ++ (h6 ++ (h7 ++ [])))))) (fun g hg => .inl hg.1)
      have hO := hO.perm (R := k3 ++ ([vg0] ++ (h6 ++ (h7 ++ (pf1 ++ ([a3] ++ [])))))) (by simp)
      have u4 : BoxV k2 vg0 90 [(iv b0.1), (sv va0x1 vn0x1 vc0x1), (iv b0.2.2.1), (sv A6 A7 A8), (.map (some A9))] := u4
      refine x_p 21 (.bool (!N3.1)) rfl (by kernel_rfl) (fun _ => ZA rfl) (fun h => nomatch h) (xe ?_)
      clear hS
      cases hs
      have hO := hO.drop.fr3.fr4.fr4.fr4
      exact ⟨_, (PastL b2 (c4 ++ ([vg0] ++ (a0 ++ (a1 ++ [])))) c7 k2 (k3 ++ ([vg0] ++ (h6 ++ (h7 ++ []))))), A6, A7, A8, h6, A9, h7, fr_m 80 rfl, hC, hO, hK, h0, h1, hl0x1, u4, a2, N5, N6⟩
   refine zQ [11, 20] Mx rfl ?_
   have f3 := Chg.drew a8
   generalize World.drew a8 = u5 at f3 ⊢
   obtain ⟨h0, h1, hl0x1, hb0, a2, a4, a5, hC⟩ := xt8 f3 h0 h1 hl0x1 hb0 a2 a4 a5 hC
   have hO := hO.ext f3
   have hS := Chg.refl [] u5
   refine xmp 0 rfl rfl hS (xms 2 rfl rfl hS (xmp 3 rfl rfl hS (xq 4 _ rfl (Zs rfl) hS (xq 5 (pq vg0 3) rfl (zk rfl YD) hS (xl 6 rfl (ldx rfl Ag45 Sz45 hb0 rfl) hS (xmi 7 rfl rfl hS ?_))))))
   obtain ⟨r9, N9, hs⟩ := bind_some hs
   obtain ⟨O0, V4, V5, V6, O1, O2, V7⟩ := zS Sl45 Sz34 a4 N9
   have O3 := UE Rd.rs O2
   refine xq 8 _ rfl (ip O1 rfl rfl) hS ?_
   obtain ⟨V8, O4, a7⟩ := Zc Ag34 Sz34 (fun _ => rfl) O3
   obtain ⟨q1, q2, q3, rfl⟩ := yl a7
   refine x_l 9 (sv q1 q2 q3) rfl (by kernel_rfl) (fun w' hw' => zo rfl (O4 w' hw')) hS (xmi 12 rfl rfl hS (xmi 13 rfl rfl hS (xmb 14 rfl rfl hS (wX (i := 1) (j := 10) (by kernel_rfl) ?_ ?_))))
   ·skip
    refine zR (b := false) (.agg #[(iv f.1), (sv pa0 pn0 pc0)]) rfl (zo rfl ((Zz Ag77 Sz77 a2 [] [(iv f.1), (sv pa0 pn0 pc0)] [] rfl rfl (fun h => nomatch h)) _ (Chg.refl _ _))) rfl (fun _ => hS) (zI (i := 10) (by kernel_rfl) ?_)
    obtain ⟨B0, u6, O5, B1, d6, B2⟩ := zg u5 [(sv q1 q2 q3)] 34
    refine zR (w' := B0) (b := false) (sv (some ⟨u6, 0, none⟩) 1 1) rfl (zz rfl (by rw [O5, B1]; kernel_rfl)) rfl (fun _ => hS.ext d6) ?_
    obtain ⟨h0, h1, hl0x1, hb0, a2, a4, a5, a7⟩ := xt8 d6 h0 h1 hl0x1 hb0 a2 a4 a5 a7
    have hC := hC.ext d6
    have hO := hO.new1 d6 B1 B2.lt
    have u7 := Zn (r := rl) (M := c1) (css := [[(sv q1 q2 q3)]]) (fps := [([] : List Nat)]) (xs := ([r9] : tM)) B2 ⟨(yI a7), trivial⟩ (nl rfl) (List.nodup_cons.2 ⟨(fun h => nomatch h), List.nodup_nil⟩)
    have u7 : (RT.os 34 rl).val c1 B0 (sv (some ⟨u6, 0, none⟩) 1 1) [r9] [u6] := u7
    have hS := hS.ext d6
    refine zI (i := 11) (by kernel_rfl) ?_
    obtain ⟨b3, V9, o0, O6, hO, e4⟩ := xH (Frz.os (Frz.rs Frz.int)) u7 hO
    have h0 := h0.sub o0
    have h1 := h1.sub o0
    have hl0x1 := hl0x1.sub o0
    have a4 := a4.sub o0
    have a5 := a5.sub o0
    have a7 := a7.sub o0
    have hK := hK.trans O6
    obtain ⟨e5, e6, hs⟩ := bind_some hs
    have hO := hO.fr3
    have B3 := wF Nf.rs h1
    have B4 := vW h1
    obtain ⟨c8, O7, f4, s0⟩ := zca Nf.rs Rw45 e6 h1 e4 hO.inM (by simp) m2
    have h8 := zC h1
    refine zR (w' := c8) (b := true) (sv pa1 (pn1 + 1) pc1) rfl (zN rfl rfl (O7 _)) rfl (fun h => nomatch h) ?_
    have h0 := h0.mt f4 hO h8
    have hl0x1 := hl0x1.mt f4 hO h8
    have hb0 := hb0.ap f4 hO h8 (zj (zj (zj mS)))
    have a2 := a2.ap f4 hO h8 (zj (zj mS))
    have a4 := a4.ma f4 hO h8 (fun _ e => (zD (e)))
    have a5 := a5.ma f4 hO h8 (fun _ e => (zj (zD (e))))
    have a7 := a7.mt f4 hO h8
    have e4 := e4.mt f4 hO h8
    have hC := hC.st f4 hO h8
    have hO := hO.ext f4
    have s0 : (RT.os 34 rl).val b3 c8 (sv pa1 (pn1 + 1) pc1) e5 pf1 := s0
    refine x_p 15 (.bool fresh) rfl (by kernel_rfl) (fun _ => zx rfl) (fun h => nomatch h) ?_
    rcases zf hs with ⟨h9, hs⟩ | ⟨h9, hs⟩
    ·skip
     refine x_pn 16 rfl (by kernel_rfl) (tg := 73) (by kernel_rfl) (cb h9) (fun h => nomatch h) (x_pn 17 rfl (by kernel_rfl) (tg := 73) (by kernel_rfl) (cb h9) (fun h => nomatch h) (x_pn 18 rfl (by kernel_rfl) (tg := 73) (by kernel_rfl) (cb h9) (fun h => nomatch h) (x_p 19 (.bool true) rfl (by kernel_rfl) (fun _ => yh (cb h9) rfl) (fun h => nomatch h) (zI (i := 20) (by kernel_rfl) ?_))))
     have hO := hO.fr2.fr2.fr4.fr3
     have O8 := hO
     have B5 := Own.lend (F := (pf1 ++ ([vg0] ++ (a0 ++ (a1 ++ []))))) (R := [a3] ++ []) (Own.perm (O8) (by simp))
     obtain ⟨O9, P0, hs⟩ := bind_some hs
     refine zL (b := true) rfl Bd88 rfl (c_ih (M := b3) (f.1, f.2) e5 old many true (b0.1, b0.2.1, b0.2.2.1, s663.1, s663.2) h0 s0 (show BoxV _ vg0 90 [(iv b0.1), (sv va0x1 vn0x1 vc0x1), (iv b0.2.2.1), (sv b6 b7 b8), (.map (some b9))] from hb0) hl0x1 a4 a5 B5 B5.fut P0) rfl (fun h => nomatch h) ?_
     rintro _ m3 ⟨o1, B6, B7, B8, k5, B9, k6, rfl, m4, s1, u9, P1, P2, P3⟩
     have hO := hO.fr3.fr3.fr3.fr3.perm (R := (pf1 ++ ([vg0] ++ (a0 ++ (a1 ++ [])))) ++ ([a3] ++ [])) (by simp)
     have P4 := Own.pastL hO m4 P3
     have hK := hK.trans (show KeepsF w (pf1 ++ ([vg0] ++ (vf0x3 ++ (vf0x4 ++ [])))) b3 (PastL b3 (pf1 ++ ([vg0] ++ (a0 ++ (a1 ++ [])))) c8 m3 (o1 ++ ([vg0] ++ (k5 ++ (k6 ++ []))))) from KeepsF.pastL hC.size (fun g hg => (hO.inN g hg)))
     have h0 := h0.mt m4 hO zl
     have hl0x1 := hl0x1.mt m4 hO zl
     have a2 := a2.ap m4 hO zl mS
     have a7 := a7.mt m4 hO zl
     have e4 := e4.mt m4 hO zl
     have hC := hC.st m4 hO zl
     have hO := P4
     have h0 := h0.sub (M' := (PastL b3 (pf1 ++ ([vg0] ++ (a0 ++ (a1 ++ [])))) c8 m3 (o1 ++ ([vg0] ++ (k5 ++ (k6 ++ [])))))) (fun g hg => .inl hg.1)
     have hl0x1 := hl0x1.sub (M' := (PastL b3 (pf1 ++ ([vg0] ++ (a0 ++ (a1 ++ [])))) c8 m3 (o1 ++ ([vg0] ++ (k5 ++ (k6 ++ [])))))) (fun g hg => .inl hg.1)
     have a7 := a7.sub (M' := (PastL b3 (pf1 ++ ([vg0] ++ (a0 ++ (a1 ++ [])))) c8 m3 (o1 ++ ([vg0] ++ (k5 ++ (k6 ++ [])))))) (fun g hg => .inl hg.1)
     have e4 := e4.sub (M' := (PastL b3 (pf1 ++ ([vg0] ++ (a0 ++ (a1 ++ [])))) c8 m3 (o1 ++ ([vg0] ++ (k5 ++ (k6 ++ [])))))) (fun g hg => .inl hg.1)
     have hO := hO.perm (R := o1 ++ ([vg0] ++ (k5 ++ (k6 ++ ([a3] ++ []))))) (by simp)
     have u9 : BoxV m3 vg0 90 [(iv b0.1), (sv va0x1 vn0x1 vc0x1), (iv b0.2.2.1), (sv B6 B7 B8), (.map (some B9))] := u9
     rw [(YK e6).2] at s1
     obtain ⟨v0, s1⟩ := WC Nf.rs B4 B3 s1
     have v0 := v0.symm
     subst v0
     refine x_p 21 (.bool (!O9.1)) rfl (by kernel_rfl) (fun _ => ZA rfl) (fun h => nomatch h) (xe ?_)
     clear hS
     cases hs
     have hO := hO.fr1.fr1.fr4.fr4.fr4
     exact ⟨_, (PastL b3 (pf1 ++ ([vg0] ++ (a0 ++ (a1 ++ [])))) c8 m3 (pf1 ++ ([vg0] ++ (k5 ++ (k6 ++ []))))), B6, B7, B8, k5, B9, k6, fr_m 80 rfl, hC, hO, hK, h0, s1, hl0x1, u9, a2, P1, P2⟩
    refine x_py 16 (iv k665) rfl (by kernel_rfl) (tg := 73) (by kernel_rfl) (cb h9) (fun _ => zx rfl) (fun h => nomatch h) (x_py 17 (iv old) rfl (by kernel_rfl) (tg := 73) (by kernel_rfl) (cb h9) (fun _ => zx rfl) (fun h => nomatch h) (x_py 18 (.bool (decide (old ≤ k665))) rfl (by kernel_rfl) (tg := 73) (by kernel_rfl) (cb h9) (fun _ => Xs rfl rfl) (fun h => nomatch h) (x_p 19 (.bool (decide (old ≤ k665))) rfl (by kernel_rfl) (fun _ => ZU (cb h9) rfl) (fun h => nomatch h) (zI (i := 20) (by kernel_rfl) ?_))))
    have hO := hO.fr2.fr2.fr4.fr3
    have P5 := hO
    have C0 := Own.lend (F := (pf1 ++ ([vg0] ++ (a0 ++ (a1 ++ []))))) (R := [a3] ++ []) (Own.perm (P5) (by simp))
    obtain ⟨P6, P7, hs⟩ := bind_some hs
    refine zL (b := true) rfl Bd88 rfl (c_ih (M := b3) (f.1, f.2) e5 old many (decide (old ≤ k665)) (b0.1, b0.2.1, b0.2.2.1, s663.1, s663.2) h0 s0 (show BoxV _ vg0 90 [(iv b0.1), (sv va0x1 vn0x1 vc0x1), (iv b0.2.2.1), (sv b6 b7 b8), (.map (some b9))] from hb0) hl0x1 a4 a5 C0 C0.fut P7) rfl (fun h => nomatch h) ?_
    rintro _ m5 ⟨o2, C1, C2, C3, k7, C4, k8, rfl, m6, s2, v1, P8, P9, Q0⟩
    have hO := hO.fr3.fr3.fr3.fr3.perm (R := (pf1 ++ ([vg0] ++ (a0 ++ (a1 ++ [])))) ++ ([a3] ++ [])) (by simp)
    have Q1 := Own.pastL hO m6 Q0
    have hK := hK.trans (show KeepsF w (pf1 ++ ([vg0] ++ (vf0x3 ++ (vf0x4 ++ [])))) b3 (PastL b3 (pf1 ++ ([vg0] ++ (a0 ++ (a1 ++ [])))) c8 m5 (o2 ++ ([vg0] ++ (k7 ++ (k8 ++ []))))) from KeepsF.pastL hC.size (fun g hg => (hO.inN g hg)))
    have h0 := h0.mt m6 hO zl
    have hl0x1 := hl0x1.mt m6 hO zl
    have a2 := a2.ap m6 hO zl mS
    have a7 := a7.mt m6 hO zl
    have e4 := e4.mt m6 hO zl
    have hC := hC.st m6 hO zl
    have hO := Q1
    have h0 := h0.sub (M' := (PastL b3 (pf1 ++ ([vg0] ++ (a0 ++ (a1 ++ [])))) c8 m5 (o2 ++ ([vg0] ++ (k7 ++ (k8 ++ [])))))) (fun g hg => .inl hg.1)
    have hl0x1 := hl0x1.sub (M' := (PastL b3 (pf1 ++ ([vg0] ++ (a0 ++ (a1 ++ [])))) c8 m5 (o2 ++ ([vg0] ++ (k7 ++ (k8 ++ [])))))) (fun g hg => .inl hg.1)
    have a7 := a7.sub (M' := (PastL b3 (pf1 ++ ([vg0] ++ (a0 ++ (a1 ++ [])))) c8 m5 (o2 ++ ([vg0] ++ (k7 ++ (k8 ++ [])))))) (fun g hg => .inl hg.1)
    have e4 := e4.sub (M' := (PastL b3 (pf1 ++ ([vg0] ++ (a0 ++ (a1 ++ [])))) c8 m5 (o2 ++ ([vg0] ++ (k7 ++ (k8 ++ [])))))) (fun g hg => .inl hg.1)
    have hO := hO.perm (R := o2 ++ ([vg0] ++ (k7 ++ (k8 ++ ([a3] ++ []))))) (by simp)
    have v1 : BoxV m5 vg0 90 [(iv b0.1), (sv va0x1 vn0x1 vc0x1), (iv b0.2.2.1), (sv C1 C2 C3), (.map (some C4))] := v1
    rw [(YK e6).2] at s2
    obtain ⟨v2, s2⟩ := WC Nf.rs B4 B3 s2
    have v2 := v2.symm
    subst v2
    refine x_p 21 (.bool (!P6.1)) rfl (by kernel_rfl) (fun _ => ZA rfl) (fun h => nomatch h) (xe ?_)
    clear hS
    cases hs
    have hO := hO.fr1.fr1.fr4.fr4.fr4
    exact ⟨_, (PastL b3 (pf1 ++ ([vg0] ++ (a0 ++ (a1 ++ [])))) c8 m5 (pf1 ++ ([vg0] ++ (k7 ++ (k8 ++ []))))), C1, C2, C3, k7, C4, k8, fr_m 80 rfl, hC, hO, hK, h0, s2, hl0x1, v1, a2, P8, P9⟩
   ·skip
    obtain ⟨C5, v3, Q2, C6, d7, C7⟩ := zg u5 [(sv q1 q2 q3)] 34
    refine zR (w' := C5) (b := false) (sv (some ⟨v3, 0, none⟩) 1 1) rfl (zz rfl (by rw [Q2, C6]; kernel_rfl)) rfl (fun _ => hS.ext d7) ?_
    obtain ⟨h0, h1, hl0x1, hb0, a2, a4, a5, a7⟩ := xt8 d7 h0 h1 hl0x1 hb0 a2 a4 a5 a7
    have hC := hC.ext d7
    have hO := hO.new1 d7 C6 C7.lt
    have s3 := Zn (r := rl) (M := c1) (css := [[(sv q1 q2 q3)]]) (fps := [([] : List Nat)]) (xs := ([r9] : tM)) C7 ⟨(yI a7), trivial⟩ (nl rfl) (List.nodup_cons.2 ⟨(fun h => nomatch h), List.nodup_nil⟩)
    have s3 : (RT.os 34 rl).val c1 C5 (sv (some ⟨v3, 0, none⟩) 1 1) [r9] [v3] := s3
    have hS := hS.ext d7
    refine wX (i := 1) (j := 11) (by kernel_rfl) ?_ ?_
    ·skip
     refine zR (b := false) (.agg #[(iv f.1), (sv pa0 pn0 pc0)]) rfl (zo rfl ((Zz Ag77 Sz77 a2 [] [(iv f.1), (sv pa0 pn0 pc0)] [] rfl rfl (fun h => nomatch h)) _ (Chg.refl _ _))) rfl (fun _ => hS) (zI (i := 11) (by kernel_rfl) ?_)
     obtain ⟨b4, W0, o3, Q3, hO, e7⟩ := xH (Frz.os (Frz.rs Frz.int)) s3 hO
     have h0 := h0.sub o3
     have h1 := h1.sub o3
     have hl0x1 := hl0x1.sub o3
     have a4 := a4.sub o3
     have a5 := a5.sub o3
     have a7 := a7.sub o3
     have hK := hK.trans Q3
     obtain ⟨e5, e6, hs⟩ := bind_some hs
     have hO := hO.fr3
     have C8 := wF Nf.rs h1
     have C9 := vW h1
     obtain ⟨c9, Q4, f5, s4⟩ := zca Nf.rs Rw45 e6 h1 e7 hO.inM (by simp) m2
     have i0 := zC h1
     refine zR (w' := c9) (b := true) (sv pa1 (pn1 + 1) pc1) rfl (zN rfl rfl (Q4 _)) rfl (fun h => nomatch h) ?_
     have h0 := h0.mt f5 hO i0
     have hl0x1 := hl0x1.mt f5 hO i0
     have hb0 := hb0.ap f5 hO i0 (zj (zj (zj mS)))
     have a2 := a2.ap f5 hO i0 (zj (zj mS))
     have a4 := a4.ma f5 hO i0 (fun _ e => (zD (e)))
     have a5 := a5.ma f5 hO i0 (fun _ e => (zj (zD (e))))
     have a7 := a7.mt f5 hO i0
     have e7 := e7.mt f5 hO i0
     have hC := hC.st f5 hO i0
     have hO := hO.ext f5
     have s4 : (RT.os 34 rl).val b4 c9 (sv pa1 (pn1 + 1) pc1) e5 pf1 := s4
     refine x_p 15 (.bool fresh) rfl (by kernel_rfl) (fun _ => zx rfl) (fun h => nomatch h) ?_
     rcases zf hs with ⟨i1, hs⟩ | ⟨i1, hs⟩
     ·skip
      refine x_pn 16 rfl (by kernel_rfl) (tg := 73) (by kernel_rfl) (cb i1) (fun h => nomatch h) (x_pn 17 rfl (by kernel_rfl) (tg := 73) (by kernel_rfl) (cb i1) (fun h => nomatch h) (x_pn 18 rfl (by kernel_rfl) (tg := 73) (by kernel_rfl) (cb i1) (fun h => nomatch h) (x_p 19 (.bool true) rfl (by kernel_rfl) (fun _ => yh (cb i1) rfl) (fun h => nomatch h) (zI (i := 20) (by kernel_rfl) ?_))))
      have hO := hO.fr2.fr2.fr4.fr3
      have Q5 := hO
      have D0 := Own.lend (F := (pf1 ++ ([vg0] ++ (a0 ++ (a1 ++ []))))) (R := [a3] ++ []) (Own.perm (Q5) (by simp))
      obtain ⟨Q6, Q7, hs⟩ := bind_some hs
      refine zL (b := true) rfl Bd88 rfl (c_ih (M := b4) (f.1, f.2) e5 old many true (b0.1, b0.2.1, b0.2.2.1, s663.1, s663.2) h0 s4 (show BoxV _ vg0 90 [(iv b0.1), (sv va0x1 vn0x1 vc0x1), (iv b0.2.2.1), (sv b6 b7 b8), (.map (some b9))] from hb0) hl0x1 a4 a5 D0 D0.fut Q7) rfl (fun h => nomatch h) ?_
      rintro _ m7 ⟨o4, D1, D2, D3, k9, D4, l0, rfl, m8, s5, v4, Q8, Q9, R0⟩
      have hO := hO.fr3.fr3.fr3.fr3.perm (R := (pf1 ++ ([vg0] ++ (a0 ++ (a1 ++ [])))) ++ ([a3] ++ [])) (by simp)
      have R1 := Own.pastL hO m8 R0
      have hK := hK.trans (show KeepsF w (pf1 ++ ([vg0] ++ (vf0x3 ++ (vf0x4 ++ [])))) b4 (PastL b4 (pf1 ++ ([vg0] ++ (a0 ++ (a1 ++ [])))) c9 m7 (o4 ++ ([vg0] ++ (k9 ++ (l0 ++ []))))) from KeepsF.pastL hC.size (fun g hg => (hO.inN g hg)))
      have h0 := h0.mt m8 hO zl
      have hl0x1 := hl0x1.mt m8 hO zl
      have a2 := a2.ap m8 hO zl mS
      have a7 := a7.mt m8 hO zl
      have e7 := e7.mt m8 hO zl
      have hC := hC.st m8 hO zl
      have hO := R1
      have h0 := h0.sub (M' := (PastL b4 (pf1 ++ ([vg0] ++ (a0 ++ (a1 ++ [])))) c9 m7 (o4 ++ ([vg0] ++ (k9 ++ (l0 ++ [])))))) (fun g hg => .inl hg.1)
      have hl0x1 := hl0x1.sub (M' := (PastL b4 (pf1 ++ ([vg0] ++ (a0 ++ (a1 ++ [])))) c9 m7 (o4 ++ ([vg0] ++ (k9 ++ (l0 ++ [])))))) (fun g hg => .inl hg.1)
      have a7 := a7.sub (M' := (PastL b4 (pf1 ++ ([vg0] ++ (a0 ++ (a1 ++ [])))) c9 m7 (o4 ++ ([vg0] ++ (k9 ++ (l0 ++ [])))))) (fun g hg => .inl hg.1)
      have e7 := e7.sub (M' := (PastL b4 (pf1 ++ ([vg0] ++ (a0 ++ (a1 ++ [])))) c9 m7 (o4 ++ ([vg0] ++ (k9 ++ (l0 ++ [])))))) (fun g hg => .inl hg.1)
      have hO := hO.perm (R := o4 ++ ([vg0] ++ (k9 ++ (l0 ++ ([a3] ++ []))))) (by simp)
      have v4 : BoxV m7 vg0 90 [(iv b0.1), (sv va0x1 vn0x1 vc0x1), (iv b0.2.2.1), (sv D1 D2 D3), (.map (some D4))] := v4
      rw [(YK e6).2] at s5
      obtain ⟨v5, s5⟩ := WC Nf.rs C9 C8 s5
      have v5 := v5.symm
      subst v5
      refine x_p 21 (.bool (!Q6.1)) rfl (by kernel_rfl) (fun _ => ZA rfl) (fun h => nomatch h) (xe ?_)
      clear hS
      cases hs
      have hO := hO.fr1.fr1.fr4.fr4.fr4
      exact ⟨_, (PastL b4 (pf1 ++ ([vg0] ++ (a0 ++ (a1 ++ [])))) c9 m7 (pf1 ++ ([vg0] ++ (k9 ++ (l0 ++ []))))), D1, D2, D3, k9, D4, l0, fr_m 80 rfl, hC, hO, hK, h0, s5, hl0x1, v4, a2, Q8, Q9⟩
     refine x_py 16 (iv k665) rfl (by kernel_rfl) (tg := 73) (by kernel_rfl) (cb i1) (fun _ => zx rfl) (fun h => nomatch h) (x_py 17 (iv old) rfl (by kernel_rfl) (tg := 73) (by kernel_rfl) (cb i1) (fun _ => zx rfl) (fun h => nomatch h) (x_py 18 (.bool (decide (old ≤ k665))) rfl (by kernel_rfl) (tg := 73) (by kernel_rfl) (cb i1) (fun _ => Xs rfl rfl) (fun h => nomatch h) (x_p 19 (.bool (decide (old ≤ k665))) rfl (by kernel_rfl) (fun _ => ZU (cb i1) rfl) (fun h => nomatch h) (zI (i := 20) (by kernel_rfl) ?_))))
     have hO := hO.fr2.fr2.fr4.fr3
     have R2 := hO
     have D5 := Own.lend (F := (pf1 ++ ([vg0] ++ (a0 ++ (a1 ++ []))))) (R := [a3] ++ []) (Own.perm (R2) (by simp))
     obtain ⟨R3, R4, hs⟩ := bind_some hs
     refine zL (b := true) rfl Bd88 rfl (c_ih (M := b4) (f.1, f.2) e5 old many (decide (old ≤ k665)) (b0.1, b0.2.1, b0.2.2.1, s663.1, s663.2) h0 s4 (show BoxV _ vg0 90 [(iv b0.1), (sv va0x1 vn0x1 vc0x1), (iv b0.2.2.1), (sv b6 b7 b8), (.map (some b9))] from hb0) hl0x1 a4 a5 D5 D5.fut R4) rfl (fun h => nomatch h) ?_
     rintro _ m9 ⟨o5, D6, D7, D8, l1, D9, l2, rfl, n0, s6, v6, R5, R6, R7⟩
     have hO := hO.fr3.fr3.fr3.fr3.perm (R := (pf1 ++ ([vg0] ++ (a0 ++ (a1 ++ [])))) ++ ([a3] ++ [])) (by simp)
     have R8 := Own.pastL hO n0 R7
     have hK := hK.trans (show KeepsF w (pf1 ++ ([vg0] ++ (vf0x3 ++ (vf0x4 ++ [])))) b4 (PastL b4 (pf1 ++ ([vg0] ++ (a0 ++ (a1 ++ [])))) c9 m9 (o5 ++ ([vg0] ++ (l1 ++ (l2 ++ []))))) from KeepsF.pastL hC.size (fun g hg => (hO.inN g hg)))
     have h0 := h0.mt n0 hO zl
     have hl0x1 := hl0x1.mt n0 hO zl
     have a2 := a2.ap n0 hO zl mS
     have a7 := a7.mt n0 hO zl
     have e7 := e7.mt n0 hO zl
     have hC := hC.st n0 hO zl
     have hO := R8
     have h0 := h0.sub (M' := (PastL b4 (pf1 ++ ([vg0] ++ (a0 ++ (a1 ++ [])))) c9 m9 (o5 ++ ([vg0] ++ (l1 ++ (l2 ++ [])))))) (fun g hg => .inl hg.1)
     have hl0x1 := hl0x1.sub (M' := (PastL b4 (pf1 ++ ([vg0] ++ (a0 ++ (a1 ++ [])))) c9 m9 (o5 ++ ([vg0] ++ (l1 ++ (l2 ++ [])))))) (fun g hg => .inl hg.1)
     have a7 := a7.sub (M' := (PastL b4 (pf1 ++ ([vg0] ++ (a0 ++ (a1 ++ [])))) c9 m9 (o5 ++ ([vg0] ++ (l1 ++ (l2 ++ [])))))) (fun g hg => .inl hg.1)
     have e7 := e7.sub (M' := (PastL b4 (pf1 ++ ([vg0] ++ (a0 ++ (a1 ++ [])))) c9 m9 (o5 ++ ([vg0] ++ (l1 ++ (l2 ++ [])))))) (fun g hg => .inl hg.1)
     have hO := hO.perm (R := o5 ++ ([vg0] ++ (l1 ++ (l2 ++ ([a3] ++ []))))) (by simp)
     have v6 : BoxV m9 vg0 90 [(iv b0.1), (sv va0x1 vn0x1 vc0x1), (iv b0.2.2.1), (sv D6 D7 D8), (.map (some D9))] := v6
     rw [(YK e6).2] at s6
     obtain ⟨v7, s6⟩ := WC Nf.rs C9 C8 s6
     have v7 := v7.symm
     subst v7
     refine x_p 21 (.bool (!R3.1)) rfl (by kernel_rfl) (fun _ => ZA rfl) (fun h => nomatch h) (xe ?_)
     clear hS
     cases hs
     have hO := hO.fr1.fr1.fr4.fr4.fr4
     exact ⟨_, (PastL b4 (pf1 ++ ([vg0] ++ (a0 ++ (a1 ++ [])))) c9 m9 (pf1 ++ ([vg0] ++ (l1 ++ (l2 ++ []))))), D6, D7, D8, l1, D9, l2, fr_m 80 rfl, hC, hO, hK, h0, s6, hl0x1, v6, a2, R5, R6⟩
    ·skip
     obtain ⟨b5, W1, o6, R9, hO, e8⟩ := xH (Frz.os (Frz.rs Frz.int)) s3 hO
     have h0 := h0.sub o6
     have h1 := h1.sub o6
     have hl0x1 := hl0x1.sub o6
     have a4 := a4.sub o6
     have a5 := a5.sub o6
     have a7 := a7.sub o6
     have hK := hK.trans R9
     obtain ⟨e5, e6, hs⟩ := bind_some hs
     have hO := hO.fr3
     have E0 := wF Nf.rs h1
     have E1 := vW h1
     obtain ⟨d0, S0, f6, s7⟩ := zca Nf.rs Rw45 e6 h1 e8 hO.inM (by simp) m2
     have i2 := zC h1
     refine zR (w' := d0) (b := true) (sv pa1 (pn1 + 1) pc1) rfl (zN rfl rfl (S0 _)) rfl (fun h => nomatch h) ?_
     have h0 := h0.mt f6 hO i2
     have hl0x1 := hl0x1.mt f6 hO i2
     have hb0 := hb0.ap f6 hO i2 (zj (zj (zj mS)))
     have a2 := a2.ap f6 hO i2 (zj (zj mS))
     have a4 := a4.ma f6 hO i2 (fun _ e => (zD (e)))
     have a5 := a5.ma f6 hO i2 (fun _ e => (zj (zD (e))))
     have a7 := a7.mt f6 hO i2
     have e8 := e8.mt f6 hO i2
     have hC := hC.st f6 hO i2
     have hO := hO.ext f6
     have s7 : (RT.os 34 rl).val b5 d0 (sv pa1 (pn1 + 1) pc1) e5 pf1 := s7
     refine x_p 15 (.bool fresh) rfl (by kernel_rfl) (fun _ => zx rfl) (fun h => nomatch h) ?_
     rcases zf hs with ⟨i3, hs⟩ | ⟨i3, hs⟩
     ·skip
      refine x_pn 16 rfl (by kernel_rfl) (tg := 73) (by kernel_rfl) (cb i3) (fun h => nomatch h) (x_pn 17 rfl (by kernel_rfl) (tg := 73) (by kernel_rfl) (cb i3) (fun h => nomatch h) (x_pn 18 rfl (by kernel_rfl) (tg := 73) (by kernel_rfl) (cb i3) (fun h => nomatch h) (x_p 19 (.bool true) rfl (by kernel_rfl) (fun _ => yh (cb i3) rfl) (fun h => nomatch h) (zI (i := 1) (by kernel_rfl) (zR (b := true) (.agg #[(iv f.1), (sv pa0 pn0 pc0)]) rfl (zo rfl ((Zz Ag77 Sz77 a2 [] [(iv f.1), (sv pa0 pn0 pc0)] [] rfl rfl (fun h => nomatch h)) _ (Chg.refl _ _))) rfl (fun h => nomatch h) (zI (i := 20) (by kernel_rfl) ?_))))))
      have hO := hO.fr2.fr2.fr4.fr3
      have S1 := hO
      have E2 := Own.lend (F := (pf1 ++ ([vg0] ++ (a0 ++ (a1 ++ []))))) (R := [a3] ++ []) (Own.perm (S1) (by simp))
      obtain ⟨S2, S3, hs⟩ := bind_some hs
      refine zL (b := true) rfl Bd88 rfl (c_ih (M := b5) (f.1, f.2) e5 old many true (b0.1, b0.2.1, b0.2.2.1, s663.1, s663.2) h0 s7 (show BoxV _ vg0 90 [(iv b0.1), (sv va0x1 vn0x1 vc0x1), (iv b0.2.2.1), (sv b6 b7 b8), (.map (some b9))] from hb0) hl0x1 a4 a5 E2 E2.fut S3) rfl (fun h => nomatch h) ?_
      rintro _ n1 ⟨o7, E3, E4, E5, l3, E6, l4, rfl, n2, s8, v8, S4, S5, S6⟩
      have hO := hO.fr3.fr3.fr3.fr3.perm (R := (pf1 ++ ([vg0] ++ (a0 ++ (a1 ++ [])))) ++ ([a3] ++ [])) (by simp)
      have S7 := Own.pastL hO n2 S6
      have hK := hK.trans (show KeepsF w (pf1 ++ ([vg0] ++ (vf0x3 ++ (vf0x4 ++ [])))) b5 (PastL b5 (pf1 ++ ([vg0] ++ (a0 ++ (a1 ++ [])))) d0 n1 (o7 ++ ([vg0] ++ (l3 ++ (l4 ++ []))))) from KeepsF.pastL hC.size (fun g hg => (hO.inN g hg)))
      have h0 := h0.mt n2 hO zl
      have hl0x1 := hl0x1.mt n2 hO zl
      have a2 := a2.ap n2 hO zl mS
      have a7 := a7.mt n2 hO zl
      have e8 := e8.mt n2 hO zl
      have hC := hC.st n2 hO zl
      have hO := S7
      have h0 := h0.sub (M' := (PastL b5 (pf1 ++ ([vg0] ++ (a0 ++ (a1 ++ [])))) d0 n1 (o7 ++ ([vg0] ++ (l3 ++ (l4 ++ [])))))) (fun g hg => .inl hg.1)
      have hl0x1 := hl0x1.sub (M' := (PastL b5 (pf1 ++ ([vg0] ++ (a0 ++ (a1 ++ [])))) d0 n1 (o7 ++ ([vg0] ++ (l3 ++ (l4 ++ [])))))) (fun g hg => .inl hg.1)
      have a7 := a7.sub (M' := (PastL b5 (pf1 ++ ([vg0] ++ (a0 ++ (a1 ++ [])))) d0 n1 (o7 ++ ([vg0] ++ (l3 ++ (l4 ++ [])))))) (fun g hg => .inl hg.1)
      have e8 := e8.sub (M' := (PastL b5 (pf1 ++ ([vg0] ++ (a0 ++ (a1 ++ [])))) d0 n1 (o7 ++ ([vg0] ++ (l3 ++ (l4 ++ [])))))) (fun g hg => .inl hg.1)
      have hO := hO.perm (R := o7 ++ ([vg0] ++ (l3 ++ (l4 ++ ([a3] ++ []))))) (by simp)
      have v8 : BoxV n1 vg0 90 [(iv b0.1), (sv va0x1 vn0x1 vc0x1), (iv b0.2.2.1), (sv E3 E4 E5), (.map (some E6))] := v8
      rw [(YK e6).2] at s8
      obtain ⟨v9, s8⟩ := WC Nf.rs E1 E0 s8
      have v9 := v9.symm
      subst v9
      refine x_p 21 (.bool (!S2.1)) rfl (by kernel_rfl) (fun _ => ZA rfl) (fun h => nomatch h) (xe ?_)
      clear hS
      cases hs
      have hO := hO.fr1.fr1.fr4.fr4.fr4
      exact ⟨_, (PastL b5 (pf1 ++ ([vg0] ++ (a0 ++ (a1 ++ [])))) d0 n1 (pf1 ++ ([vg0] ++ (l3 ++ (l4 ++ []))))), E3, E4, E5, l3, E6, l4, fr_m 80 rfl, hC, hO, hK, h0, s8, hl0x1, v8, a2, S4, S5⟩
     refine x_py 16 (iv k665) rfl (by kernel_rfl) (tg := 73) (by kernel_rfl) (cb i3) (fun _ => zx rfl) (fun h => nomatch h) (x_py 17 (iv old) rfl (by kernel_rfl) (tg := 73) (by kernel_rfl) (cb i3) (fun _ => zx rfl) (fun h => nomatch h) (x_py 18 (.bool (decide (old ≤ k665))) rfl (by kernel_rfl) (tg := 73) (by kernel_rfl) (cb i3) (fun _ => Xs rfl rfl) (fun h => nomatch h) (x_p 19 (.bool (decide (old ≤ k665))) rfl (by kernel_rfl) (fun _ => ZU (cb i3) rfl) (fun h => nomatch h) (zI (i := 1) (by kernel_rfl) (zR (b := true) (.agg #[(iv f.1), (sv pa0 pn0 pc0)]) rfl (zo rfl ((Zz Ag77 Sz77 a2 [] [(iv f.1), (sv pa0 pn0 pc0)] [] rfl rfl (fun h => nomatch h)) _ (Chg.refl _ _))) rfl (fun h => nomatch h) (zI (i := 20) (by kernel_rfl) ?_))))))
     have hO := hO.fr2.fr2.fr4.fr3
     have S8 := hO
     have E7 := Own.lend (F := (pf1 ++ ([vg0] ++ (a0 ++ (a1 ++ []))))) (R := [a3] ++ []) (Own.perm (S8) (by simp))
     obtain ⟨S9, T0, hs⟩ := bind_some hs
     refine zL (b := true) rfl Bd88 rfl (c_ih (M := b5) (f.1, f.2) e5 old many (decide (old ≤ k665)) (b0.1, b0.2.1, b0.2.2.1, s663.1, s663.2) h0 s7 (show BoxV _ vg0 90 [(iv b0.1), (sv va0x1 vn0x1 vc0x1), (iv b0.2.2.1), (sv b6 b7 b8), (.map (some b9))] from hb0) hl0x1 a4 a5 E7 E7.fut T0) rfl (fun h => nomatch h) ?_
     rintro _ n3 ⟨o8, E8, E9, F0, l5, F1, l6, rfl, n4, s9, w1, T1, T2, T3⟩
     have hO := hO.fr3.fr3.fr3.fr3.perm (R := (pf1 ++ ([vg0] ++ (a0 ++ (a1 ++ [])))) ++ ([a3] ++ [])) (by simp)
     have T4 := Own.pastL hO n4 T3
     have hK := hK.trans (show KeepsF w (pf1 ++ ([vg0] ++ (vf0x3 ++ (vf0x4 ++ [])))) b5 (PastL b5 (pf1 ++ ([vg0] ++ (a0 ++ (a1 ++ [])))) d0 n3 (o8 ++ ([vg0] ++ (l5 ++ (l6 ++ []))))) from KeepsF.pastL hC.size (fun g hg => (hO.inN g hg)))
     have h0 := h0.mt n4 hO zl
     have hl0x1 := hl0x1.mt n4 hO zl
     have a2 := a2.ap n4 hO zl mS
     have a7 := a7.mt n4 hO zl
     have e8 := e8.mt n4 hO zl
     have hC := hC.st n4 hO zl
     have hO := T4
     have h0 := h0.sub (M' := (PastL b5 (pf1 ++ ([vg0] ++ (a0 ++ (a1 ++ [])))) d0 n3 (o8 ++ ([vg0] ++ (l5 ++ (l6 ++ [])))))) (fun g hg => .inl hg.1)
     have hl0x1 := hl0x1.sub (M' := (PastL b5 (pf1 ++ ([vg0] ++ (a0 ++ (a1 ++ [])))) d0 n3 (o8 ++ ([vg0] ++ (l5 ++ (l6 ++ [])))))) (fun g hg => .inl hg.1)
     have a7 := a7.sub (M' := (PastL b5 (pf1 ++ ([vg0] ++ (a0 ++ (a1 ++ [])))) d0 n3 (o8 ++ ([vg0] ++ (l5 ++ (l6 ++ [])))))) (fun g hg => .inl hg.1)
     have e8 := e8.sub (M' := (PastL b5 (pf1 ++ ([vg0] ++ (a0 ++ (a1 ++ [])))) d0 n3 (o8 ++ ([vg0] ++ (l5 ++ (l6 ++ [])))))) (fun g hg => .inl hg.1)
     have hO := hO.perm (R := o8 ++ ([vg0] ++ (l5 ++ (l6 ++ ([a3] ++ []))))) (by simp)
     have w1 : BoxV n3 vg0 90 [(iv b0.1), (sv va0x1 vn0x1 vc0x1), (iv b0.2.2.1), (sv E8 E9 F0), (.map (some F1))] := w1
     rw [(YK e6).2] at s9
     obtain ⟨w2, s9⟩ := WC Nf.rs E1 E0 s9
     have w2 := w2.symm
     subst w2
     refine x_p 21 (.bool (!S9.1)) rfl (by kernel_rfl) (fun _ => ZA rfl) (fun h => nomatch h) (xe ?_)
     clear hS
     cases hs
     have hO := hO.fr1.fr1.fr4.fr4.fr4
     exact ⟨_, (PastL b5 (pf1 ++ ([vg0] ++ (a0 ++ (a1 ++ [])))) d0 n3 (pf1 ++ ([vg0] ++ (l5 ++ (l6 ++ []))))), E8, E9, F0, l5, F1, l6, fr_m 80 rfl, hC, hO, hK, h0, s9, hl0x1, w1, a2, T1, T2⟩
  rintro q5 f1 ⟨σ, g0, p1, p2, p3, p4, p5, p6, rfl, hC, hO, hK, h0, h1, hl0x1, hb0, a2, F2, F3⟩
  rcases zf hs with ⟨w3, hs⟩ | ⟨w3, hs⟩
  ·refine zh (cb w3) (c_sr (ab rfl (zb (wp_ret ?_))))
   cases hs
   have hO := hO.fr2.drop.fr1.fr1.fr3.fr3
   exact ⟨_, pf1, p1, p2, p3, p4, p5, p6, fr_m 80 rfl, hC, (KeepsF.out hK hO.allM h1), hb0, (KeepsF.out hK hO.allM F2), (KeepsF.out hK hO.allM F3), hO.top⟩
  refine zi (cb w3) (wp_skip (ze (mi rfl (za _ (yad rfl rfl) (ai rfl (zb ?_))))))
  cases hs
  have hO := hO.fr4.fr4.fr4.fr4.fr4
  exact ⟨_, g0, p1, p2, p3, p4, p5, p6, zG 80 ⟨rfl, rfl, rfl, rfl, rfl, rfl, congrArg (Value.int .i64) hw, trivial⟩, hC, hO, hK, h0, h1, hl0x1, hb0, a2, F2, F3⟩
 ·skip
  have hO := hO.fr2.fr2.fr2.fr4.fr4
  exact ⟨_, M, va0x3, vn0x3, vc0x3, vf0x3, vn0x4, vf0x4, fr_m 80 rfl, hC, hO, KeepsF.refl, h0, h1, hl0x1, hb0, a2, hl0x3, hl0x4⟩
 cases o667 with
 | nx _ => exact True.intro
 | rt r_ =>
  have hs := zq hs
  intro q5 F4 hK
  cases hs
  exact hK
 | br s663 =>
  have hs := zp hs
  rintro q5 a8 ⟨σ, i5, q9, r0, r1, r2, r3, r4, rfl, hC, hO, hK, h0, h1, hl0x1, hb0, a2, T5, T6⟩
  refine c_sr (ab rfl (zb (wp_ret ?_)))
  cases hs
  have hO := hO.fr2.drop.fr1.fr1.fr3.fr3
  exact ⟨_, pf1, q9, r0, r1, r2, r3, r4, fr_m 80 rfl, hC, (KeepsF.out hK hO.allM h1), hb0, (KeepsF.out hK hO.allM T5), (KeepsF.out hK hO.allM T6), hO.top⟩

theorem Bd86 : zF Tryz.prog 86 := zJ Tryz.func86 (by kernel_rfl) rfl

def Xd (M : Nat → Prop) (w0 : World) (r : (Option (tA × Int × tM × (List (ByteArray × Int)))) × Bool) (a : Act) (w : World) : Prop :=
  ∃ (σ : Nv) (rn0 : Value) (rf0 : List Nat), a = fr 72 (ovl σ [(6, rn0), (7, (.bool r.2))]) ∧ Chg [] w0 w ∧ (RT.op 90 (RT.pr (RT.pr ri rp) (RT.pr ri (RT.pr (RT.os 34 rl) (RT.mo (Value.int .i64)))))).val (PastL M [] w0 w (rf0 ++ [])) w rn0 r.1 rf0 ∧ Own (Nw w0 []) (fun _ => True) w (rf0 ++ [])
def yU (a_ : Int × (List (Int × (List Int)))) (k : Int) (gens : List (List Int)) : Option ((Option ((Int × (List (Int × (List Int)))) × Int × (List (List Int)) × (List (ByteArray × Int)))) × Bool) :=
  (forR (S := (List (List Int)) × (List (ByteArray × Int))) (R := (Option ((Int × (List (Int × (List Int)))) × Int × (List (List Int)) × (List (ByteArray × Int)))) × Bool) (fun _ x59 s56 =>
  (yR x59).bind fun r76 =>
  (yg r76 (a_.1, a_.2, k, s56.1, s56.2)).bind fun r81 =>
  some (.nx (r81.1, r81.2))) 0 gens ([], [])).bind fun o60 => after o60 (fun r_ => some r_) (fun s56 =>
  (yM (a_.1, a_.2)).bind fun r89 =>
  (bif (decide (r89 < (s56.1.length : Int))) then some (none, false) else (iter (S := Int × Bool × (List (List Int)) × (List (ByteArray × Int))) (R := (Option ((Int × (List (Int × (List Int)))) × Int × (List (List Int)) × (List (ByteArray × Int)))) × Bool) (fun s238 =>
  (bif (s238.2.1 || (decide (s238.1 < (s238.2.2.1.length : Int)))) then (forR (S := (List (List Int)) × (List (ByteArray × Int))) (R := (Option ((Int × (List (Int × (List Int)))) × Int × (List (List Int)) × (List (ByteArray × Int)))) × Bool) (fun _ x297 s294 =>
  (mkc 0 3).bind fun u317 =>
  (zM FU (x297.1, x297.2) (List.replicate (Int.toNat 0) ([] : List Int)) s238.1 (s238.2.2.1.length : Int) false (a_.1, a_.2, k, s294.1, s294.2)).bind fun r321 =>
  (bif (!r321.1) then some (.rt (none, false)) else some (.nx (r321.2.1, r321.2.2)))) 0 a_.2 (s238.2.2.1, s238.2.2.2)).bind fun o298 => after o298 (fun r_ => some (.rt r_)) (fun s294 =>
  some (.nx ((s238.2.2.1.length : Int), false, s294.1, s294.2))) else some (.br (s238.1, s238.2.1, s238.2.2.1, s238.2.2.2)))) FU (0, true, s56.1, s56.2)).bind fun o242 => after o242 (fun r_ => some r_) (fun s238 =>
  some ((some ((a_.1, a_.2), k, s238.2.2.1, s238.2.2.2)), true))))
theorem uT {M : Nat → Prop} {w : World} {pa0 : OA} {pn0 pc0 : Nat} {pa1 : OA} {pn1 pc1 : Nat} (a_ : tA) (k : Int) (gens : tM) (h0 : rp.val M w (sv pa0 pn0 pc0) a_.2 []) (h1 : rm.val M w (sv pa1 pn1 pc1) gens []) (hM : Hm w M) {r : (Option (tA × Int × tM × (List (ByteArray × Int)))) × Bool} (hs : yU a_ k gens = some r) :
    Gives Tryz.prog 58 [(.agg #[(iv a_.1), (sv pa0 pn0 pc0)]), (iv k), (sv pa1 pn1 pc1)] w (fun v w' => ∃ (rn0 : Value) (rf0 : List Nat), v = (.tuple #[rn0, (.bool r.2)]) ∧ Chg [] w w' ∧ (RT.op 90 (RT.pr (RT.pr ri rp) (RT.pr ri (RT.pr (RT.os 34 rl) (RT.mo (Value.int .i64)))))).val (PastL M [] w w' (rf0 ++ [])) w' rn0 r.1 rf0 ∧ Own (Nw w []) (fun _ => True) w' (rf0 ++ [])) := by
 refine zr Tryz.func58 rfl Tryz.ntmps58 (nl rfl) ?_
 have hO := Own.start (N := Nw w []) hM Nw.fut
 have hC := Chg.refl [] w
 unfold yU at hs
 refine wp_k (K := (Xd M w r)) (by rintro _ _ ⟨σ, rn0, rf0, rfl, hrest⟩; exact wb Tryz.results58 (zB rfl) (zB rfl) ⟨rn0, rf0, rfl, hrest⟩) (c_sr ?_)
 obtain ⟨k9, a3, n0, l0, h9, a1⟩ := zg w [(iv a_.1), (sv pa0 pn0 pc0)] 30
 refine za (w' := k9) (pq a3 0) (Zj rfl (by rw [n0, l0]; kernel_rfl)) ?_
 obtain ⟨h0, h1, hC⟩ := xt3 h9 h0 h1 hC
 have hO := hO.new1 h9 l0 a1.lt
 refine za (.pointer none) (zA rfl) (ab rfl (zb (c_sr (za _ (ldw rfl Ag30 a1 Sz30) (mi rfl ?_)))))
 obtain ⟨l1, e2, n1, l2, g4, i0⟩ := mo_make (enc := (Value.int .i64)) (M := M) k9
 refine za (w' := l1) (.map (some e2)) (by rw [n1, l2]; exact y_mmap) ?_
 obtain ⟨h0, h1, a1, hC⟩ := xt4 g4 h0 h1 a1 hC
 have hO := hO.new (X' := [e2]) g4 (fun q hq => by rw [List.mem_singleton.1 hq, l2]; exact Nat.le_refl _) (List.nodup_cons.2 ⟨(fun h => nomatch h), List.nodup_nil⟩) i0.fpl
 refine za (.agg #[(iv a_.1), (sv pa0 pn0 pc0), (iv k), (sv none 0 0), (.map (some e2))]) (UW rfl (by kernel_rfl)) ?_
 obtain ⟨n2, a0, n3, l3, e3, a2⟩ := zg l1 [(iv a_.1), (sv pa0 pn0 pc0), (iv k), (sv none 0 0), (.map (some e2))] 90
 refine za (w' := n2) (pq a0 0) (Zj rfl (by rw [n3, l3]; kernel_rfl)) ?_
 obtain ⟨h0, h1, a1, i0, hC⟩ := xt5 e3 h0 h1 a1 i0 hC
 have hO := hO.new1 e3 l3 a2.lt
 refine ap rfl (zb (zd (c_sr (ms rfl (za _ (zn Sl45 (zt h1) rfl) (mi rfl (zb ?_)))))))
 obtain ⟨o60, n4, hs⟩ := bind_some hs
 refine wp_block (YE (id := 0) (I := fun i_ xs_ s56 a a4 => ∃ b8 : Nat, i_ = (b8 : Int) ∧ List.drop b8 gens = xs_ ∧ (∃ (σ : Nv) (b5 : Nat → Prop) (e4 : OA) (e5 : Nat) (e6 : Nat) (c9 : List Nat) (e7 : Nat) (d0 : List Nat), a = fr 72 (ovl σ [(3, (pq a3 0)), (8, (pq a0 0)), (21, (sv pa1 pn1 pc1)), (22, (iv (gens.length : Int))), (23, (iv (b8 : Int)))]) ∧ Chg [] w a4 ∧ Own (Nw w []) b5 a4 (c9 ++ (d0 ++ ([a0] ++ ([a3] ++ [])))) ∧ KeepsF w [] M b5 ∧ rp.val b5 a4 (sv pa0 pn0 pc0) a_.2 [] ∧ rm.val b5 a4 (sv pa1 pn1 pc1) gens [] ∧ BoxV a4 a3 30 [(iv a_.1), (sv pa0 pn0 pc0)] ∧ BoxV a4 a0 90 [(iv a_.1), (sv pa0 pn0 pc0), (iv k), (sv e4 e5 e6), (.map (some e7))] ∧ (RT.os 34 rl).val b5 a4 (sv e4 e5 e6) s56.1 c9 ∧ (RT.mo (Value.int .i64)).val b5 a4 (.map (some e7)) s56.2 d0)) (J := fun s56 a a4 => ∃ (σ : Nv) (b9 : Nat → Prop) (e8 : OA) (e9 : Nat) (f0 : Nat) (i1 : List Nat) (g5 : Nat) (i2 : List Nat), a = fr 72 (ovl σ [(3, (pq a3 0)), (8, (pq a0 0))]) ∧ Chg [] w a4 ∧ Own (Nw w []) b9 a4 (i1 ++ (i2 ++ ([a0] ++ ([a3] ++ [])))) ∧ KeepsF w [] M b9 ∧ rp.val b9 a4 (sv pa0 pn0 pc0) a_.2 [] ∧ rm.val b9 a4 (sv pa1 pn1 pc1) gens [] ∧ BoxV a4 a3 30 [(iv a_.1), (sv pa0 pn0 pc0)] ∧ BoxV a4 a0 90 [(iv a_.1), (sv pa0 pn0 pc0), (iv k), (sv e8 e9 f0), (.map (some g5))] ∧ (RT.os 34 rl).val b9 a4 (sv e8 e9 f0) s56.1 i1 ∧ (RT.mo (Value.int .i64)).val b9 a4 (.map (some g5)) s56.2 i2) (K := (Xd M w)) ?_ ?_ gens 0 ([], []) o60 _ _ ?_ n4 ?_)
 ·rintro _ s56 a a4 ⟨b8, rfl, hd, σ, b5, e4, e5, e6, c9, e7, d0, rfl, hC, hO, hK, h0, h1, a1, a2, d4, d5⟩
  have hlt := ZI hd
  refine c_sr (za _ (zw rfl rfl) (zb (zd (zi (df hlt) (wp_exit ?_)))))
  have hO := hO.fr3.fr3.fr3.fr3
  exact ⟨rfl, _, b5, e4, e5, e6, c9, e7, d0, fr_m 72 rfl, hC, hO, hK, h0, h1, a1, a2, d4, d5⟩
 ·rintro _ x59 xs_ s56 o60 a a4 ⟨b8, rfl, hd, σ, b5, e4, e5, e6, c9, e7, d0, rfl, hC, hO, hK, h0, h1, a1, a2, d4, d5⟩ hs
  have hlt := ZB hd
  have n5 := Zt hd
  refine c_sr (za _ (zw rfl rfl) (zb (zd (zh (dt hlt) (wp_skip (zd (wp_block (c_sr ?_))))))))
  obtain ⟨n6, n7, n8, n9⟩ := zK Sl45 Sz34 h1 n5
  refine za _ (ip n8 rfl rfl) ?_
  obtain ⟨s7, o0, d1⟩ := Zc Ag34 Sz34 (fun _ => rfl) n9
  obtain ⟨j4, j5, j6, rfl⟩ := yl d1
  refine za (sv j4 j5 j6) (zo rfl (o0 _ (Chg.refl _ _))) (ax rfl (zb (ze (mp rfl (ms rfl ?_)))))
  obtain ⟨r76, o1, hs⟩ := bind_some hs
  refine zy Bd86 rfl (vF (M := b5) x59 d1 hO.fut o1) ?_
  rintro _ s8 ⟨s9, t0, t1, o2, rfl, c0, o3, t2, o4⟩
  obtain ⟨h0, h1, a1, a2, d4, d5, d1, hC⟩ := xt8 c0 h0 h1 a1 a2 d4 d5 d1 hC
  have hO := Own.join0 hO c0 o4
  have hO := hO.perm (R := o2 ++ (c9 ++ (d0 ++ ([a0] ++ ([a3] ++ []))))) (by simp)
  obtain ⟨d6, t3, g6, o5, hO, j7⟩ := xH (Frz.os Frz.int) o3 hO
  have h0 := h0.sub g6
  have h1 := h1.sub g6
  have d4 := d4.sub g6
  have d5 := d5.sub g6
  have d1 := d1.sub g6
  have hK := hK.trans o5
  have hO := hO.fr1.fr1.fr2
  have o6 := hO
  have l4 := Own.lend (F := ([a0] ++ (c9 ++ (d0 ++ [])))) (R := [a3] ++ []) (Own.perm (o6) (by simp))
  obtain ⟨r81, o7, hs⟩ := bind_some hs
  refine zy Bd85 rfl (wo (M := d6) r76 (a_.1, a_.2, k, s56.1, s56.2) j7 (show BoxV _ a0 90 [(iv a_.1), (sv pa0 pn0 pc0), (iv k), (sv e4 e5 e6), (.map (some e7))] from a2) h0 d4 d5 l4 l4.fut o7) ?_
  rintro _ o8 ⟨l5, l6, l7, l8, l9, m0, rfl, d7, j8, o9, p0, p1⟩
  have hO := hO.fr2.fr2.fr2.perm (R := ([a0] ++ (c9 ++ (d0 ++ []))) ++ ([a3] ++ [])) (by simp)
  have h0 := h0.mt d7 hO zl
  have h1 := h1.mt d7 hO zl
  have a1 := a1.ap d7 hO zl mS
  have d1 := d1.mt d7 hO zl
  have j7 := j7.mt d7 hO zl
  have hC := hC.st d7 hO zl
  have hO := Own.join hO d7 p1
  have hO := hO.perm (R := [a0] ++ (l8 ++ (m0 ++ ([a3] ++ [])))) (by simp)
  have j8 : BoxV o8 a0 90 [(iv a_.1), (sv pa0 pn0 pc0), (iv k), (sv l5 l6 l7), (.map (some l9))] := j8
  refine zb (ze (za _ (yad rfl rfl) (mi rfl (zb ?_))))
  cases hs
  have hO := hO.fr3.fr1.fr3.fr3
  exact ⟨_, rfl, Zk hd, _, d6, l5, l6, l7, l8, l9, m0, zG 72 ⟨rfl, rfl, rfl, rfl, congrArg (Value.int .i64) (Yc hlt (Int.natCast_nonneg _) (Xo h1)), trivial⟩, hC, hO, hK, h0, h1, a1, j8, o9, p0⟩
 ·skip
  have hO := hO.fr2.fr1.fr2.nil
  exact ⟨0, rfl, rfl, _, M, none, 0, 0, [], e2, [e2], fr_m 72 rfl, hC, hO, KeepsF.refl, h0, h1, a1, a2, xJ, i0⟩
 cases o60 with
 | nx _ => exact True.intro
 | rt r_ =>
  have hs := zq hs
  intro f1 j3 hK
  cases hs
  exact hK
 | br s56 =>
  have hs := zp hs
  rintro f1 a4 ⟨σ, b9, e8, e9, f0, i1, g5, i2, rfl, hC, hO, hK, h0, h1, a1, a2, f2, g7⟩
  refine zd (zd (zQ [] Mx rfl ?_))
  have c1 := Chg.drew a4
  generalize World.drew a4 = p2 at c1 ⊢
  obtain ⟨h0, h1, a1, a2, f2, g7, hC, hO⟩ := xt8 c1 h0 h1 a1 a2 f2 g7 hC hO
  have hS := Chg.refl [] p2
  refine xmp 0 rfl rfl hS (xq 1 _ rfl (Zs rfl) hS (xq 2 (pq a0 3) rfl (zk rfl YD) hS (xl 3 rfl (ldx rfl Ag45 Sz45 a2 rfl) hS (xq 4 _ rfl (zn Sl45 (ZH f2) rfl) hS (xl 5 rfl (ldxw rfl Ag30 a1 Sz30) hS (zI (i := 6) (by kernel_rfl) ?_))))))
  obtain ⟨r89, p3, hs⟩ := bind_some hs
  refine zL (b := false) rfl Bd87 rfl (XS (M := b9) (a_.1, a_.2) h0 hO.fut p3) rfl (by rintro _ _ _ ⟨rfl, b1⟩; exact hS.ext b1) ?_
  rintro _ t4 ⟨rfl, b1⟩
  obtain ⟨h0, h1, a1, a2, f2, g7, hC, hO⟩ := xt8 b1 h0 h1 a1 a2 f2 g7 hC hO
  have hS := hS.ext b1
  refine xq 7 _ rfl (YY rfl rfl) hS (xe ?_)
  clear hS
  rcases zf hs with ⟨j9, hs⟩ | ⟨j9, hs⟩
  ·refine zh (cb j9) (c_sr (za (.pointer none) (zA rfl) (ab rfl (zb (wp_ret ?_)))))
   cases hs
   have hO := hO.drop.drop.drop.drop.nil
   exact ⟨_, (.pointer none), [], fr_m 72 rfl, hC, VY, hO.top⟩
  refine zi (cb j9) (wp_skip (zd (c_sr (ai rfl (ab rfl (zb ?_))))))
  obtain ⟨o242, p4, hs⟩ := bind_some hs
  refine wp_block (Zy (id := 2) (I := fun s238 a a5 => ∃ (σ : Nv) (d2 : Nat → Prop) (c2 : OA) (c3 : Nat) (c4 : Nat) (g8 : List Nat) (d8 : Nat) (g9 : List Nat), a = fr 72 (ovl σ [(3, (pq a3 0)), (8, (pq a0 0)), (11, (iv s238.1)), (12, (.bool s238.2.1))]) ∧ Chg [] w a5 ∧ Own (Nw w []) d2 a5 (g8 ++ (g9 ++ ([a0] ++ ([a3] ++ [])))) ∧ KeepsF w [] M d2 ∧ rp.val d2 a5 (sv pa0 pn0 pc0) a_.2 [] ∧ BoxV a5 a3 30 [(iv a_.1), (sv pa0 pn0 pc0)] ∧ BoxV a5 a0 90 [(iv a_.1), (sv pa0 pn0 pc0), (iv k), (sv c2 c3 c4), (.map (some d8))] ∧ (RT.os 34 rl).val d2 a5 (sv c2 c3 c4) s238.2.2.1 g8 ∧ (RT.mo (Value.int .i64)).val d2 a5 (.map (some d8)) s238.2.2.2 g9) (J := fun s238 a a5 => ∃ (σ : Nv) (d9 : Nat → Prop) (k0 : OA) (k1 : Nat) (k2 : Nat) (f3 : List Nat) (k3 : Nat) (f4 : List Nat), a = fr 72 (ovl σ [(8, (pq a0 0))]) ∧ Chg [] w a5 ∧ Own (Nw w []) d9 a5 (f3 ++ (f4 ++ ([a0] ++ ([a3] ++ [])))) ∧ KeepsF w [] M d9 ∧ rp.val d9 a5 (sv pa0 pn0 pc0) a_.2 [] ∧ BoxV a5 a3 30 [(iv a_.1), (sv pa0 pn0 pc0)] ∧ BoxV a5 a0 90 [(iv a_.1), (sv pa0 pn0 pc0), (iv k), (sv k0 k1 k2), (.map (some k3))] ∧ (RT.os 34 rl).val d9 a5 (sv k0 k1 k2) s238.2.2.1 f3 ∧ (RT.mo (Value.int .i64)).val d9 a5 (.map (some k3)) s238.2.2.2 f4) (K := (Xd M w)) ?_ FU (0, true, s56.1, s56.2) o242 _ _ ?_ p4 ?_)
  ·rintro s238 o242 a a5 ⟨σ, d2, c2, c3, c4, g8, d8, g9, rfl, hC, hO, hK, h0, a1, a2, f5, i3⟩ hs
   refine zd (zd (yB (I := fun a m1 => ∃ (σ : Nv), a = fr 72 (ovl σ [(3, (pq a3 0)), (8, (pq a0 0)), (11, (iv s238.1)), (12, (.bool s238.2.1)), (49, (.bool (s238.2.1 || (decide (s238.1 < (s238.2.2.1.length : Int))))))]) ∧ Chg [] a5 m1) ?_ ?_))
   ·have hMid := Chg.refl [] a5
    refine ze (mb rfl (mb rfl ?_))
    rcases Bool.eq_false_or_eq_true (s238.2.1) with a6 | a6
    ·skip
     refine pn 41 (cb a6) (pn 41 (cb a6) (pn 41 (cb a6) (pn 41 (cb a6) (pn 41 (cb a6) (pn 41 (cb a6) (pn 41 (cb a6) (za (.bool (s238.2.1 || (decide (s238.1 < (s238.2.2.1.length : Int))))) (yh (cb a6) (cb (by rw [a6]; rfl))) (zb ?_))))))))
     exact ⟨_, fr_m 72 rfl, hMid⟩
    refine py 41 (iv s238.1) (cb a6) (zx rfl) (py 41 (pq a0 0) (cb a6) (zx rfl) (py 41 _ (cb a6) (Zs rfl) (py 41 (pq a0 3) (cb a6) (zk rfl YD) (py 41 _ (cb a6) (ld rfl Ag45 Sz45 a2 rfl) (py 41 _ (cb a6) (zn Sl45 (ZH f5) rfl) (py 41 _ (cb a6) (zw rfl rfl) (za (.bool (s238.2.1 || (decide (s238.1 < (s238.2.2.1.length : Int))))) (ZU (cb a6) (cb (by rw [a6]; rfl))) (zb ?_))))))))
    exact ⟨_, fr_m 72 rfl, hMid⟩
   rintro f1 m1 ⟨σ, rfl, e0⟩
   obtain ⟨h0, a1, a2, f5, i3, hC, hO⟩ := xt7 e0 h0 a1 a2 f5 i3 hC hO
   rcases zf hs with ⟨k4, hs⟩ | ⟨k4, hs⟩
   ·refine zh (cb k4) (wp_skip (zd (wp_block (c_sr (mp rfl (za _ (Zs rfl) (za (pq a0 3) (zk rfl YD) (za _ (ld rfl Ag45 Sz45 a2 rfl) (za _ (zn Sl45 (ZH f5) rfl) (ai rfl (zb (zd (c_sr (za (pq a3 1) (zk rfl Zq) (za _ (ld rfl Ag28 Sz28 a1 rfl) (za _ (zn Sl28 (zt h0) rfl) (mi rfl (zb ?_))))))))))))))))))
    obtain ⟨o298, p5, hs⟩ := bind_some hs
    refine wp_block (YE (id := 4) (I := fun i_ xs_ s294 a a7 => ∃ c5 : Nat, i_ = (c5 : Int) ∧ List.drop c5 a_.2 = xs_ ∧ (∃ (σ : Nv) (c6 : Nat → Prop) (f6 : OA) (f7 : Nat) (f8 : Nat) (b2 : List Nat) (f9 : Nat) (b3 : List Nat), a = fr 72 (ovl σ [(3, (pq a3 0)), (8, (pq a0 0)), (11, (iv s238.1)), (12, (.bool s238.2.1)), (13, (iv (s238.2.2.1.length : Int))), (56, (sv pa0 pn0 pc0)), (57, (iv (a_.2.length : Int))), (58, (iv (c5 : Int)))]) ∧ Chg [] w a7 ∧ Own (Nw w []) c6 a7 (b2 ++ (b3 ++ ([a0] ++ ([a3] ++ [])))) ∧ KeepsF w [] M c6 ∧ rp.val c6 a7 (sv pa0 pn0 pc0) a_.2 [] ∧ BoxV a7 a3 30 [(iv a_.1), (sv pa0 pn0 pc0)] ∧ BoxV a7 a0 90 [(iv a_.1), (sv pa0 pn0 pc0), (iv k), (sv f6 f7 f8), (.map (some f9))] ∧ (RT.os 34 rl).val c6 a7 (sv f6 f7 f8) s294.1 b2 ∧ (RT.mo (Value.int .i64)).val c6 a7 (.map (some f9)) s294.2 b3)) (J := fun s294 a a7 => ∃ (σ : Nv) (e1 : Nat → Prop) (i4 : OA) (i5 : Nat) (i6 : Nat) (i7 : List Nat) (i9 : Nat) (j0 : List Nat), a = fr 72 (ovl σ [(3, (pq a3 0)), (8, (pq a0 0)), (11, (iv s238.1)), (12, (.bool s238.2.1)), (13, (iv (s238.2.2.1.length : Int)))]) ∧ Chg [] w a7 ∧ Own (Nw w []) e1 a7 (i7 ++ (j0 ++ ([a0] ++ ([a3] ++ [])))) ∧ KeepsF w [] M e1 ∧ rp.val e1 a7 (sv pa0 pn0 pc0) a_.2 [] ∧ BoxV a7 a3 30 [(iv a_.1), (sv pa0 pn0 pc0)] ∧ BoxV a7 a0 90 [(iv a_.1), (sv pa0 pn0 pc0), (iv k), (sv i4 i5 i6), (.map (some i9))] ∧ (RT.os 34 rl).val e1 a7 (sv i4 i5 i6) s294.1 i7 ∧ (RT.mo (Value.int .i64)).val e1 a7 (.map (some i9)) s294.2 j0) (K := (Xd M w)) ?_ ?_ a_.2 0 (s238.2.2.1, s238.2.2.2) o298 _ _ ?_ p5 ?_)
    ·rintro _ s294 a a7 ⟨c5, rfl, hd, σ, c6, f6, f7, f8, b2, f9, b3, rfl, hC, hO, hK, h0, a1, a2, a9, b0⟩
     have hlt := ZI hd
     refine c_sr (za _ (zw rfl rfl) (zb (zd (zi (df hlt) (wp_exit ?_)))))
     have hO := hO.fr3.fr3.fr3.fr3
     exact ⟨rfl, _, c6, f6, f7, f8, b2, f9, b3, fr_m 72 rfl, hC, hO, hK, h0, a1, a2, a9, b0⟩
    ·rintro _ x297 xs_ s294 o298 a a7 ⟨c5, rfl, hd, σ, c6, f6, f7, f8, b2, f9, b3, rfl, hC, hO, hK, h0, a1, a2, a9, b0⟩ hs
     have hlt := ZB hd
     have p6 := Zt hd
     refine c_sr (za _ (zw rfl rfl) (zb (zd (zh (dt hlt) (wp_skip (zd (wp_block (c_sr ?_))))))))
     obtain ⟨p7, p8, p9, k5⟩ := zK Sl28 Sz77 h0 p6
     refine za _ (ip p9 rfl rfl) ?_
     obtain ⟨t5, q0, q1⟩ := Zc Ag77 Sz77 (by intro h; cases h) k5
     obtain ⟨t6, rfl, q2⟩ := q1
     obtain ⟨t7, t8, rfl, q3, q4⟩ := Yn q2
     obtain rfl := Yx q3
     obtain ⟨h2, h3, h4, rfl, a8⟩ := YV q4
     refine za (.agg #[(iv x297.1), (sv h2 h3 h4)]) (zo rfl (q0 _ (Chg.refl _ _))) ?_
     obtain ⟨q5, h5, q6, m2, c7, m3⟩ := zg a7 [(iv 0), (sv none 0 0)] 77
     refine za (w' := q5) (pq h5 0) (YF (by rw [q6, m2]; kernel_rfl)) ?_
     obtain ⟨h0, a1, a2, a9, b0, a8, k5, hC⟩ := xt8 c7 h0 a1 a2 a9 b0 a8 k5 hC
     have hO := hO.new1 c7 m2 m3.lt
     obtain ⟨j1, q7, d3, c8⟩ := Zx (P := Tryz.prog) m3 [] [(iv 0), (sv none 0 0)] [] [(iv x297.1), (sv h2 h3 h4)] rfl rfl (oc rfl)
     refine Zh (w' := j1) (zY rfl rfl (q7 _ _ rfl Sz77)) ?_
     have h0 := h0.mt d3 hO zl
     have a1 := a1.ap d3 hO zl (zj (zj (zj mS)))
     have a2 := a2.ap d3 hO zl (zj (zj mS))
     have a9 := a9.ma d3 hO zl (fun _ e => (zD (e)))
     have b0 := b0.ma d3 hO zl (fun _ e => (zj (zD (e))))
     have a8 := a8.mt d3 hO zl
     have hC := hC.st d3 hO zl
     have hO := hO.ext d3
     have c8 : BoxV j1 h5 77 [(iv x297.1), (sv h2 h3 h4)] := c8
     refine zb (zd (zQ [5] Mx rfl ?_))
     have b6 := Chg.drew j1
     generalize World.drew j1 = m4 at b6 ⊢
     obtain ⟨h0, a1, a2, a9, b0, a8, c8, hC⟩ := xt8 b6 h0 a1 a2 a9 b0 a8 c8 hC
     have hO := hO.ext b6
     have hS := Chg.refl [] m4
     refine xmp 0 rfl rfl hS (xl 1 rfl (ldxw rfl Ag77 c8 Sz77) hS (xmi 3 rfl rfl hS (xmi 4 rfl rfl hS (zI (i := 2) (by kernel_rfl) ?_))))
     obtain ⟨u317, q8, hs⟩ := bind_some hs
     obtain ⟨q9, r0, r1, h6, t9, r2, b4, r3, k6⟩ := zci (M := c6) (w := m4) (r := (RT.os 3 ri)) (x := ([] : List Int)) Rw45 q8 (fun _ _ => (ZJ xJ))
     refine zR (w' := h6) (b := false) (sv q9 r0 r1) rfl (yC rfl rfl r2) rfl (fun _ => hS.ext b4) ?_
     obtain ⟨h0, a1, a2, a9, b0, a8, c8, hC⟩ := xt8 b4 h0 a1 a2 a9 b0 a8 c8 hC
     have hO := hO.new b4 r3 (zu k6) k6.fpl
     have hS := hS.ext b4
     refine zI (i := 5) (by kernel_rfl) ?_
     obtain ⟨b7, g0, j2, r4, hO, r5⟩ := Uw (Frz.os Frz.int) k6 hO
     have h0 := h0.sub j2
     have a9 := a9.sub j2
     have b0 := b0.sub j2
     have a8 := a8.sub j2
     have hK := hK.trans r4
     have hO := hO.fr3.fr3.fr4.fr3
     have r6 := hO
     have m5 := Own.lend (F := (g0 ++ ([a0] ++ (b2 ++ (b3 ++ []))))) (R := [h5] ++ ([a3] ++ [])) (Own.perm (r6) (by simp))
     obtain ⟨r321, r7, hs⟩ := bind_some hs
     refine zL (b := true) rfl Bd88 rfl (wZ FU (M := b7) (x297.1, x297.2) (List.replicate (Int.toNat 0) ([] : List Int)) s238.1 (s238.2.2.1.length : Int) false (a_.1, a_.2, k, s294.1, s294.2) a8 r5 (show BoxV _ a0 90 [(iv a_.1), (sv pa0 pn0 pc0), (iv k), (sv f6 f7 f8), (.map (some f9))] from a2) h0 a9 b0 m5 m5.fut r7) rfl (fun h => nomatch h) ?_
     rintro _ h7 ⟨h8, m6, m7, m8, g1, m9, g2, rfl, g3, u0, k7, r8, r9, s0⟩
     have hO := hO.fr3.fr3.fr3.fr3.perm (R := (g0 ++ ([a0] ++ (b2 ++ (b3 ++ [])))) ++ ([h5] ++ ([a3] ++ []))) (by simp)
     have s1 := Own.pastL hO g3 s0
     have hK := hK.trans (show KeepsF w [] b7 (PastL b7 (g0 ++ ([a0] ++ (b2 ++ (b3 ++ [])))) h6 h7 (h8 ++ ([a0] ++ (g1 ++ (g2 ++ []))))) from KeepsF.pastL hC.size (fun g hg => (hO.inN g hg)))
     have h0 := h0.mt g3 hO zl
     have a1 := a1.ap g3 hO zl (zj mS)
     have a8 := a8.mt g3 hO zl
     have c8 := c8.ap g3 hO zl mS
     have hC := hC.st g3 hO zl
     have hO := s1
     have h0 := h0.sub (M' := (PastL b7 (g0 ++ ([a0] ++ (b2 ++ (b3 ++ [])))) h6 h7 (h8 ++ ([a0] ++ (g1 ++ (g2 ++ [])))))) (fun g hg => .inl hg.1)
     have a8 := a8.sub (M' := (PastL b7 (g0 ++ ([a0] ++ (b2 ++ (b3 ++ [])))) h6 h7 (h8 ++ ([a0] ++ (g1 ++ (g2 ++ [])))))) (fun g hg => .inl hg.1)
     have hO := hO.perm (R := h8 ++ ([a0] ++ (g1 ++ (g2 ++ ([h5] ++ ([a3] ++ [])))))) (by simp)
     have k7 : BoxV h7 a0 90 [(iv a_.1), (sv pa0 pn0 pc0), (iv k), (sv m6 m7 m8), (.map (some m9))] := k7
     refine x_p 6 (.bool (!r321.1)) rfl (by kernel_rfl) (fun _ => ZA rfl) (fun h => nomatch h) (xe ?_)
     clear hS
     rcases zf hs with ⟨k8, hs⟩ | ⟨k8, hs⟩
     ·refine zh (cb k8) (c_sr (za (.pointer none) (zA rfl) (ab rfl (zb (wp_ret ?_)))))
      cases hs
      have hO := hO.drop.drop.drop.drop.drop.drop.nil
      exact ⟨_, (.pointer none), [], fr_m 72 rfl, hC, VY, hO.top⟩
     refine zi (cb k8) (wp_skip (ze (za _ (yad rfl rfl) (mi rfl (zb ?_)))))
     cases hs
     have hO := hO.drop.fr3.drop.fr3.fr1.fr3.fr3
     exact ⟨_, rfl, Zk hd, _, (PastL b7 (g0 ++ ([a0] ++ (b2 ++ (b3 ++ [])))) h6 h7 (h8 ++ ([a0] ++ (g1 ++ (g2 ++ []))))), m6, m7, m8, g1, m9, g2, zG 72 ⟨rfl, rfl, rfl, rfl, rfl, rfl, rfl, congrArg (Value.int .i64) (Yc hlt (Int.natCast_nonneg _) (Xo h0)), trivial⟩, hC, hO, hK, h0, a1, k7, r8, r9⟩
    ·skip
     have hO := hO.fr3.fr3.fr3.fr3
     exact ⟨0, rfl, rfl, _, d2, c2, c3, c4, g8, d8, g9, fr_m 72 rfl, hC, hO, hK, h0, a1, a2, f5, i3⟩
    cases o298 with
    | nx _ => exact True.intro
    | rt r_ =>
     have hs := zq hs
     intro f1 j3 hK
     cases hs
     exact hK
    | br s294 =>
     have hs := zp hs
     rintro f1 a7 ⟨σ, e1, i4, i5, i6, i7, i9, j0, rfl, hC, hO, hK, h0, a1, a2, s2, s3⟩
     refine ze (mi rfl (ai rfl (zb (ze (ab rfl (zb ?_))))))
     cases hs
     have hO := hO.fr3.fr3.fr3.fr3
     exact ⟨_, e1, i4, i5, i6, i7, i9, j0, fr_m 72 rfl, hC, hO, hK, h0, a1, a2, s2, s3⟩
   refine zi (cb k4) (wp_exit ?_)
   cases hs
   have hO := hO.fr3.fr3.fr3.fr3
   exact ⟨rfl, _, d2, c2, c3, c4, g8, d8, g9, fr_m 72 rfl, hC, hO, hK, h0, a1, a2, f5, i3⟩
  ·skip
   have hO := hO.fr3.fr3.fr3.fr3
   exact ⟨_, b9, e8, e9, f0, i1, g5, i2, fr_m 72 rfl, hC, hO, hK, h0, a1, a2, f2, g7⟩
  cases o242 with
  | nx _ => exact True.intro
  | rt r_ =>
   have hs := zq hs
   intro f1 j3 hK
   cases hs
   exact hK
  | br s238 =>
   have hs := zp hs
   rintro f1 a5 ⟨σ, d9, k0, k1, k2, f3, k3, f4, rfl, hC, hO, hK, h0, a1, a2, s4, s5⟩
   refine c_sr (mp rfl (ap rfl (ab rfl (zb (wp_ret ?_)))))
   have hO := hO.fr1.fr1.fr2.perm (R := (a0 :: ((([] : List Nat) ++ ([] : List Nat)) ++ (([] : List Nat) ++ (f3 ++ f4)))) ++ ([a3] ++ [])) (by simp)
   have s6 : (RT.po 90 (RT.pr (RT.pr ri rp) (RT.pr ri (RT.pr (RT.os 34 rl) (RT.mo (Value.int .i64)))))).val d9 a5 (pq a0 0) ((a_.1, a_.2), k, s238.2.2.1, s238.2.2.2) (a0 :: ((([] : List Nat) ++ ([] : List Nat)) ++ (([] : List Nat) ++ (f3 ++ f4)))) := UU a2 ⟨_, _, _, _, rfl, rfl, ⟨_, _, _, _, rfl, rfl, ⟨rfl, rfl⟩, (yI h0)⟩, ⟨_, _, _, _, rfl, rfl, ⟨rfl, rfl⟩, ⟨_, _, _, _, rfl, rfl, (ZJ s4), (zbu s5)⟩⟩⟩ hO.nd
   cases hs
   have hO := hO.fr1.drop
   exact ⟨_, (pq a0 0), (a0 :: ((([] : List Nat) ++ ([] : List Nat)) ++ (([] : List Nat) ++ (f3 ++ f4)))), fr_m 72 rfl, hC, (KeepsF.out hK hO.allM (op_some s6)), hO.top⟩

def ww (M : Nat → Prop) (w0 : World) (r : tM) (a : Act) (w : World) : Prop :=
  ∃ (σ : Nv) (ra0 : OA) (rn0 rc0 : Nat) (rf0 : List Nat), a = fr 20 (ovl σ [(2, (sv ra0 rn0 rc0))]) ∧ Chg [] w0 w ∧ (RT.os 34 (RT.os 3 ri)).val M w (sv ra0 rn0 rc0) r rf0 ∧ Own (Nw w0 []) (fun _ => True) w (rf0 ++ [])
def Yy (rows : List (List Int)) : Option ((List (List Int))) :=
  (forR (S := (List (List Int))) (R := (List (List Int))) (fun _ x20 s17 =>
  (yR x20).bind fun r31 =>
  (app s17 ([r31])).bind fun y36 =>
  some (.nx y36)) 0 rows ([])).bind fun o21 => after o21 (fun r_ => some r_) (fun s17 =>
  some s17)
theorem Ve {M : Nat → Prop} {w : World} {pa0 : OA} {pn0 pc0 : Nat} (rows : tM) (h0 : rm.val M w (sv pa0 pn0 pc0) rows []) (hM : Hm w M) {r : tM} (hs : Yy rows = some r) :
    Gives Tryz.prog 89 [(sv pa0 pn0 pc0)] w (fun v w' => ∃ (ra0 : OA) (rn0 rc0 : Nat) (rf0 : List Nat), v = (sv ra0 rn0 rc0) ∧ Chg [] w w' ∧ (RT.os 34 (RT.os 3 ri)).val M w' (sv ra0 rn0 rc0) r rf0 ∧ Own (Nw w []) (fun _ => True) w' (rf0 ++ [])) := by
 refine zr Tryz.func89 rfl Tryz.ntmps89 (nl rfl) ?_
 have hO := Own.start (N := Nw w []) hM Nw.fut
 have hC := Chg.refl [] w
 unfold Yy at hs
 refine wp_k (K := (ww M w r)) (by rintro _ _ ⟨σ, ra0, rn0, rc0, rf0, rfl, hrest⟩; exact Za Tryz.results89 (zB rfl) ⟨ra0, rn0, rc0, rf0, rfl, hrest⟩) (c_sr (ax rfl (zb (c_sr ?_))))
 obtain ⟨d0, a5, e0, d1, b8, d2⟩ := zg w [] 34
 refine za (w' := d0) (sv (some ⟨a5, 0, none⟩) 0 0) (zz rfl (by rw [e0, d1]; kernel_rfl)) ?_
 obtain ⟨h0, hC⟩ := xt2 b8 h0 hC
 have hO := hO.new1 b8 d1 d2.lt
 have b9 := os0 (r := (RT.os 3 ri)) (M := M) d2
 refine ax rfl (zb (zd (c_sr (ms rfl (za _ (zn Sl45 (zt h0) rfl) (mi rfl (zb ?_)))))))
 obtain ⟨o21, e1, hs⟩ := bind_some hs
 refine wp_block (YE (id := 0) (I := fun i_ xs_ s17 a a0 => ∃ a1 : Nat, i_ = (a1 : Int) ∧ List.drop a1 rows = xs_ ∧ (∃ (σ : Nv) (a6 : OA) (a7 : Nat) (a8 : Nat) (a4 : List Nat), a = fr 20 (ovl σ [(3, (sv a6 a7 a8)), (7, (sv pa0 pn0 pc0)), (8, (iv (rows.length : Int))), (9, (iv (a1 : Int)))]) ∧ Chg [] w a0 ∧ Own (Nw w []) M a0 (a4 ++ []) ∧ rm.val M a0 (sv pa0 pn0 pc0) rows [] ∧ (RT.os 34 (RT.os 3 ri)).val M a0 (sv a6 a7 a8) s17 a4)) (J := fun s17 a a0 => ∃ (σ : Nv) (a9 : OA) (b0 : Nat) (b1 : Nat) (b4 : List Nat), a = fr 20 (ovl σ [(3, (sv a9 b0 b1))]) ∧ Chg [] w a0 ∧ Own (Nw w []) M a0 (b4 ++ []) ∧ rm.val M a0 (sv pa0 pn0 pc0) rows [] ∧ (RT.os 34 (RT.os 3 ri)).val M a0 (sv a9 b0 b1) s17 b4) (K := (ww M w)) ?_ ?_ rows 0 [] o21 _ _ ?_ e1 ?_)
 ·rintro _ s17 a a0 ⟨a1, rfl, hd, σ, a6, a7, a8, a4, rfl, hC, hO, h0, a2⟩
  have hlt := ZI hd
  refine c_sr (za _ (zw rfl rfl) (zb (zd (zi (df hlt) (wp_exit ?_)))))
  exact ⟨rfl, _, a6, a7, a8, a4, fr_m 20 rfl, hC, hO, h0, a2⟩
 ·rintro _ x20 xs_ s17 o21 a a0 ⟨a1, rfl, hd, σ, a6, a7, a8, a4, rfl, hC, hO, h0, a2⟩ hs
  have hlt := ZB hd
  have e2 := Zt hd
  refine c_sr (za _ (zw rfl rfl) (zb (zd (zh (dt hlt) (wp_skip (zd (wp_block (c_sr ?_))))))))
  obtain ⟨e3, e4, e5, e6⟩ := zK Sl45 Sz34 h0 e2
  refine za _ (ip e5 rfl rfl) ?_
  obtain ⟨g0, e7, a3⟩ := Zc Ag34 Sz34 (fun _ => rfl) e6
  obtain ⟨c0, c1, c2, rfl⟩ := yl a3
  refine za (sv c0 c1 c2) (zo rfl (e7 _ (Chg.refl _ _))) (ax rfl (zb (ze (ms rfl (ms rfl ?_)))))
  obtain ⟨r31, e8, hs⟩ := bind_some hs
  refine zy Bd86 rfl (vF (M := M) x20 a3 hO.fut e8) ?_
  rintro _ e9 ⟨d3, d4, d5, b5, rfl, b3, c3, g1, f0⟩
  obtain ⟨h0, a2, a3, hC⟩ := xt4 b3 h0 a2 a3 hC
  have hO := Own.join0 hO b3 f0
  have hO := hO.perm (R := b5 ++ (a4 ++ [])) (by simp)
  obtain ⟨d6, b6, f1, d7, b2, d8⟩ := zg e9 [(sv d3 d4 d5)] 34
  refine za (w' := d6) (sv (some ⟨b6, 0, none⟩) 1 1) (zz rfl (by rw [f1, d7]; kernel_rfl)) ?_
  obtain ⟨h0, a2, a3, c3, hC⟩ := xt5 b2 h0 a2 a3 c3 hC
  have hO := (hO.new1 b2 d7 d8.lt).perm (R := (b6 :: ((b5) ++ [])) ++ (a4 ++ [])) (by simp)
  have f2 := hO.nd
  have c4 := Zn (r := (RT.os 3 ri)) (M := M) (css := [[(sv d3 d4 d5)]]) (fps := [(b5 : List Nat)]) (xs := ([r31] : tM)) d8 ⟨(ZJ c3), trivial⟩ (nl rfl) f2
  have c4 : (RT.os 34 (RT.os 3 ri)).val M d6 (sv (some ⟨b6, 0, none⟩) 1 1) [r31] (b6 :: ((b5) ++ [])) := c4
  obtain ⟨y36, f3, hs⟩ := bind_some hs
  have hO := hO.fr1
  obtain ⟨c5, c6, c7, f4, f5, f6, b7, f7, c8⟩ := ya Rw45 f3 a2 c4 hO.inM (fun g hg hq => hO.apart g hq (zD hg))
  have c9 := zC a2
  refine za (w' := f4) (sv c5 c6 c7) (zN rfl rfl (f6 _)) ?_
  have hO := hO.fr1.fr1
  have h0 := h0.mt b7 hO c9
  have a3 := a3.mt b7 hO c9
  have hC := hC.st b7 hO c9
  have hO := hO.eat b7 f7 (zu c8) c8.fpl
  refine ax rfl (zb (ze (za _ (yad rfl rfl) (mi rfl (zb ?_)))))
  cases hs
  exact ⟨_, rfl, Zk hd, _, c5, c6, c7, f5, zG 20 ⟨rfl, rfl, rfl, congrArg (Value.int .i64) (Yc hlt (Int.natCast_nonneg _) (Xo h0)), trivial⟩, hC, hO, h0, c8⟩
 ·skip
  exact ⟨0, rfl, rfl, _, (some ⟨a5, 0, none⟩), 0, 0, [a5], fr_m 20 rfl, hC, hO, h0, b9⟩
 cases o21 with
 | nx _ => exact True.intro
 | rt r_ =>
  have hs := zq hs
  intro f8 d9 hK
  cases hs
  exact hK
 | br s17 =>
  have hs := zp hs
  rintro f8 a0 ⟨σ, a9, b0, b1, b4, rfl, hC, hO, h0, f9⟩
  refine c_sr (ms rfl (ax rfl (zb (wp_ret ?_))))
  cases hs
  exact ⟨_, a9, b0, b1, b4, fr_m 20 rfl, hC, f9, hO.top⟩

theorem uc : ∀ (a : Addr) (w : World), (Instr.fieldAt 130 (.pointer (some a)) 0).run Tryz.prog w = .ok (.pointer (some (a.add 0))) w := fun _ _ => by kernel_rfl

theorem Ag119 : AggT Tryz.prog 119 false := fun _ => by kernel_rfl

theorem Sz119 : SzT Tryz.prog 119 1 := ⟨_, rfl, rfl⟩

theorem ud : ∀ (a : Addr) (w : World), (Instr.fieldAt 130 (.pointer (some a)) 1).run Tryz.prog w = .ok (.pointer (some (a.add 1))) w := fun _ _ => by kernel_rfl

theorem Ag126 : AggT Tryz.prog 126 false := fun _ => by kernel_rfl

theorem Sz126 : SzT Tryz.prog 126 1 := ⟨_, rfl, rfl⟩

def Yg (M : Nat → Prop) (w0 : World) {α_ : Type} (I_ : World → List α_ → Prop) (G_ : List Nat) (r : (List α_)) (a : Act) (w : World) : Prop :=
  ∃ (σ : Nv) , a = fr 35 (ovl σ []) ∧ Chg (G_ ++ []) w0 w ∧ I_ w r
def Zr {α_ : Type} (ls_ : α_ → α_ → Option Bool) (d_ : List α_) (a_ : Int) (b : Int) : Option ((List α_)) :=
  (forC (S := (List α_)) (R := (List α_)) (fun k78 s76 =>
  (iter (S := Int × (List α_)) (R := (List α_)) (fun s103 =>
  ((bif (decide (a_ < s103.1)) then (lsx ls_ s103.2 s103.1 (w64 (s103.1 - 1))).bind fun r116 =>
  some r116 else some false)).bind fun s111 =>
  (bif s111 then (swx s103.2 s103.1 (w64 (s103.1 - 1))).bind fun y119 =>
  some (.nx (w64 (s103.1 - 1), y119)) else some (.br (s103.1, s103.2)))) FU (k78, s76)).bind fun o107 => after o107 (fun r_ => some (.rt r_)) (fun s103 =>
  some (.nx s103.2))) (w64 (a_ + 1)) b d_).bind fun o80 => after o80 (fun r_ => some r_) (fun s76 =>
  some s76)
theorem xi {M : Nat → Prop} {w : World} {α_ : Type} {n0_ : Nat} {I_ : World → List α_ → Prop} {G_ : List Nat} {g_ sf_ : Nat} {lb_ sb_ : Array Value} (ls_ : α_ → α_ → Option Bool) (d_ : List α_) (a_ : Int) (b : Int) (hN_ : n0_ ≤ w.heap.size) (hE_ : Env Tryz.prog n0_ I_ G_ ls_ g_ lb_ sf_ sb_) (hI_ : I_ w d_) (hI : Own (Nw w (G_ ++ [])) M w (G_ ++ [])) (hM : Hm w M) {r : (List α_)} (hs : Zr ls_ d_ a_ b = some r) :
    Gives Tryz.prog 121 [(.agg #[(.func (.func g_) #[] lb_), (.func (.func sf_) #[] sb_)]), (iv a_), (iv b)] w (fun v w' => v = (.tuple #[]) ∧ Chg (G_ ++ []) w w' ∧ I_ w' r) := by
 refine zr Tryz.func121 rfl Tryz.ntmps121 (nl rfl) ?_
 have hO := hI
 have hC := Chg.refl (G_ ++ []) w
 unfold Zr at hs
 refine wp_mono (Q := wO (Yg M w I_ G_ r)) ?_ (fun e a a7 h => ?_)
 rotate_left
 ·cases e
  case ret =>
   obtain ⟨σ, rfl, hrest⟩ := h
   exact vU Tryz.results121  ⟨rfl, hrest⟩
  case normal =>
   obtain ⟨σ, rfl, hrest⟩ := h
   exact vY Tryz.results121  ⟨rfl, hrest⟩
  all_goals exact (h : False).elim
 refine c_sr ?_
 obtain ⟨a7, a1, b6, b4, b0, a0⟩ := zg w [(.func (.func g_) #[] lb_), (.func (.func sf_) #[] sb_)] 130
 refine za (w' := a7) (pq a1 0) (Zj rfl (by rw [b6, b4]; kernel_rfl)) ?_
 have hI_ := hE_.ext hI_ b0 (fun _ h => nomatch h)
 have hC := hC.ext b0
 have hO := hO.new1 b0 b4 a0.lt
 refine zb (c_sr (mi rfl (za _ (yad rfl rfl) (ai rfl (zb ?_)))))
 obtain ⟨o80, b7, hs⟩ := bind_some hs
 refine wp_block (zT (id := 0) b (I := fun k78 s76 a a4 => ∃ (σ : Nv), a = fr 35 (ovl σ [(1, (iv a_)), (2, (iv b)), (3, (pq a1 0)), (6, (iv k78))]) ∧ Chg (G_ ++ []) w a4 ∧ Own (Nw w (G_ ++ [])) M a4 ([a1] ++ (G_ ++ [])) ∧ I_ a4 s76 ∧ BoxV a4 a1 130 [(.func (.func g_) #[] lb_), (.func (.func sf_) #[] sb_)]) (J := fun s76 a a4 => ∃ (σ : Nv), a = fr 35 (ovl σ []) ∧ Chg (G_ ++ []) w a4 ∧ Own (Nw w (G_ ++ [])) M a4 ([a1] ++ (G_ ++ [])) ∧ I_ a4 s76 ∧ BoxV a4 a1 130 [(.func (.func g_) #[] lb_), (.func (.func sf_) #[] sb_)]) (K := (Yg M w I_ G_)) ?_ ?_ (w64 (a_ + 1)) d_ o80 _ _ ?_ b7 ?_)
 ·rintro k78 s76 a a4 ⟨σ, rfl, hC, hO, b1, a0⟩ hlt
  refine zd (c_sr (mi rfl (mi rfl (za _ (zw rfl rfl) (zb (zi (df hlt) (wp_exit ?_)))))))
  have hO := hO.fr1.fr1
  exact ⟨rfl, _, zG 35 trivial, hC, hO, b1, a0⟩
 ·rintro k78 s76 o80 a a4 ⟨σ, rfl, hC, hO, b1, a0⟩ hlt hw hs
  refine zd (c_sr (mi rfl (mi rfl (za _ (zw rfl rfl) (zb (zh (dt hlt) (wp_skip (zd (wp_block (c_sr (mi rfl (ai rfl (zb ?_)))))))))))))
  obtain ⟨o107, b8, hs⟩ := bind_some hs
  refine wp_block (Zy (id := 2) (I := fun s103 a a3 => ∃ (σ : Nv), a = fr 35 (ovl σ [(1, (iv a_)), (2, (iv b)), (3, (pq a1 0)), (6, (iv k78)), (7, (iv s103.1))]) ∧ Chg (G_ ++ []) w a3 ∧ Own (Nw w (G_ ++ [])) M a3 ([a1] ++ (G_ ++ [])) ∧ I_ a3 s103.2 ∧ BoxV a3 a1 130 [(.func (.func g_) #[] lb_), (.func (.func sf_) #[] sb_)]) (J := fun s103 a a3 => ∃ (σ : Nv), a = fr 35 (ovl σ [(1, (iv a_)), (2, (iv b)), (3, (pq a1 0)), (6, (iv k78))]) ∧ Chg (G_ ++ []) w a3 ∧ Own (Nw w (G_ ++ [])) M a3 ([a1] ++ (G_ ++ [])) ∧ I_ a3 s103.2 ∧ BoxV a3 a1 130 [(.func (.func g_) #[] lb_), (.func (.func sf_) #[] sb_)]) (K := (Yg M w I_ G_)) ?_ FU (k78, s76) o107 _ _ ?_ b8 ?_)
  ·rintro s103 o107 a a3 ⟨σ, rfl, hC, hO, a5, a0⟩ hs
   refine zd (zd ?_)
   obtain ⟨s111, b9, hs⟩ := bind_some hs
   refine yB (I := fun a b5 => ∃ (σ : Nv), a = fr 35 (ovl σ [(1, (iv a_)), (2, (iv b)), (3, (pq a1 0)), (6, (iv k78)), (7, (iv s103.1)), (26, (.bool s111))]) ∧ Chg [] a3 b5) ?_ ?_
   ·replace hs := b9
    have hMid := Chg.refl [] a3
    refine ze (mi rfl (mi rfl (za _ (YY rfl rfl) (mb rfl ?_))))
    rcases zf hs with ⟨a2, hs⟩ | ⟨a2, hs⟩
    ·skip
     refine py 19 (pq a1 0) (cb a2) (zk rfl uc) (py 19 _ (cb a2) (ld rfl Ag119 Sz119 a0 rfl) (py 19 (iv s103.1) (cb a2) (zx rfl) (py 19 (iv s103.1) (cb a2) (zx rfl) (py 19 _ (cb a2) (ysu rfl rfl) ?_))))
     obtain ⟨r116, c0, hs⟩ := bind_some hs
     refine pl_callby (tg := 19) (by kernel_rfl) (cb a2) rfl hE_.bod rfl (hE_.less a5 c0) ?_
     rintro _ c7 ⟨rfl, a6⟩
     have a5 := hE_.ext a5 a6 (fun _ h => nomatch h)
     obtain ⟨a0, hMid, hC, hO⟩ := xt4 a6 a0 hMid hC hO
     refine za _ (ptb (cb a2) rfl) (zb ?_)
     cases hs
     exact ⟨_, fr_m 35 rfl, hMid⟩
    refine pn 19 (cb a2) (pn 19 (cb a2) (pn 19 (cb a2) (pn 19 (cb a2) (pn 19 (cb a2) (pn 19 (cb a2) (za _ (pfb (cb a2) rfl) (zb ?_)))))))
    cases hs
    exact ⟨_, fr_m 35 rfl, hMid⟩
   rintro a8 b5 ⟨σ, rfl, a9⟩
   have a5 := hE_.ext a5 a9 (fun _ h => nomatch h)
   obtain ⟨a0, hC, hO⟩ := xt3 a9 a0 hC hO
   rcases zf hs with ⟨b2, hs⟩ | ⟨b2, hs⟩
   ·refine zh (cb b2) (wp_skip (zd (wp_block (ze (za (pq a1 1) (zk rfl ud) (za _ (ld rfl Ag126 Sz126 a0 rfl) (mi rfl (mi rfl (za _ (ysu rfl rfl) ?_)))))))))
    obtain ⟨y119, c1, hs⟩ := bind_some hs
    obtain ⟨c2, c3, b3, c4⟩ := hE_.swap a5 c1
    refine za (w' := c2) (.tuple #[]) (vC rfl rfl c3) ?_
    have hO := hO.fr1
    have a0 := a0.ap b3 hO zl mS
    have hC := hC.st b3 hO zl
    have hO := hO.ext b3
    refine zb (ze (mi rfl (za _ (ysu rfl rfl) (ai rfl (zb ?_)))))
    cases hs
    have hO := hO.fr1
    exact ⟨_, fr_m 35 rfl, hC, hO, c4, a0⟩
   refine zi (cb b2) (wp_exit ?_)
   cases hs
   have hO := hO.fr1.fr1
   exact ⟨rfl, _, fr_m 35 rfl, hC, hO, a5, a0⟩
  ·skip
   have hO := hO.fr1.fr1
   exact ⟨_, fr_m 35 rfl, hC, hO, b1, a0⟩
  cases o107 with
  | nx _ => exact True.intro
  | rt r_ =>
   have hs := zq hs
   intro a8 a7 hK
   cases hs
   exact hK
  | br s103 =>
   have hs := zp hs
   rintro a8 a3 ⟨σ, rfl, hC, hO, c5, a0⟩
   refine ze (mi rfl (za _ (yad rfl rfl) (ai rfl (zb ?_))))
   cases hs
   have hO := hO.fr1.fr1
   exact ⟨_, zG 35 ⟨rfl, rfl, rfl, congrArg (Value.int .i64) hw, trivial⟩, hC, hO, c5, a0⟩
 ·skip
  have hO := hO.fr1.fr1
  exact ⟨_, fr_m 35 rfl, hC, hO, hI_, a0⟩
 cases o80 with
 | nx _ => exact True.intro
 | rt r_ =>
  have hs := zq hs
  intro a8 a7 hK
  cases hs
  exact hK
 | br s76 =>
  have hs := zp hs
  rintro a8 a4 ⟨σ, rfl, hC, hO, c6, a0⟩
  cases hs
  exact ⟨_, zG 35 trivial, hC, c6⟩

def xU (M : Nat → Prop) (w0 : World) {α_ : Type} (I_ : World → List α_ → Prop) (G_ : List Nat) (r : (List α_)) (a : Act) (w : World) : Prop :=
  ∃ (σ : Nv) , a = fr 23 (ovl σ []) ∧ Chg (G_ ++ []) w0 w ∧ I_ w r
def Zm {α_ : Type} (ls_ : α_ → α_ → Option Bool) (d_ : List α_) (a_ : Int) (b : Int) (n : Int) : Option ((List α_)) :=
  (forC (S := (List α_)) (R := (List α_)) (fun k9 s7 =>
  (swx s7 (w64 (a_ + k9)) (w64 (b + k9))).bind fun y16 =>
  some (.nx y16)) 0 n d_).bind fun o11 => after o11 (fun r_ => some r_) (fun s7 =>
  some s7)
theorem YP {M : Nat → Prop} {w : World} {α_ : Type} {n0_ : Nat} {I_ : World → List α_ → Prop} {G_ : List Nat} {g_ sf_ : Nat} {lb_ sb_ : Array Value} (ls_ : α_ → α_ → Option Bool) (d_ : List α_) (a_ : Int) (b : Int) (n : Int) (hN_ : n0_ ≤ w.heap.size) (hE_ : Env Tryz.prog n0_ I_ G_ ls_ g_ lb_ sf_ sb_) (hI_ : I_ w d_) (hI : Own (Nw w (G_ ++ [])) M w (G_ ++ [])) (hM : Hm w M) {r : (List α_)} (hs : Zm ls_ d_ a_ b n = some r) :
    Gives Tryz.prog 124 [(.agg #[(.func (.func g_) #[] lb_), (.func (.func sf_) #[] sb_)]), (iv a_), (iv b), (iv n)] w (fun v w' => v = (.tuple #[]) ∧ Chg (G_ ++ []) w w' ∧ I_ w' r) := by
 refine zr Tryz.func124 rfl Tryz.ntmps124 (nl rfl) ?_
 have hO := hI
 have hC := Chg.refl (G_ ++ []) w
 unfold Zm at hs
 refine wp_mono (Q := wO (xU M w I_ G_ r)) ?_ (fun e a a3 h => ?_)
 rotate_left
 ·cases e
  case ret =>
   obtain ⟨σ, rfl, hrest⟩ := h
   exact vU Tryz.results124  ⟨rfl, hrest⟩
  case normal =>
   obtain ⟨σ, rfl, hrest⟩ := h
   exact vY Tryz.results124  ⟨rfl, hrest⟩
  all_goals exact (h : False).elim
 refine c_sr ?_
 obtain ⟨a3, a2, a8, a7, a4, a1⟩ := zg w [(.func (.func g_) #[] lb_), (.func (.func sf_) #[] sb_)] 130
 refine za (w' := a3) (pq a2 0) (Zj rfl (by rw [a8, a7]; kernel_rfl)) ?_
 have hI_ := hE_.ext hI_ a4 (fun _ h => nomatch h)
 have hC := hC.ext a4
 have hO := hO.new1 a4 a7 a1.lt
 refine zb (c_sr (ai rfl (zb ?_)))
 obtain ⟨o11, a9, hs⟩ := bind_some hs
 refine wp_block (zT (id := 0) n (I := fun k9 s7 a a0 => ∃ (σ : Nv), a = fr 23 (ovl σ [(1, (iv a_)), (2, (iv b)), (3, (iv n)), (4, (pq a2 0)), (8, (iv k9))]) ∧ Chg (G_ ++ []) w a0 ∧ Own (Nw w (G_ ++ [])) M a0 ([a2] ++ (G_ ++ [])) ∧ I_ a0 s7 ∧ BoxV a0 a2 130 [(.func (.func g_) #[] lb_), (.func (.func sf_) #[] sb_)]) (J := fun s7 a a0 => ∃ (σ : Nv), a = fr 23 (ovl σ []) ∧ Chg (G_ ++ []) w a0 ∧ Own (Nw w (G_ ++ [])) M a0 ([a2] ++ (G_ ++ [])) ∧ I_ a0 s7 ∧ BoxV a0 a2 130 [(.func (.func g_) #[] lb_), (.func (.func sf_) #[] sb_)]) (K := (xU M w I_ G_)) ?_ ?_ 0 d_ o11 _ _ ?_ a9 ?_)
 ·rintro k9 s7 a a0 ⟨σ, rfl, hC, hO, a5, a1⟩ hlt
  refine zd (c_sr (mi rfl (mi rfl (za _ (zw rfl rfl) (zb (zi (df hlt) (wp_exit ?_)))))))
  have hO := hO.fr1.fr1
  exact ⟨rfl, _, zG 23 trivial, hC, hO, a5, a1⟩
 ·rintro k9 s7 o11 a a0 ⟨σ, rfl, hC, hO, a5, a1⟩ hlt hw hs
  refine zd (c_sr (mi rfl (mi rfl (za _ (zw rfl rfl) (zb (zh (dt hlt) (wp_skip (zd (wp_block (ze (za (pq a2 1) (zk rfl ud) (za _ (ld rfl Ag126 Sz126 a1 rfl) (mi rfl (mi rfl (za _ (yad rfl rfl) (mi rfl (mi rfl (za _ (yad rfl rfl) ?_))))))))))))))))))
  obtain ⟨y16, b0, hs⟩ := bind_some hs
  obtain ⟨b1, b2, a6, b3⟩ := hE_.swap a5 b0
  refine za (w' := b1) (.tuple #[]) (vC rfl rfl b2) ?_
  have hO := hO.fr1
  have a1 := a1.ap a6 hO zl mS
  have hC := hC.st a6 hO zl
  have hO := hO.ext a6
  refine zb (ze (mi rfl (za _ (yad rfl rfl) (ai rfl (zb ?_)))))
  cases hs
  have hO := hO.fr1
  exact ⟨_, zG 23 ⟨rfl, rfl, rfl, rfl, congrArg (Value.int .i64) hw, trivial⟩, hC, hO, b3, a1⟩
 ·skip
  have hO := hO.fr1.fr1
  exact ⟨_, fr_m 23 rfl, hC, hO, hI_, a1⟩
 cases o11 with
 | nx _ => exact True.intro
 | rt r_ =>
  have hs := zq hs
  intro b4 a3 hK
  cases hs
  exact hK
 | br s7 =>
  have hs := zp hs
  rintro b4 a0 ⟨σ, rfl, hC, hO, b5, a1⟩
  cases hs
  exact ⟨_, zG 23 trivial, hC, b5⟩

theorem WP : AggT Tryz.prog 130 true := fun _ => by kernel_rfl

theorem WM : SzT Tryz.prog 130 2 := ⟨_, rfl, rfl⟩

theorem Bd124 : zF Tryz.prog 124 := zJ Tryz.func124 (by kernel_rfl) rfl

def XH (M : Nat → Prop) (w0 : World) {α_ : Type} (I_ : World → List α_ → Prop) (G_ : List Nat) (r : (List α_)) (a : Act) (w : World) : Prop :=
  ∃ (σ : Nv) , a = fr 53 (ovl σ []) ∧ Chg (G_ ++ []) w0 w ∧ I_ w r
def yu {α_ : Type} (ls_ : α_ → α_ → Option Bool) (d_ : List α_) (a_ : Int) (m : Int) (b : Int) : Option ((List α_)) :=
  (iter (S := Int × Int × (List α_)) (R := (List α_)) (fun s15 =>
  (bif (s15.1 != s15.2.1) then (bif (decide (s15.2.1 < s15.1)) then (Zm ls_ s15.2.2 (w64 (m - s15.1)) m s15.2.1).bind fun r26 =>
  some (.nx (w64 (s15.1 - s15.2.1), s15.2.1, r26)) else (Zm ls_ s15.2.2 (w64 (m - s15.1)) (w64 ((w64 (m + s15.2.1)) - s15.1)) s15.1).bind fun r28 =>
  some (.nx (s15.1, w64 (s15.2.1 - s15.1), r28))) else some (.br (s15.1, s15.2.1, s15.2.2)))) FU (w64 (m - a_), w64 (b - m), d_)).bind fun o19 => after o19 (fun r_ => some r_) (fun s15 =>
  (Zm ls_ s15.2.2 (w64 (m - s15.1)) m s15.1).bind fun r30 =>
  some r30)
theorem vh {M : Nat → Prop} {w : World} {α_ : Type} {n0_ : Nat} {I_ : World → List α_ → Prop} {G_ : List Nat} {g_ sf_ : Nat} {lb_ sb_ : Array Value} (ls_ : α_ → α_ → Option Bool) (d_ : List α_) (a_ : Int) (m : Int) (b : Int) (hN_ : n0_ ≤ w.heap.size) (hE_ : Env Tryz.prog n0_ I_ G_ ls_ g_ lb_ sf_ sb_) (hI_ : I_ w d_) (hI : Own (Nw w (G_ ++ [])) M w (G_ ++ [])) (hM : Hm w M) {r : (List α_)} (hs : yu ls_ d_ a_ m b = some r) :
    Gives Tryz.prog 123 [(.agg #[(.func (.func g_) #[] lb_), (.func (.func sf_) #[] sb_)]), (iv a_), (iv m), (iv b)] w (fun v w' => v = (.tuple #[]) ∧ Chg (G_ ++ []) w w' ∧ I_ w' r) := by
 refine zr Tryz.func123 rfl Tryz.ntmps123 (nl rfl) ?_
 have hO := hI
 have hC := Chg.refl (G_ ++ []) w
 unfold yu at hs
 refine wp_mono (Q := wO (XH M w I_ G_ r)) ?_ (fun e a a3 h => ?_)
 rotate_left
 ·cases e
  case ret =>
   obtain ⟨σ, rfl, hrest⟩ := h
   exact vU Tryz.results123  ⟨rfl, hrest⟩
  case normal =>
   obtain ⟨σ, rfl, hrest⟩ := h
   exact vY Tryz.results123  ⟨rfl, hrest⟩
  all_goals exact (h : False).elim
 refine c_sr ?_
 obtain ⟨a3, a2, b2, b1, a4, a0⟩ := zg w [(.func (.func g_) #[] lb_), (.func (.func sf_) #[] sb_)] 130
 refine za (w' := a3) (pq a2 0) (Zj rfl (by rw [b2, b1]; kernel_rfl)) ?_
 have hI_ := hE_.ext hI_ a4 (fun _ h => nomatch h)
 have hC := hC.ext a4
 have hO := hO.new1 a4 b1 a0.lt
 refine zb (c_sr (mi rfl (mi rfl (za _ (ysu rfl rfl) (ai rfl (zb (c_sr (mi rfl (mi rfl (za _ (ysu rfl rfl) (ai rfl (zb (zd ?_)))))))))))))
 obtain ⟨o19, b3, hs⟩ := bind_some hs
 refine wp_block (Zy (id := 0) (I := fun s15 a a1 => ∃ (σ : Nv), a = fr 53 (ovl σ [(2, (iv m)), (4, (pq a2 0)), (8, (iv s15.1)), (9, (iv s15.2.1))]) ∧ Chg (G_ ++ []) w a1 ∧ Own (Nw w (G_ ++ [])) M a1 ([a2] ++ (G_ ++ [])) ∧ I_ a1 s15.2.2 ∧ BoxV a1 a2 130 [(.func (.func g_) #[] lb_), (.func (.func sf_) #[] sb_)]) (J := fun s15 a a1 => ∃ (σ : Nv), a = fr 53 (ovl σ [(2, (iv m)), (4, (pq a2 0)), (8, (iv s15.1))]) ∧ Chg (G_ ++ []) w a1 ∧ Own (Nw w (G_ ++ [])) M a1 ([a2] ++ (G_ ++ [])) ∧ I_ a1 s15.2.2 ∧ BoxV a1 a2 130 [(.func (.func g_) #[] lb_), (.func (.func sf_) #[] sb_)]) (K := (XH M w I_ G_)) ?_ FU (w64 (m - a_), w64 (b - m), d_) o19 _ _ ?_ b3 ?_)
 ·rintro s15 o19 a a1 ⟨σ, rfl, hC, hO, a5, a0⟩ hs
  refine zd (c_sr (mi rfl (mi rfl (za (.bool (s15.1 != s15.2.1)) (YJ rfl rfl) (zb ?_)))))
  rcases zf hs with ⟨a6, hs⟩ | ⟨a6, hs⟩
  ·refine zh (cb a6) (wp_skip (wp_block (c_sr (mi rfl (mi rfl (za _ (YY rfl rfl) (zb ?_)))))))
   rcases zf hs with ⟨a7, hs⟩ | ⟨a7, hs⟩
   ·refine zh (cb a7) (c_sr (za _ (ldw rfl WP a0 WM) (mi rfl (mi rfl (za _ (ysu rfl rfl) (mi rfl (mi rfl ?_)))))))
    have hO := hO.fr1
    have b4 := Own.lend (F := (G_ ++ [])) (R := [a2] ++ []) (Own.perm hO (by simp))
    obtain ⟨r26, b5, hs⟩ := bind_some hs
    refine zy Bd124 rfl (YP (M := M) ls_ s15.2.2 (w64 (m - s15.1)) m s15.2.1 (Nat.le_trans hN_ hC.size) hE_ a5 b4 hO.fut b5) ?_
    rintro _ c5 ⟨rfl, a8, b6⟩
    have a0 := a0.ap a8 hO ZM mS
    have hC := hC.st a8 hO ZM
    have hO := hO.ext a8
    refine zb (ze (mi rfl (mi rfl (za _ (ysu rfl rfl) (ai rfl (zb ?_))))))
    cases hs
    have hO := hO.fr1
    exact ⟨_, fr_m 53 rfl, hC, hO, b6, a0⟩
   refine zi (cb a7) (c_sr (za _ (ldw rfl WP a0 WM) (mi rfl (mi rfl (za _ (ysu rfl rfl) (mi rfl (mi rfl (za _ (yad rfl rfl) (mi rfl (za _ (ysu rfl rfl) (mi rfl ?_)))))))))))
   have hO := hO.fr1
   have b7 := Own.lend (F := (G_ ++ [])) (R := [a2] ++ []) (Own.perm hO (by simp))
   obtain ⟨r28, b8, hs⟩ := bind_some hs
   refine zy Bd124 rfl (YP (M := M) ls_ s15.2.2 (w64 (m - s15.1)) (w64 ((w64 (m + s15.2.1)) - s15.1)) s15.1 (Nat.le_trans hN_ hC.size) hE_ a5 b7 hO.fut b8) ?_
   rintro _ c6 ⟨rfl, a9, b9⟩
   have a0 := a0.ap a9 hO ZM mS
   have hC := hC.st a9 hO ZM
   have hO := hO.ext a9
   refine zb (ze (mi rfl (mi rfl (za _ (ysu rfl rfl) (ai rfl (zb ?_))))))
   cases hs
   have hO := hO.fr1
   exact ⟨_, fr_m 53 rfl, hC, hO, b9, a0⟩
  refine zi (cb a6) (wp_exit ?_)
  cases hs
  have hO := hO.fr1.fr1
  exact ⟨rfl, _, fr_m 53 rfl, hC, hO, a5, a0⟩
 ·skip
  have hO := hO.fr1.fr1
  exact ⟨_, fr_m 53 rfl, hC, hO, hI_, a0⟩
 cases o19 with
 | nx _ => exact True.intro
 | rt r_ =>
  have hs := zq hs
  intro c0 a3 hK
  cases hs
  exact hK
 | br s15 =>
  have hs := zp hs
  rintro c0 a1 ⟨σ, rfl, hC, hO, c1, a0⟩
  refine ze (za _ (ldw rfl WP a0 WM) (mi rfl (mi rfl (za _ (ysu rfl rfl) (mi rfl (mi rfl ?_))))))
  have hO := hO.fr1
  have c2 := Own.lend (F := (G_ ++ [])) (R := [a2] ++ []) (Own.perm hO (by simp))
  obtain ⟨r30, c3, hs⟩ := bind_some hs
  refine zy Bd124 rfl (YP (M := M) ls_ s15.2.2 (w64 (m - s15.1)) m s15.1 (Nat.le_trans hN_ hC.size) hE_ c1 c2 hO.fut c3) ?_
  rintro _ c7 ⟨rfl, b0, c4⟩
  have a0 := a0.ap b0 hO ZM mS
  have hC := hC.st b0 hO ZM
  have hO := hO.ext b0
  refine zb ?_
  cases hs
  exact ⟨_, zG 53 trivial, hC, c4⟩

theorem Bd123 : zF Tryz.prog 123 := zJ Tryz.func123 (by kernel_rfl) rfl

theorem Bd122 : zF Tryz.prog 122 := zJ Tryz.func122 (by kernel_rfl) rfl

def ye (M : Nat → Prop) (w0 : World) {α_ : Type} (I_ : World → List α_ → Prop) (G_ : List Nat) (r : (List α_)) (a : Act) (w : World) : Prop :=
  ∃ (σ : Nv) , a = fr 177 (ovl σ []) ∧ Chg (G_ ++ []) w0 w ∧ I_ w r
def zO {α_ : Type} : Nat → (α_ → α_ → Option Bool) → (List α_) → (Int) → (Int) → (Int) → Option ((List α_))
  | 0, _, _, _, _, _ => none
  | fu_ + 1, ls_, d_, a_, m, b =>
  (bif ((w64 (m - a_)) == 1) then (iter (S := Int × Int) (R := (List α_)) (fun s7 =>
  (bif (decide (s7.1 < s7.2)) then (lsx ls_ d_ (w64 (ishr .u64 (IntKind.u64.wrap (w64 (s7.1 + s7.2))) 1)) a_).bind fun r15 =>
  (bif r15 then some (.nx (w64 ((w64 (ishr .u64 (IntKind.u64.wrap (w64 (s7.1 + s7.2))) 1)) + 1), s7.2)) else some (.nx (s7.1, w64 (ishr .u64 (IntKind.u64.wrap (w64 (s7.1 + s7.2))) 1)))) else some (.br (s7.1, s7.2)))) FU (m, b)).bind fun o11 => after o11 (fun r_ => some r_) (fun s7 =>
  (forC (S := (List α_)) (R := (List α_)) (fun k24 s22 =>
  (swx s22 k24 (w64 (k24 + 1))).bind fun y31 =>
  some (.nx y31)) a_ (w64 (s7.1 - 1)) d_).bind fun o26 => after o26 (fun r_ => some r_) (fun s22 =>
  some s22)) else (bif ((w64 (b - m)) == 1) then (iter (S := Int × Int) (R := (List α_)) (fun s37 =>
  (bif (decide (s37.1 < s37.2)) then (lsx ls_ d_ m (w64 (ishr .u64 (IntKind.u64.wrap (w64 (s37.1 + s37.2))) 1))).bind fun r45 =>
  (bif (!r45) then some (.nx (w64 ((w64 (ishr .u64 (IntKind.u64.wrap (w64 (s37.1 + s37.2))) 1)) + 1), s37.2)) else some (.nx (s37.1, w64 (ishr .u64 (IntKind.u64.wrap (w64 (s37.1 + s37.2))) 1)))) else some (.br (s37.1, s37.2)))) FU (a_, m)).bind fun o41 => after o41 (fun r_ => some r_) (fun s37 =>
  (iter (S := Int × (List α_)) (R := (List α_)) (fun s54 =>
  (bif (decide (s37.1 < s54.1)) then (swx s54.2 s54.1 (w64 (s54.1 - 1))).bind fun y64 =>
  some (.nx (w64 (s54.1 - 1), y64)) else some (.br (s54.1, s54.2)))) FU (m, d_)).bind fun o58 => after o58 (fun r_ => some r_) (fun s54 =>
  some s54.2)) else (bif (decide ((w64 (ishr .u64 (IntKind.u64.wrap (w64 (a_ + b))) 1)) < m)) then some (w64 ((w64 ((w64 (ishr .u64 (IntKind.u64.wrap (w64 (a_ + b))) 1)) + m)) - b), w64 (ishr .u64 (IntKind.u64.wrap (w64 (a_ + b))) 1)) else some (a_, m)).bind fun s65 =>
  (iter (S := Int × Int) (R := (List α_)) (fun s73 =>
  (bif (decide (s73.1 < s73.2)) then (lsx ls_ d_ (w64 ((w64 ((w64 ((w64 (ishr .u64 (IntKind.u64.wrap (w64 (a_ + b))) 1)) + m)) - 1)) - (w64 (ishr .u64 (IntKind.u64.wrap (w64 (s73.1 + s73.2))) 1)))) (w64 (ishr .u64 (IntKind.u64.wrap (w64 (s73.1 + s73.2))) 1))).bind fun r81 =>
  (bif (!r81) then some (.nx (w64 ((w64 (ishr .u64 (IntKind.u64.wrap (w64 (s73.1 + s73.2))) 1)) + 1), s73.2)) else some (.nx (s73.1, w64 (ishr .u64 (IntKind.u64.wrap (w64 (s73.1 + s73.2))) 1)))) else some (.br (s73.1, s73.2)))) FU (s65.1, s65.2)).bind fun o77 => after o77 (fun r_ => some r_) (fun s73 =>
  (bif ((decide (s73.1 < m)) && (decide (m < (w64 ((w64 ((w64 (ishr .u64 (IntKind.u64.wrap (w64 (a_ + b))) 1)) + m)) - s73.1))))) then (yu ls_ d_ s73.1 m (w64 ((w64 ((w64 (ishr .u64 (IntKind.u64.wrap (w64 (a_ + b))) 1)) + m)) - s73.1))).bind fun r97 =>
  some r97 else some d_).bind fun s91 =>
  (bif ((decide (a_ < s73.1)) && (decide (s73.1 < (w64 (ishr .u64 (IntKind.u64.wrap (w64 (a_ + b))) 1))))) then (zO fu_ ls_ s91 a_ s73.1 (w64 (ishr .u64 (IntKind.u64.wrap (w64 (a_ + b))) 1))).bind fun r112 =>
  some r112 else some s91).bind fun s106 =>
  (bif ((decide ((w64 (ishr .u64 (IntKind.u64.wrap (w64 (a_ + b))) 1)) < (w64 ((w64 ((w64 (ishr .u64 (IntKind.u64.wrap (w64 (a_ + b))) 1)) + m)) - s73.1)))) && (decide ((w64 ((w64 ((w64 (ishr .u64 (IntKind.u64.wrap (w64 (a_ + b))) 1)) + m)) - s73.1)) < b))) then (zO fu_ ls_ s106 (w64 (ishr .u64 (IntKind.u64.wrap (w64 (a_ + b))) 1)) (w64 ((w64 ((w64 (ishr .u64 (IntKind.u64.wrap (w64 (a_ + b))) 1)) + m)) - s73.1)) b).bind fun r119 =>
  some r119 else some s106))))
theorem Xj : ∀ (fu_ : Nat) {M : Nat → Prop} {w : World} {α_ : Type} {n0_ : Nat} {I_ : World → List α_ → Prop} {G_ : List Nat} {g_ sf_ : Nat} {lb_ sb_ : Array Value} (ls_ : α_ → α_ → Option Bool) (d_ : List α_) (a_ : Int) (m : Int) (b : Int) (hN_ : n0_ ≤ w.heap.size) (hE_ : Env Tryz.prog n0_ I_ G_ ls_ g_ lb_ sf_ sb_) (hI_ : I_ w d_) (hI : Own (Nw w (G_ ++ [])) M w (G_ ++ [])) (hM : Hm w M) {r : (List α_)} (hs : zO fu_ ls_ d_ a_ m b = some r), Gives Tryz.prog 122 [(.agg #[(.func (.func g_) #[] lb_), (.func (.func sf_) #[] sb_)]), (iv a_), (iv m), (iv b)] w (fun v w' => v = (.tuple #[]) ∧ Chg (G_ ++ []) w w' ∧ I_ w' r) := by
 intro fu_
 induction fu_ with
 | zero => intro M w α_ n0_ I_ G_ g_ sf_ lb_ sb_ ls_ d_ a_ m b hN_ hE_ hI_ hI hM r hs; exact (nomatch hs)
 | succ fu_ c_ih =>
 intro M w α_ n0_ I_ G_ g_ sf_ lb_ sb_ ls_ d_ a_ m b hN_ hE_ hI_ hI hM r hs
 refine zr Tryz.func122 rfl Tryz.ntmps122 (nl rfl) ?_
 have hO := hI
 have hC := Chg.refl (G_ ++ []) w
 rw [zO] at hs
 refine wp_mono (Q := wO (ye M w I_ G_ r)) ?_ (fun e a b1 h => ?_)
 rotate_left
 ·cases e
  case ret =>
   obtain ⟨σ, rfl, hrest⟩ := h
   exact vU Tryz.results122  ⟨rfl, hrest⟩
  case normal =>
   obtain ⟨σ, rfl, hrest⟩ := h
   exact vY Tryz.results122  ⟨rfl, hrest⟩
  all_goals exact (h : False).elim
 refine c_sr ?_
 obtain ⟨b1, a1, e8, e3, c3, a0⟩ := zg w [(.func (.func g_) #[] lb_), (.func (.func sf_) #[] sb_)] 130
 refine za (w' := b1) (pq a1 0) (Zj rfl (by rw [e8, e3]; kernel_rfl)) ?_
 have hI_ := hE_.ext hI_ c3 (fun _ h => nomatch h)
 have hC := hC.ext c3
 have hO := hO.new1 c3 e3 a0.lt
 refine zb (zd (c_sr (mi rfl (mi rfl (za _ (ysu rfl rfl) (za (.bool ((w64 (m - a_)) == 1)) (xV rfl rfl) (zb ?_)))))))
 rcases zf hs with ⟨c4, hs⟩ | ⟨c4, hs⟩
 ·refine zh (cb c4) (c_sr (mi rfl (ai rfl (zb (c_sr (mi rfl (ai rfl (zb (zd ?_)))))))))
  obtain ⟨o11, e9, hs⟩ := bind_some hs
  refine wp_block (Zy (id := 0) (I := fun s7 a a5 => ∃ (σ : Nv), a = fr 177 (ovl σ [(1, (iv a_)), (2, (iv m)), (3, (iv b)), (4, (pq a1 0)), (8, (iv s7.1)), (9, (iv s7.2))]) ∧ Chg (G_ ++ []) w a5 ∧ Own (Nw w (G_ ++ [])) M a5 ([a1] ++ (G_ ++ [])) ∧ I_ a5 d_ ∧ BoxV a5 a1 130 [(.func (.func g_) #[] lb_), (.func (.func sf_) #[] sb_)]) (J := fun s7 a a5 => ∃ (σ : Nv), a = fr 177 (ovl σ [(1, (iv a_)), (2, (iv m)), (3, (iv b)), (4, (pq a1 0)), (8, (iv s7.1))]) ∧ Chg (G_ ++ []) w a5 ∧ Own (Nw w (G_ ++ [])) M a5 ([a1] ++ (G_ ++ [])) ∧ I_ a5 d_ ∧ BoxV a5 a1 130 [(.func (.func g_) #[] lb_), (.func (.func sf_) #[] sb_)]) (K := (ye M w I_ G_)) ?_ FU (m, b) o11 _ _ ?_ e9 ?_)
  ·rintro s7 o11 a a5 ⟨σ, rfl, hC, hO, hI_, a0⟩ hs
   refine zd (c_sr (mi rfl (mi rfl (za _ (zw rfl rfl) (zb ?_)))))
   rcases zf hs with ⟨c5, hs⟩ | ⟨c5, hs⟩
   ·refine zh (cb c5) (wp_skip (wp_block (c_sr (mi rfl (mi rfl (za _ (yad rfl rfl) (za (.int .u64 (IntKind.u64.wrap (w64 (s7.1 + s7.2)))) (Yr Tryz.underlying3 Tryz.underlying111 rfl) (za (.int .u64 (ishr .u64 (IntKind.u64.wrap (w64 (s7.1 + s7.2))) 1)) (zbn rfl rfl (by decide)) (za (iv (w64 (ishr .u64 (IntKind.u64.wrap (w64 (s7.1 + s7.2))) 1))) (Yr Tryz.underlying111 Tryz.underlying3 rfl) (ai rfl (zb (c_sr (za (pq a1 0) (zk rfl uc) (za _ (ld rfl Ag119 Sz119 a0 rfl) (mi rfl (mi rfl ?_))))))))))))))))
    obtain ⟨r15, f0, hs⟩ := bind_some hs
    refine uM rfl hE_.bod rfl (hE_.less hI_ f0) ?_
    rintro _ h9 ⟨rfl, b5⟩
    have hI_ := hE_.ext hI_ b5 (fun _ h => nomatch h)
    obtain ⟨a0, hC, hO⟩ := xt3 b5 a0 hC hO
    refine zb ?_
    rcases zf hs with ⟨c6, hs⟩ | ⟨c6, hs⟩
    ·refine zh (cb c6) (ze (mi rfl (za _ (yad rfl rfl) (ai rfl (zb ?_)))))
     cases hs
     have hO := hO.fr1.fr1
     exact ⟨_, fr_m 177 rfl, hC, hO, hI_, a0⟩
    refine zi (cb c6) (ze (mi rfl (ai rfl (zb ?_))))
    cases hs
    have hO := hO.fr1.fr1
    exact ⟨_, fr_m 177 rfl, hC, hO, hI_, a0⟩
   refine zi (cb c5) (wp_exit ?_)
   cases hs
   have hO := hO.fr1.fr1
   exact ⟨rfl, _, fr_m 177 rfl, hC, hO, hI_, a0⟩
  ·skip
   have hO := hO.fr1.fr1
   exact ⟨_, fr_m 177 rfl, hC, hO, hI_, a0⟩
  cases o11 with
  | nx _ => exact True.intro
  | rt r_ =>
   have hs := zq hs
   intro a2 b1 hK
   cases hs
   exact hK
  | br s7 =>
   have hs := zp hs
   rintro a2 a5 ⟨σ, rfl, hC, hO, hI_, a0⟩
   refine zd (c_sr (mi rfl (ai rfl (zb ?_))))
   obtain ⟨o26, f1, hs⟩ := bind_some hs
   refine wp_block (zT (id := 2) (w64 (s7.1 - 1)) (I := fun k24 s22 a a4 => ∃ (σ : Nv), a = fr 177 (ovl σ [(1, (iv a_)), (2, (iv m)), (3, (iv b)), (4, (pq a1 0)), (8, (iv s7.1)), (11, (iv k24))]) ∧ Chg (G_ ++ []) w a4 ∧ Own (Nw w (G_ ++ [])) M a4 ([a1] ++ (G_ ++ [])) ∧ I_ a4 s22 ∧ BoxV a4 a1 130 [(.func (.func g_) #[] lb_), (.func (.func sf_) #[] sb_)]) (J := fun s22 a a4 => ∃ (σ : Nv), a = fr 177 (ovl σ [(1, (iv a_)), (2, (iv m)), (3, (iv b)), (4, (pq a1 0))]) ∧ Chg (G_ ++ []) w a4 ∧ Own (Nw w (G_ ++ [])) M a4 ([a1] ++ (G_ ++ [])) ∧ I_ a4 s22 ∧ BoxV a4 a1 130 [(.func (.func g_) #[] lb_), (.func (.func sf_) #[] sb_)]) (K := (ye M w I_ G_)) ?_ ?_ a_ d_ o26 _ _ ?_ f1 ?_)
   ·rintro k24 s22 a a4 ⟨σ, rfl, hC, hO, c7, a0⟩ hlt
    refine zd (c_sr (mi rfl (mi rfl (za _ (ysu rfl rfl) (za _ (zw rfl rfl) (zb (zi (df hlt) (wp_exit ?_))))))))
    have hO := hO.fr1.fr1
    exact ⟨rfl, _, fr_m 177 rfl, hC, hO, c7, a0⟩
   ·rintro k24 s22 o26 a a4 ⟨σ, rfl, hC, hO, c7, a0⟩ hlt hw hs
    refine zd (c_sr (mi rfl (mi rfl (za _ (ysu rfl rfl) (za _ (zw rfl rfl) (zb (zh (dt hlt) (wp_skip (zd (wp_block (ze (za (pq a1 1) (zk rfl ud) (za _ (ld rfl Ag126 Sz126 a0 rfl) (mi rfl (mi rfl (za _ (yad rfl rfl) ?_))))))))))))))))
    obtain ⟨y31, f2, hs⟩ := bind_some hs
    obtain ⟨f3, f4, c8, f5⟩ := hE_.swap c7 f2
    refine za (w' := f3) (.tuple #[]) (vC rfl rfl f4) ?_
    have hO := hO.fr1
    have a0 := a0.ap c8 hO zl mS
    have hC := hC.st c8 hO zl
    have hO := hO.ext c8
    refine zb (ze (mi rfl (za _ (yad rfl rfl) (ai rfl (zb ?_)))))
    cases hs
    have hO := hO.fr1
    exact ⟨_, zG 177 ⟨rfl, rfl, rfl, rfl, rfl, congrArg (Value.int .i64) hw, trivial⟩, hC, hO, f5, a0⟩
   ·skip
    have hO := hO.fr1.fr1
    exact ⟨_, fr_m 177 rfl, hC, hO, hI_, a0⟩
   cases o26 with
   | nx _ => exact True.intro
   | rt r_ =>
    have hs := zq hs
    intro a2 b1 hK
    cases hs
    exact hK
   | br s22 =>
    have hs := zp hs
    rintro a2 a4 ⟨σ, rfl, hC, hO, f6, a0⟩
    refine wp_ret ?_
    cases hs
    exact ⟨_, zG 177 trivial, hC, f6⟩
 refine zi (cb c4) (wp_skip (zd (c_sr (mi rfl (mi rfl (za _ (ysu rfl rfl) (za (.bool ((w64 (b - m)) == 1)) (xV rfl rfl) (zb ?_))))))))
 rcases zf hs with ⟨c9, hs⟩ | ⟨c9, hs⟩
 ·refine zh (cb c9) (c_sr (mi rfl (ai rfl (zb (c_sr (mi rfl (ai rfl (zb (zd ?_)))))))))
  obtain ⟨o41, f7, hs⟩ := bind_some hs
  refine wp_block (Zy (id := 4) (I := fun s37 a a6 => ∃ (σ : Nv), a = fr 177 (ovl σ [(1, (iv a_)), (2, (iv m)), (3, (iv b)), (4, (pq a1 0)), (12, (iv s37.1)), (13, (iv s37.2))]) ∧ Chg (G_ ++ []) w a6 ∧ Own (Nw w (G_ ++ [])) M a6 ([a1] ++ (G_ ++ [])) ∧ I_ a6 d_ ∧ BoxV a6 a1 130 [(.func (.func g_) #[] lb_), (.func (.func sf_) #[] sb_)]) (J := fun s37 a a6 => ∃ (σ : Nv), a = fr 177 (ovl σ [(1, (iv a_)), (2, (iv m)), (3, (iv b)), (4, (pq a1 0)), (12, (iv s37.1))]) ∧ Chg (G_ ++ []) w a6 ∧ Own (Nw w (G_ ++ [])) M a6 ([a1] ++ (G_ ++ [])) ∧ I_ a6 d_ ∧ BoxV a6 a1 130 [(.func (.func g_) #[] lb_), (.func (.func sf_) #[] sb_)]) (K := (ye M w I_ G_)) ?_ FU (a_, m) o41 _ _ ?_ f7 ?_)
  ·rintro s37 o41 a a6 ⟨σ, rfl, hC, hO, hI_, a0⟩ hs
   refine zd (c_sr (mi rfl (mi rfl (za _ (zw rfl rfl) (zb ?_)))))
   rcases zf hs with ⟨d0, hs⟩ | ⟨d0, hs⟩
   ·refine zh (cb d0) (wp_skip (wp_block (c_sr (mi rfl (mi rfl (za _ (yad rfl rfl) (za (.int .u64 (IntKind.u64.wrap (w64 (s37.1 + s37.2)))) (Yr Tryz.underlying3 Tryz.underlying111 rfl) (za (.int .u64 (ishr .u64 (IntKind.u64.wrap (w64 (s37.1 + s37.2))) 1)) (zbn rfl rfl (by decide)) (za (iv (w64 (ishr .u64 (IntKind.u64.wrap (w64 (s37.1 + s37.2))) 1))) (Yr Tryz.underlying111 Tryz.underlying3 rfl) (ai rfl (zb (c_sr (za (pq a1 0) (zk rfl uc) (za _ (ld rfl Ag119 Sz119 a0 rfl) (mi rfl (mi rfl ?_))))))))))))))))
    obtain ⟨r45, f8, hs⟩ := bind_some hs
    refine uM rfl hE_.bod rfl (hE_.less hI_ f8) ?_
    rintro _ i0 ⟨rfl, b6⟩
    have hI_ := hE_.ext hI_ b6 (fun _ h => nomatch h)
    obtain ⟨a0, hC, hO⟩ := xt3 b6 a0 hC hO
    refine za _ (ZA rfl) (zb ?_)
    rcases zf hs with ⟨d1, hs⟩ | ⟨d1, hs⟩
    ·refine zh (cb d1) (ze (mi rfl (za _ (yad rfl rfl) (ai rfl (zb ?_)))))
     cases hs
     have hO := hO.fr1.fr1
     exact ⟨_, fr_m 177 rfl, hC, hO, hI_, a0⟩
    refine zi (cb d1) (ze (mi rfl (ai rfl (zb ?_))))
    cases hs
    have hO := hO.fr1.fr1
    exact ⟨_, fr_m 177 rfl, hC, hO, hI_, a0⟩
   refine zi (cb d0) (wp_exit ?_)
   cases hs
   have hO := hO.fr1.fr1
   exact ⟨rfl, _, fr_m 177 rfl, hC, hO, hI_, a0⟩
  ·skip
   have hO := hO.fr1.fr1
   exact ⟨_, fr_m 177 rfl, hC, hO, hI_, a0⟩
  cases o41 with
  | nx _ => exact True.intro
  | rt r_ =>
   have hs := zq hs
   intro a2 b1 hK
   cases hs
   exact hK
  | br s37 =>
   have hs := zp hs
   rintro a2 a6 ⟨σ, rfl, hC, hO, hI_, a0⟩
   refine zd (c_sr (mi rfl (ai rfl (zb ?_))))
   obtain ⟨o58, f9, hs⟩ := bind_some hs
   refine wp_block (Zy (id := 6) (I := fun s54 a a7 => ∃ (σ : Nv), a = fr 177 (ovl σ [(1, (iv a_)), (2, (iv m)), (3, (iv b)), (4, (pq a1 0)), (12, (iv s37.1)), (15, (iv s54.1))]) ∧ Chg (G_ ++ []) w a7 ∧ Own (Nw w (G_ ++ [])) M a7 ([a1] ++ (G_ ++ [])) ∧ I_ a7 s54.2 ∧ BoxV a7 a1 130 [(.func (.func g_) #[] lb_), (.func (.func sf_) #[] sb_)]) (J := fun s54 a a7 => ∃ (σ : Nv), a = fr 177 (ovl σ [(1, (iv a_)), (2, (iv m)), (3, (iv b)), (4, (pq a1 0))]) ∧ Chg (G_ ++ []) w a7 ∧ Own (Nw w (G_ ++ [])) M a7 ([a1] ++ (G_ ++ [])) ∧ I_ a7 s54.2 ∧ BoxV a7 a1 130 [(.func (.func g_) #[] lb_), (.func (.func sf_) #[] sb_)]) (K := (ye M w I_ G_)) ?_ FU (m, d_) o58 _ _ ?_ f9 ?_)
   ·rintro s54 o58 a a7 ⟨σ, rfl, hC, hO, e4, a0⟩ hs
    refine zd (c_sr (mi rfl (mi rfl (za _ (YY rfl rfl) (zb ?_)))))
    rcases zf hs with ⟨d2, hs⟩ | ⟨d2, hs⟩
    ·refine zh (cb d2) (wp_skip (zd (wp_block (ze (za (pq a1 1) (zk rfl ud) (za _ (ld rfl Ag126 Sz126 a0 rfl) (mi rfl (mi rfl (za _ (ysu rfl rfl) ?_)))))))))
     obtain ⟨y64, g0, hs⟩ := bind_some hs
     obtain ⟨g1, g2, d3, g3⟩ := hE_.swap e4 g0
     refine za (w' := g1) (.tuple #[]) (vC rfl rfl g2) ?_
     have hO := hO.fr1
     have a0 := a0.ap d3 hO zl mS
     have hC := hC.st d3 hO zl
     have hO := hO.ext d3
     refine zb (ze (mi rfl (za _ (ysu rfl rfl) (ai rfl (zb ?_)))))
     cases hs
     have hO := hO.fr1
     exact ⟨_, fr_m 177 rfl, hC, hO, g3, a0⟩
    refine zi (cb d2) (wp_exit ?_)
    cases hs
    have hO := hO.fr1.fr1
    exact ⟨rfl, _, fr_m 177 rfl, hC, hO, e4, a0⟩
   ·skip
    have hO := hO.fr1.fr1
    exact ⟨_, fr_m 177 rfl, hC, hO, hI_, a0⟩
   cases o58 with
   | nx _ => exact True.intro
   | rt r_ =>
    have hs := zq hs
    intro a2 b1 hK
    cases hs
    exact hK
   | br s54 =>
    have hs := zp hs
    rintro a2 a7 ⟨σ, rfl, hC, hO, g4, a0⟩
    refine wp_ret ?_
    cases hs
    exact ⟨_, zG 177 trivial, hC, g4⟩
 refine zi (cb c9) (wp_skip (c_sr (mi rfl (mi rfl (za _ (yad rfl rfl) (za (.int .u64 (IntKind.u64.wrap (w64 (a_ + b)))) (Yr Tryz.underlying3 Tryz.underlying111 rfl) (za (.int .u64 (ishr .u64 (IntKind.u64.wrap (w64 (a_ + b))) 1)) (zbn rfl rfl (by decide)) (za (iv (w64 (ishr .u64 (IntKind.u64.wrap (w64 (a_ + b))) 1))) (Yr Tryz.underlying111 Tryz.underlying3 rfl) (ai rfl (zb (c_sr (mi rfl (mi rfl (za _ (yad rfl rfl) (ai rfl (zb (c_sr (ai rfl (ai rfl (zb (zd (c_sr (mi rfl ?_)))))))))))))))))))))))
 refine mi rfl (za _ (YY rfl rfl) (zb ?_))
 obtain ⟨s65, g5, hs⟩ := bind_some hs
 refine yB (I := fun a b4 => ∃ (σ : Nv), a = fr 177 (ovl σ [(1, (iv a_)), (2, (iv m)), (3, (iv b)), (4, (pq a1 0)), (16, (iv (w64 (ishr .u64 (IntKind.u64.wrap (w64 (a_ + b))) 1)))), (17, (iv (w64 ((w64 (ishr .u64 (IntKind.u64.wrap (w64 (a_ + b))) 1)) + m)))), (18, (iv s65.1)), (19, (iv s65.2))]) ∧ Chg (G_ ++ []) w b4 ∧ Own (Nw w (G_ ++ [])) M b4 ([a1] ++ (G_ ++ [])) ∧ I_ b4 d_ ∧ BoxV b4 a1 130 [(.func (.func g_) #[] lb_), (.func (.func sf_) #[] sb_)]) ?_ ?_
 ·replace hs := g5
  rcases zf hs with ⟨d4, hs⟩ | ⟨d4, hs⟩
  ·refine zh (cb d4) (c_sr (mi rfl (mi rfl (za _ (ysu rfl rfl) (ai rfl (zb (ze (mi rfl (ai rfl (zb ?_))))))))))
   cases hs
   have hO := hO.fr1.fr1
   exact ⟨_, fr_m 177 rfl, hC, hO, hI_, a0⟩
  refine zi (cb d4) (c_sr (mi rfl (ai rfl (zb (ze (mi rfl (ai rfl (zb ?_))))))))
  cases hs
  have hO := hO.fr1.fr1
  exact ⟨_, fr_m 177 rfl, hC, hO, hI_, a0⟩
 rintro a2 b4 ⟨σ, rfl, hC, hO, hI_, a0⟩
 refine c_sr (mi rfl (za _ (ysu rfl rfl) (ai rfl (zb (zd ?_)))))
 obtain ⟨o77, g6, hs⟩ := bind_some hs
 refine wp_block (Zy (id := 8) (I := fun s73 a a3 => ∃ (σ : Nv), a = fr 177 (ovl σ [(1, (iv a_)), (2, (iv m)), (3, (iv b)), (4, (pq a1 0)), (16, (iv (w64 (ishr .u64 (IntKind.u64.wrap (w64 (a_ + b))) 1)))), (17, (iv (w64 ((w64 (ishr .u64 (IntKind.u64.wrap (w64 (a_ + b))) 1)) + m)))), (18, (iv s73.1)), (19, (iv s73.2)), (20, (iv (w64 ((w64 ((w64 (ishr .u64 (IntKind.u64.wrap (w64 (a_ + b))) 1)) + m)) - 1))))]) ∧ Chg (G_ ++ []) w a3 ∧ Own (Nw w (G_ ++ [])) M a3 ([a1] ++ (G_ ++ [])) ∧ I_ a3 d_ ∧ BoxV a3 a1 130 [(.func (.func g_) #[] lb_), (.func (.func sf_) #[] sb_)]) (J := fun s73 a a3 => ∃ (σ : Nv), a = fr 177 (ovl σ [(1, (iv a_)), (2, (iv m)), (3, (iv b)), (4, (pq a1 0)), (16, (iv (w64 (ishr .u64 (IntKind.u64.wrap (w64 (a_ + b))) 1)))), (17, (iv (w64 ((w64 (ishr .u64 (IntKind.u64.wrap (w64 (a_ + b))) 1)) + m)))), (18, (iv s73.1))]) ∧ Chg (G_ ++ []) w a3 ∧ Own (Nw w (G_ ++ [])) M a3 ([a1] ++ (G_ ++ [])) ∧ I_ a3 d_ ∧ BoxV a3 a1 130 [(.func (.func g_) #[] lb_), (.func (.func sf_) #[] sb_)]) (K := (ye M w I_ G_)) ?_ FU (s65.1, s65.2) o77 _ _ ?_ g6 ?_)
 ·rintro s73 o77 a a3 ⟨σ, rfl, hC, hO, hI_, a0⟩ hs
  refine zd (c_sr (mi rfl (mi rfl (za _ (zw rfl rfl) (zb ?_)))))
  rcases zf hs with ⟨d5, hs⟩ | ⟨d5, hs⟩
  ·refine zh (cb d5) (wp_skip (wp_block (c_sr (mi rfl (mi rfl (za _ (yad rfl rfl) (za (.int .u64 (IntKind.u64.wrap (w64 (s73.1 + s73.2)))) (Yr Tryz.underlying3 Tryz.underlying111 rfl) (za (.int .u64 (ishr .u64 (IntKind.u64.wrap (w64 (s73.1 + s73.2))) 1)) (zbn rfl rfl (by decide)) (za (iv (w64 (ishr .u64 (IntKind.u64.wrap (w64 (s73.1 + s73.2))) 1))) (Yr Tryz.underlying111 Tryz.underlying3 rfl) (ai rfl (zb (c_sr (za (pq a1 0) (zk rfl uc) (za _ (ld rfl Ag119 Sz119 a0 rfl) (mi rfl (mi rfl (za _ (ysu rfl rfl) (mi rfl ?_))))))))))))))))))
   obtain ⟨r81, g7, hs⟩ := bind_some hs
   refine uM rfl hE_.bod rfl (hE_.less hI_ g7) ?_
   rintro _ i1 ⟨rfl, b7⟩
   have hI_ := hE_.ext hI_ b7 (fun _ h => nomatch h)
   obtain ⟨a0, hC, hO⟩ := xt3 b7 a0 hC hO
   refine za _ (ZA rfl) (zb ?_)
   rcases zf hs with ⟨d6, hs⟩ | ⟨d6, hs⟩
   ·refine zh (cb d6) (ze (mi rfl (za _ (yad rfl rfl) (ai rfl (zb ?_)))))
    cases hs
    have hO := hO.fr1.fr1
    exact ⟨_, fr_m 177 rfl, hC, hO, hI_, a0⟩
   refine zi (cb d6) (ze (mi rfl (ai rfl (zb ?_))))
   cases hs
   have hO := hO.fr1.fr1
   exact ⟨_, fr_m 177 rfl, hC, hO, hI_, a0⟩
  refine zi (cb d5) (wp_exit ?_)
  cases hs
  have hO := hO.fr1.fr1
  exact ⟨rfl, _, fr_m 177 rfl, hC, hO, hI_, a0⟩
 ·skip
  have hO := hO.fr1.fr1
  exact ⟨_, fr_m 177 rfl, hC, hO, hI_, a0⟩
 cases o77 with
 | nx _ => exact True.intro
 | rt r_ =>
  have hs := zq hs
  intro a2 b1 hK
  cases hs
  exact hK
 | br s73 =>
  have hs := zp hs
  rintro a2 a3 ⟨σ, rfl, hC, hO, hI_, a0⟩
  refine c_sr (mi rfl (mi rfl (za _ (ysu rfl rfl) (ai rfl (zb (zd (zd (yB (I := fun a e5 => ∃ (σ : Nv), a = fr 177 (ovl σ [(1, (iv a_)), (2, (iv m)), (3, (iv b)), (4, (pq a1 0)), (16, (iv (w64 (ishr .u64 (IntKind.u64.wrap (w64 (a_ + b))) 1)))), (18, (iv s73.1)), (22, (iv (w64 ((w64 ((w64 (ishr .u64 (IntKind.u64.wrap (w64 (a_ + b))) 1)) + m)) - s73.1)))), (145, (.bool ((decide (s73.1 < m)) && (decide (m < (w64 ((w64 ((w64 (ishr .u64 (IntKind.u64.wrap (w64 (a_ + b))) 1)) + m)) - s73.1)))))))]) ∧ Chg [] a3 e5) ?_ ?_))))))))
  ·have hMid := Chg.refl [] a3
   refine ze (mi rfl (mi rfl (za _ (zw rfl rfl) (mb rfl ?_))))
   rcases Bool.eq_false_or_eq_true ((decide (s73.1 < m))) with a8 | a8
   ·skip
    refine py 141 (iv m) (cb a8) (zx rfl) (py 141 (iv (w64 ((w64 ((w64 (ishr .u64 (IntKind.u64.wrap (w64 (a_ + b))) 1)) + m)) - s73.1))) (cb a8) (zx rfl) (py 141 _ (cb a8) (zw rfl rfl) (za (.bool ((decide (s73.1 < m)) && (decide (m < (w64 ((w64 ((w64 (ishr .u64 (IntKind.u64.wrap (w64 (a_ + b))) 1)) + m)) - s73.1)))))) (yh (cb a8) (cb (by rw [a8]; rfl))) (zb ?_))))
    exact ⟨_, fr_m 177 rfl, hMid⟩
   refine pn 141 (cb a8) (pn 141 (cb a8) (pn 141 (cb a8) (za (.bool ((decide (s73.1 < m)) && (decide (m < (w64 ((w64 ((w64 (ishr .u64 (IntKind.u64.wrap (w64 (a_ + b))) 1)) + m)) - s73.1)))))) (ZU (cb a8) (cb (by rw [a8]; rfl))) (zb ?_))))
   exact ⟨_, fr_m 177 rfl, hMid⟩
  rintro a2 e5 ⟨σ, rfl, b8⟩
  have hI_ := hE_.ext hI_ b8 (fun _ h => nomatch h)
  obtain ⟨a0, hC, hO⟩ := xt3 b8 a0 hC hO
  obtain ⟨s91, g8, hs⟩ := bind_some hs
  refine yB (I := fun a b2 => ∃ (σ : Nv), a = fr 177 (ovl σ [(1, (iv a_)), (3, (iv b)), (4, (pq a1 0)), (16, (iv (w64 (ishr .u64 (IntKind.u64.wrap (w64 (a_ + b))) 1)))), (18, (iv s73.1)), (22, (iv (w64 ((w64 ((w64 (ishr .u64 (IntKind.u64.wrap (w64 (a_ + b))) 1)) + m)) - s73.1))))]) ∧ Chg (G_ ++ []) w b2 ∧ Own (Nw w (G_ ++ [])) M b2 ([a1] ++ (G_ ++ [])) ∧ I_ b2 s91 ∧ BoxV b2 a1 130 [(.func (.func g_) #[] lb_), (.func (.func sf_) #[] sb_)]) ?_ ?_
  ·replace hs := g8
   rcases zf hs with ⟨d7, hs⟩ | ⟨d7, hs⟩
   ·refine zh (cb d7) (ze (za _ (ldw rfl WP a0 WM) (mi rfl (mi rfl (mi rfl ?_)))))
    have hO := hO.fr1
    have g9 := Own.lend (F := (G_ ++ [])) (R := [a1] ++ []) (Own.perm hO (by simp))
    obtain ⟨r97, h0, hs⟩ := bind_some hs
    refine zy Bd123 rfl (vh (M := M) ls_ d_ s73.1 m (w64 ((w64 ((w64 (ishr .u64 (IntKind.u64.wrap (w64 (a_ + b))) 1)) + m)) - s73.1)) (Nat.le_trans hN_ hC.size) hE_ hI_ g9 hO.fut h0) ?_
    rintro _ i2 ⟨rfl, d8, h1⟩
    have a0 := a0.ap d8 hO ZM mS
    have hC := hC.st d8 hO ZM
    have hO := hO.ext d8
    refine zb ?_
    cases hs
    have hO := hO.fr1
    exact ⟨_, fr_m 177 rfl, hC, hO, h1, a0⟩
   refine zi (cb d7) (wp_skip ?_)
   cases hs
   have hO := hO.fr1.fr1
   exact ⟨_, fr_m 177 rfl, hC, hO, hI_, a0⟩
  rintro a2 b2 ⟨σ, rfl, hC, hO, b9, a0⟩
  refine zd (zd (yB (I := fun a e6 => ∃ (σ : Nv), a = fr 177 (ovl σ [(1, (iv a_)), (3, (iv b)), (4, (pq a1 0)), (16, (iv (w64 (ishr .u64 (IntKind.u64.wrap (w64 (a_ + b))) 1)))), (18, (iv s73.1)), (22, (iv (w64 ((w64 ((w64 (ishr .u64 (IntKind.u64.wrap (w64 (a_ + b))) 1)) + m)) - s73.1)))), (158, (.bool ((decide (a_ < s73.1)) && (decide (s73.1 < (w64 (ishr .u64 (IntKind.u64.wrap (w64 (a_ + b))) 1)))))))]) ∧ Chg [] b2 e6) ?_ ?_))
  ·have hMid := Chg.refl [] b2
   refine ze (mi rfl (mi rfl (za _ (zw rfl rfl) (mb rfl ?_))))
   rcases Bool.eq_false_or_eq_true ((decide (a_ < s73.1))) with a9 | a9
   ·skip
    refine py 154 (iv s73.1) (cb a9) (zx rfl) (py 154 (iv (w64 (ishr .u64 (IntKind.u64.wrap (w64 (a_ + b))) 1))) (cb a9) (zx rfl) (py 154 _ (cb a9) (zw rfl rfl) (za (.bool ((decide (a_ < s73.1)) && (decide (s73.1 < (w64 (ishr .u64 (IntKind.u64.wrap (w64 (a_ + b))) 1)))))) (yh (cb a9) (cb (by rw [a9]; rfl))) (zb ?_))))
    exact ⟨_, fr_m 177 rfl, hMid⟩
   refine pn 154 (cb a9) (pn 154 (cb a9) (pn 154 (cb a9) (za (.bool ((decide (a_ < s73.1)) && (decide (s73.1 < (w64 (ishr .u64 (IntKind.u64.wrap (w64 (a_ + b))) 1)))))) (ZU (cb a9) (cb (by rw [a9]; rfl))) (zb ?_))))
   exact ⟨_, fr_m 177 rfl, hMid⟩
  rintro a2 e6 ⟨σ, rfl, c0⟩
  have b9 := hE_.ext b9 c0 (fun _ h => nomatch h)
  obtain ⟨a0, hC, hO⟩ := xt3 c0 a0 hC hO
  obtain ⟨s106, h2, hs⟩ := bind_some hs
  refine yB (I := fun a b3 => ∃ (σ : Nv), a = fr 177 (ovl σ [(3, (iv b)), (4, (pq a1 0)), (16, (iv (w64 (ishr .u64 (IntKind.u64.wrap (w64 (a_ + b))) 1)))), (22, (iv (w64 ((w64 ((w64 (ishr .u64 (IntKind.u64.wrap (w64 (a_ + b))) 1)) + m)) - s73.1))))]) ∧ Chg (G_ ++ []) w b3 ∧ Own (Nw w (G_ ++ [])) M b3 ([a1] ++ (G_ ++ [])) ∧ I_ b3 s106 ∧ BoxV b3 a1 130 [(.func (.func g_) #[] lb_), (.func (.func sf_) #[] sb_)]) ?_ ?_
  ·replace hs := h2
   rcases zf hs with ⟨d9, hs⟩ | ⟨d9, hs⟩
   ·refine zh (cb d9) (ze (za _ (ldw rfl WP a0 WM) (mi rfl (mi rfl (mi rfl ?_)))))
    have hO := hO.fr1
    have h3 := Own.lend (F := (G_ ++ [])) (R := [a1] ++ []) (Own.perm hO (by simp))
    obtain ⟨r112, h4, hs⟩ := bind_some hs
    refine zy Bd122 rfl (c_ih (M := M) ls_ s91 a_ s73.1 (w64 (ishr .u64 (IntKind.u64.wrap (w64 (a_ + b))) 1)) (Nat.le_trans hN_ hC.size) hE_ b9 h3 hO.fut h4) ?_
    rintro _ i3 ⟨rfl, e0, h5⟩
    have a0 := a0.ap e0 hO ZM mS
    have hC := hC.st e0 hO ZM
    have hO := hO.ext e0
    refine zb ?_
    cases hs
    have hO := hO.fr1
    exact ⟨_, fr_m 177 rfl, hC, hO, h5, a0⟩
   refine zi (cb d9) (wp_skip ?_)
   cases hs
   have hO := hO.fr1.fr1
   exact ⟨_, fr_m 177 rfl, hC, hO, b9, a0⟩
  rintro a2 b3 ⟨σ, rfl, hC, hO, c1, a0⟩
  refine zd (yB (I := fun a e7 => ∃ (σ : Nv), a = fr 177 (ovl σ [(3, (iv b)), (4, (pq a1 0)), (16, (iv (w64 (ishr .u64 (IntKind.u64.wrap (w64 (a_ + b))) 1)))), (22, (iv (w64 ((w64 ((w64 (ishr .u64 (IntKind.u64.wrap (w64 (a_ + b))) 1)) + m)) - s73.1)))), (171, (.bool ((decide ((w64 (ishr .u64 (IntKind.u64.wrap (w64 (a_ + b))) 1)) < (w64 ((w64 ((w64 (ishr .u64 (IntKind.u64.wrap (w64 (a_ + b))) 1)) + m)) - s73.1)))) && (decide ((w64 ((w64 ((w64 (ishr .u64 (IntKind.u64.wrap (w64 (a_ + b))) 1)) + m)) - s73.1)) < b)))))]) ∧ Chg [] b3 e7) ?_ ?_)
  ·have hMid := Chg.refl [] b3
   refine ze (mi rfl (mi rfl (za _ (zw rfl rfl) (mb rfl ?_))))
   rcases Bool.eq_false_or_eq_true ((decide ((w64 (ishr .u64 (IntKind.u64.wrap (w64 (a_ + b))) 1)) < (w64 ((w64 ((w64 (ishr .u64 (IntKind.u64.wrap (w64 (a_ + b))) 1)) + m)) - s73.1))))) with b0 | b0
   ·skip
    refine py 167 (iv (w64 ((w64 ((w64 (ishr .u64 (IntKind.u64.wrap (w64 (a_ + b))) 1)) + m)) - s73.1))) (cb b0) (zx rfl) (py 167 (iv b) (cb b0) (zx rfl) (py 167 _ (cb b0) (zw rfl rfl) (za (.bool ((decide ((w64 (ishr .u64 (IntKind.u64.wrap (w64 (a_ + b))) 1)) < (w64 ((w64 ((w64 (ishr .u64 (IntKind.u64.wrap (w64 (a_ + b))) 1)) + m)) - s73.1)))) && (decide ((w64 ((w64 ((w64 (ishr .u64 (IntKind.u64.wrap (w64 (a_ + b))) 1)) + m)) - s73.1)) < b)))) (yh (cb b0) (cb (by rw [b0]; rfl))) (zb ?_))))
    exact ⟨_, fr_m 177 rfl, hMid⟩
   refine pn 167 (cb b0) (pn 167 (cb b0) (pn 167 (cb b0) (za (.bool ((decide ((w64 (ishr .u64 (IntKind.u64.wrap (w64 (a_ + b))) 1)) < (w64 ((w64 ((w64 (ishr .u64 (IntKind.u64.wrap (w64 (a_ + b))) 1)) + m)) - s73.1)))) && (decide ((w64 ((w64 ((w64 (ishr .u64 (IntKind.u64.wrap (w64 (a_ + b))) 1)) + m)) - s73.1)) < b)))) (ZU (cb b0) (cb (by rw [b0]; rfl))) (zb ?_))))
   exact ⟨_, fr_m 177 rfl, hMid⟩
  rintro a2 e7 ⟨σ, rfl, c2⟩
  have c1 := hE_.ext c1 c2 (fun _ h => nomatch h)
  obtain ⟨a0, hC, hO⟩ := xt3 c2 a0 hC hO
  rcases zf hs with ⟨e1, hs⟩ | ⟨e1, hs⟩
  ·refine zh (cb e1) (ze (za _ (ldw rfl WP a0 WM) (mi rfl (mi rfl (mi rfl ?_)))))
   have hO := hO.fr1
   have h6 := Own.lend (F := (G_ ++ [])) (R := [a1] ++ []) (Own.perm hO (by simp))
   obtain ⟨r119, h7, hs⟩ := bind_some hs
   refine zy Bd122 rfl (c_ih (M := M) ls_ s106 (w64 (ishr .u64 (IntKind.u64.wrap (w64 (a_ + b))) 1)) (w64 ((w64 ((w64 (ishr .u64 (IntKind.u64.wrap (w64 (a_ + b))) 1)) + m)) - s73.1)) b (Nat.le_trans hN_ hC.size) hE_ c1 h6 hO.fut h7) ?_
   rintro _ i4 ⟨rfl, e2, h8⟩
   have a0 := a0.ap e2 hO ZM mS
   have hC := hC.st e2 hO ZM
   have hO := hO.ext e2
   refine zb ?_
   cases hs
   exact ⟨_, zG 177 trivial, hC, h8⟩
  refine zi (cb e1) (wp_skip ?_)
  cases hs
  exact ⟨_, zG 177 trivial, hC, c1⟩

theorem Bd121 : zF Tryz.prog 121 := zJ Tryz.func121 (by kernel_rfl) rfl

def YG (M : Nat → Prop) (w0 : World) {α_ : Type} (I_ : World → List α_ → Prop) (G_ : List Nat) (r : (List α_)) (a : Act) (w : World) : Prop :=
  ∃ (σ : Nv) , a = fr 57 (ovl σ []) ∧ Chg (G_ ++ []) w0 w ∧ I_ w r
def Ya {α_ : Type} (ls_ : α_ → α_ → Option Bool) (d_ : List α_) (n : Int) : Option ((List α_)) :=
  (iter (S := Int × Int × (List α_)) (R := (List α_)) (fun s9 =>
  (bif (decide (s9.2.1 ≤ n)) then (Zr ls_ s9.2.2 s9.1 s9.2.1).bind fun r19 =>
  some (.nx (s9.2.1, w64 (s9.2.1 + 20), r19)) else some (.br (s9.1, s9.2.1, s9.2.2)))) FU (0, 20, d_)).bind fun o13 => after o13 (fun r_ => some r_) (fun s9 =>
  (Zr ls_ s9.2.2 s9.1 n).bind fun r21 =>
  (iter (S := Int × Int × Int × (List α_)) (R := (List α_)) (fun s67 =>
  (bif (decide (s67.1 < n)) then (iter (S := Int × Int × (List α_)) (R := (List α_)) (fun s83 =>
  (bif (decide (s83.2.1 ≤ n)) then (zO FU ls_ s83.2.2 s83.1 (w64 (s83.1 + s67.1)) s83.2.1).bind fun r93 =>
  some (.nx (s83.2.1, w64 (s83.2.1 + (w64 (2 * s67.1))), r93)) else some (.br (s83.1, s83.2.1, s83.2.2)))) FU (0, w64 (2 * s67.1), s67.2.2.2)).bind fun o87 => after o87 (fun r_ => some (.rt r_)) (fun s83 =>
  (bif (decide ((w64 (s83.1 + s67.1)) < n)) then (zO FU ls_ s83.2.2 s83.1 (w64 (s83.1 + s67.1)) n).bind fun r96 =>
  some (.nx (w64 (s67.1 * 2), s83.1, s83.2.1, r96)) else some (.nx (w64 (s67.1 * 2), s83.1, s83.2.1, s83.2.2)))) else some (.br (s67.1, s67.2.1, s67.2.2.1, s67.2.2.2)))) FU (20, s9.1, s9.2.1, r21)).bind fun o71 => after o71 (fun r_ => some r_) (fun s67 =>
  some s67.2.2.2))
theorem vu {M : Nat → Prop} {w : World} {α_ : Type} {n0_ : Nat} {I_ : World → List α_ → Prop} {G_ : List Nat} {g_ sf_ : Nat} {lb_ sb_ : Array Value} (ls_ : α_ → α_ → Option Bool) (d_ : List α_) (n : Int) (hN_ : n0_ ≤ w.heap.size) (hE_ : Env Tryz.prog n0_ I_ G_ ls_ g_ lb_ sf_ sb_) (hI_ : I_ w d_) (hI : Own (Nw w (G_ ++ [])) M w (G_ ++ [])) (hM : Hm w M) {r : (List α_)} (hs : Ya ls_ d_ n = some r) :
    Gives Tryz.prog 110 [(.agg #[(.func (.func g_) #[] lb_), (.func (.func sf_) #[] sb_)]), (iv n)] w (fun v w' => v = (.tuple #[]) ∧ Chg (G_ ++ []) w w' ∧ I_ w' r) := by
 refine zr Tryz.func110 rfl Tryz.ntmps110 (nl rfl) ?_
 have hO := hI
 have hC := Chg.refl (G_ ++ []) w
 unfold Ya at hs
 refine wp_mono (Q := wO (YG M w I_ G_ r)) ?_ (fun e a a5 h => ?_)
 rotate_left
 ·cases e
  case ret =>
   obtain ⟨σ, rfl, hrest⟩ := h
   exact vU Tryz.results110  ⟨rfl, hrest⟩
  case normal =>
   obtain ⟨σ, rfl, hrest⟩ := h
   exact vY Tryz.results110  ⟨rfl, hrest⟩
  all_goals exact (h : False).elim
 refine c_sr ?_
 obtain ⟨a5, a1, c1, b6, a7, a0⟩ := zg w [(.func (.func g_) #[] lb_), (.func (.func sf_) #[] sb_)] 130
 refine za (w' := a5) (pq a1 0) (Zj rfl (by rw [c1, b6]; kernel_rfl)) ?_
 have hI_ := hE_.ext hI_ a7 (fun _ h => nomatch h)
 have hC := hC.ext a7
 have hO := hO.new1 a7 b6 a0.lt
 refine zb (c_sr (ai rfl (zb (c_sr (mi rfl (ai rfl (ai rfl (zb (zd ?_)))))))))
 obtain ⟨o13, c2, hs⟩ := bind_some hs
 refine wp_block (Zy (id := 0) (I := fun s9 a a2 => ∃ (σ : Nv), a = fr 57 (ovl σ [(1, (iv n)), (2, (pq a1 0)), (4, (iv 20)), (5, (iv s9.1)), (6, (iv s9.2.1))]) ∧ Chg (G_ ++ []) w a2 ∧ Own (Nw w (G_ ++ [])) M a2 ([a1] ++ (G_ ++ [])) ∧ I_ a2 s9.2.2 ∧ BoxV a2 a1 130 [(.func (.func g_) #[] lb_), (.func (.func sf_) #[] sb_)]) (J := fun s9 a a2 => ∃ (σ : Nv), a = fr 57 (ovl σ [(1, (iv n)), (2, (pq a1 0)), (4, (iv 20)), (5, (iv s9.1)), (6, (iv s9.2.1))]) ∧ Chg (G_ ++ []) w a2 ∧ Own (Nw w (G_ ++ [])) M a2 ([a1] ++ (G_ ++ [])) ∧ I_ a2 s9.2.2 ∧ BoxV a2 a1 130 [(.func (.func g_) #[] lb_), (.func (.func sf_) #[] sb_)]) (K := (YG M w I_ G_)) ?_ FU (0, 20, d_) o13 _ _ ?_ c2 ?_)
 ·rintro s9 o13 a a2 ⟨σ, rfl, hC, hO, b7, a0⟩ hs
  refine zd (c_sr (mi rfl (mi rfl (za _ (wx rfl rfl) (zb ?_)))))
  rcases zf hs with ⟨a8, hs⟩ | ⟨a8, hs⟩
  ·refine zh (cb a8) (wp_skip (wp_block (c_sr (za _ (ldw rfl WP a0 WM) (mi rfl (mi rfl ?_))))))
   have hO := hO.fr1
   have c3 := Own.lend (F := (G_ ++ [])) (R := [a1] ++ []) (Own.perm hO (by simp))
   obtain ⟨r19, c4, hs⟩ := bind_some hs
   refine zy Bd121 rfl (xi (M := M) ls_ s9.2.2 s9.1 s9.2.1 (Nat.le_trans hN_ hC.size) hE_ b7 c3 hO.fut c4) ?_
   rintro _ d9 ⟨rfl, a9, c5⟩
   have a0 := a0.ap a9 hO ZM mS
   have hC := hC.st a9 hO ZM
   have hO := hO.ext a9
   refine zb (c_sr (mi rfl (ai rfl (zb (ze (mi rfl (mi rfl (za _ (yad rfl rfl) (ai rfl (zb ?_))))))))))
   cases hs
   have hO := hO.fr1
   exact ⟨_, fr_m 57 rfl, hC, hO, c5, a0⟩
  refine zi (cb a8) (wp_exit ?_)
  cases hs
  have hO := hO.fr1.fr1
  exact ⟨rfl, _, fr_m 57 rfl, hC, hO, b7, a0⟩
 ·skip
  have hO := hO.fr1.fr1
  exact ⟨_, fr_m 57 rfl, hC, hO, hI_, a0⟩
 cases o13 with
 | nx _ => exact True.intro
 | rt r_ =>
  have hs := zq hs
  intro a6 a5 hK
  cases hs
  exact hK
 | br s9 =>
  have hs := zp hs
  rintro a6 a2 ⟨σ, rfl, hC, hO, c6, a0⟩
  refine c_sr (za _ (ldw rfl WP a0 WM) (mi rfl (mi rfl ?_)))
  have hO := hO.fr1
  have c7 := Own.lend (F := (G_ ++ [])) (R := [a1] ++ []) (Own.perm hO (by simp))
  obtain ⟨r21, c8, hs⟩ := bind_some hs
  refine zy Bd121 rfl (xi (M := M) ls_ s9.2.2 s9.1 n (Nat.le_trans hN_ hC.size) hE_ c6 c7 hO.fut c8) ?_
  rintro _ e0 ⟨rfl, b0, c9⟩
  have a0 := a0.ap b0 hO ZM mS
  have hC := hC.st b0 hO ZM
  have hO := hO.ext b0
  refine zb ?_
  obtain ⟨o71, d0, hs⟩ := bind_some hs
  refine wp_block (Zy (id := 2) (I := fun s67 a a3 => ∃ (σ : Nv), a = fr 57 (ovl σ [(1, (iv n)), (2, (pq a1 0)), (4, (iv s67.1)), (5, (iv s67.2.1)), (6, (iv s67.2.2.1))]) ∧ Chg (G_ ++ []) w a3 ∧ Own (Nw w (G_ ++ [])) M a3 (G_ ++ ([a1] ++ [])) ∧ I_ a3 s67.2.2.2 ∧ BoxV a3 a1 130 [(.func (.func g_) #[] lb_), (.func (.func sf_) #[] sb_)]) (J := fun s67 a a3 => ∃ (σ : Nv), a = fr 57 (ovl σ []) ∧ Chg (G_ ++ []) w a3 ∧ Own (Nw w (G_ ++ [])) M a3 (G_ ++ ([a1] ++ [])) ∧ I_ a3 s67.2.2.2 ∧ BoxV a3 a1 130 [(.func (.func g_) #[] lb_), (.func (.func sf_) #[] sb_)]) (K := (YG M w I_ G_)) ?_ FU (20, s9.1, s9.2.1, r21) o71 _ _ ?_ d0 ?_)
  ·rintro s67 o71 a a3 ⟨σ, rfl, hC, hO, b8, a0⟩ hs
   refine zd (c_sr (mi rfl (mi rfl (za _ (zw rfl rfl) (zb ?_)))))
   rcases zf hs with ⟨b1, hs⟩ | ⟨b1, hs⟩
   ·refine zh (cb b1) (wp_skip (wp_block (c_sr (mi rfl (za _ (ymu rfl rfl) (ai rfl (ai rfl (zb (zd ?_)))))))))
    obtain ⟨o87, d1, hs⟩ := bind_some hs
    refine wp_block (Zy (id := 4) (I := fun s83 a a4 => ∃ (σ : Nv), a = fr 57 (ovl σ [(1, (iv n)), (2, (pq a1 0)), (4, (iv s67.1)), (5, (iv s83.1)), (6, (iv s83.2.1))]) ∧ Chg (G_ ++ []) w a4 ∧ Own (Nw w (G_ ++ [])) M a4 (G_ ++ ([a1] ++ [])) ∧ I_ a4 s83.2.2 ∧ BoxV a4 a1 130 [(.func (.func g_) #[] lb_), (.func (.func sf_) #[] sb_)]) (J := fun s83 a a4 => ∃ (σ : Nv), a = fr 57 (ovl σ [(1, (iv n)), (2, (pq a1 0)), (4, (iv s67.1)), (5, (iv s83.1)), (6, (iv s83.2.1))]) ∧ Chg (G_ ++ []) w a4 ∧ Own (Nw w (G_ ++ [])) M a4 (G_ ++ ([a1] ++ [])) ∧ I_ a4 s83.2.2 ∧ BoxV a4 a1 130 [(.func (.func g_) #[] lb_), (.func (.func sf_) #[] sb_)]) (K := (YG M w I_ G_)) ?_ FU (0, w64 (2 * s67.1), s67.2.2.2) o87 _ _ ?_ d1 ?_)
    ·rintro s83 o87 a a4 ⟨σ, rfl, hC, hO, b9, a0⟩ hs
     refine zd (c_sr (mi rfl (mi rfl (za _ (wx rfl rfl) (zb ?_)))))
     rcases zf hs with ⟨b2, hs⟩ | ⟨b2, hs⟩
     ·refine zh (cb b2) (wp_skip (wp_block (c_sr (za _ (ldw rfl WP a0 WM) (mi rfl (mi rfl (mi rfl (za _ (yad rfl rfl) (mi rfl ?_)))))))))
      have d2 := Own.lend (F := (G_ ++ [])) (R := [a1] ++ []) (Own.perm hO (by simp))
      obtain ⟨r93, d3, hs⟩ := bind_some hs
      refine zy Bd122 rfl (Xj (M := M) FU ls_ s83.2.2 s83.1 (w64 (s83.1 + s67.1)) s83.2.1 (Nat.le_trans hN_ hC.size) hE_ b9 d2 hO.fut d3) ?_
      rintro _ e1 ⟨rfl, b3, d4⟩
      have a0 := a0.ap b3 hO ZM mS
      have hC := hC.st b3 hO ZM
      have hO := hO.ext b3
      refine zb (c_sr (mi rfl (ai rfl (zb (ze (mi rfl (mi rfl (za _ (ymu rfl rfl) (za _ (yad rfl rfl) (ai rfl (zb ?_)))))))))))
      cases hs
      have hO := hO.fr1.fr1
      exact ⟨_, fr_m 57 rfl, hC, hO, d4, a0⟩
     refine zi (cb b2) (wp_exit ?_)
     cases hs
     have hO := hO.fr1.fr1
     exact ⟨rfl, _, fr_m 57 rfl, hC, hO, b9, a0⟩
    ·skip
     have hO := hO.fr1.fr1
     exact ⟨_, fr_m 57 rfl, hC, hO, b8, a0⟩
    cases o87 with
    | nx _ => exact True.intro
    | rt r_ =>
     have hs := zq hs
     intro a6 a5 hK
     cases hs
     exact hK
    | br s83 =>
     have hs := zp hs
     rintro a6 a4 ⟨σ, rfl, hC, hO, c0, a0⟩
     refine zd (c_sr (mi rfl (mi rfl (za _ (yad rfl rfl) (ai rfl (zb (c_sr (mi rfl (mi rfl (za _ (zw rfl rfl) (zb ?_)))))))))))
     rcases zf hs with ⟨b4, hs⟩ | ⟨b4, hs⟩
     ·refine zh (cb b4) (ze (za _ (ldw rfl WP a0 WM) (mi rfl (mi rfl (mi rfl ?_)))))
      have d5 := Own.lend (F := (G_ ++ [])) (R := [a1] ++ []) (Own.perm hO (by simp))
      obtain ⟨r96, d6, hs⟩ := bind_some hs
      refine zy Bd122 rfl (Xj (M := M) FU ls_ s83.2.2 s83.1 (w64 (s83.1 + s67.1)) n (Nat.le_trans hN_ hC.size) hE_ c0 d5 hO.fut d6) ?_
      rintro _ e2 ⟨rfl, b5, d7⟩
      have a0 := a0.ap b5 hO ZM mS
      have hC := hC.st b5 hO ZM
      have hO := hO.ext b5
      refine zb (ze (mi rfl (za _ (ymu rfl rfl) (ai rfl (zb ?_)))))
      cases hs
      have hO := hO.fr1.fr1
      exact ⟨_, fr_m 57 rfl, hC, hO, d7, a0⟩
     refine zi (cb b4) (wp_skip (ze (mi rfl (za _ (ymu rfl rfl) (ai rfl (zb ?_))))))
     cases hs
     have hO := hO.fr1.fr1
     exact ⟨_, fr_m 57 rfl, hC, hO, c0, a0⟩
   refine zi (cb b1) (wp_exit ?_)
   cases hs
   have hO := hO.fr1.fr1
   exact ⟨rfl, _, zG 57 trivial, hC, hO, b8, a0⟩
  ·skip
   have hO := hO.fr1.fr1
   exact ⟨_, fr_m 57 rfl, hC, hO, c9, a0⟩
  cases o71 with
  | nx _ => exact True.intro
  | rt r_ =>
   have hs := zq hs
   intro a6 a5 hK
   cases hs
   exact hK
  | br s67 =>
   have hs := zp hs
   rintro a6 a3 ⟨σ, rfl, hC, hO, d8, a0⟩
   cases hs
   exact ⟨_, zG 57 trivial, hC, d8⟩

end Go.Proofs
