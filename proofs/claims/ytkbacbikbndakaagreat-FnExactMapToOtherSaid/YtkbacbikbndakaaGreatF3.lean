/- What functions of the program compute, as plain functions, and that a call gives just that. Conditions: those named in each theorem. -/
import Derived.Test.YtkbacbikbndakaaGreatF2
set_option linter.unusedVariables false
namespace Go.Proofs
open Go.G Go.RowKit
set_option maxRecDepth 100000
set_option maxHeartbeats 4000000

def Xp (M : Nat → Prop) (w0 : World) (r : Int) (a : Act) (w : World) : Prop :=
  ∃ (σ : Nv) , a = fr 48 (ovl σ [(4, (iv r))]) ∧ Chg [] w0 w
def Ze (s_ : List Int) (t : List Int) : Option (Int) :=
  (iter (S := Int) (R := Int) (fun s25 =>
  (bif ((decide (s25 < (s_.length : Int))) && (decide (s25 < (t.length : Int)))) then (idx s_ s25).bind fun x42 =>
  (idx t s25).bind fun x44 =>
  (bif (x42 != x44) then (idx s_ s25).bind fun x48 =>
  (idx t s25).bind fun x50 =>
  (bif (decide (x48 < x50)) then some (.rt (-1)) else some (.rt 1)) else some (.nx (w64 (s25 + 1)))) else some (.br s25))) FU 0).bind fun o29 => after o29 (fun r_ => some r_) (fun s25 =>
  (bif (decide ((s_.length : Int) < (t.length : Int))) then some (-1) else (bif (decide ((t.length : Int) < (s_.length : Int))) then some 1 else some 0)))
theorem Xr {M : Nat → Prop} {w : World} {pa0 : OA} {pn0 pc0 : Nat} {pa1 : OA} {pn1 pc1 : Nat} (s_ : List Int) (t : List Int) (h0 : rl.val M w (sv pa0 pn0 pc0) s_ []) (h1 : rl.val M w (sv pa1 pn1 pc1) t []) (hM : Hm w M) {r : Int} (hs : Ze s_ t = some r) :
    Gives Tryz.prog 91 [(sv pa0 pn0 pc0), (sv pa1 pn1 pc1)] w (fun v w' => v = (iv r) ∧ Chg [] w w') := by
 refine zr Tryz.func91 rfl Tryz.ntmps91 (nl rfl) ?_
 have hO := Own.start (N := Nw w []) hM Nw.fut
 have hC := Chg.refl [] w
 unfold Ze at hs
 refine wp_k (K := (Xp M w r)) (by rintro _ _ ⟨σ, rfl, hrest⟩; exact Za Tryz.results91 (zB rfl) ⟨rfl, hrest⟩) (c_sr (ai rfl (zb (zd (c_sr (ai rfl (zb ?_)))))))
 obtain ⟨o29, b6, hs⟩ := bind_some hs
 refine wp_block (Zy (id := 0) (I := fun s25 a a0 => ∃ (σ : Nv), a = fr 48 (ovl σ [(0, (sv pa0 pn0 pc0)), (1, (sv pa1 pn1 pc1)), (5, (iv s25))]) ∧ Chg [] w a0 ∧ Own (Nw w []) M a0 [] ∧ rl.val M a0 (sv pa0 pn0 pc0) s_ [] ∧ rl.val M a0 (sv pa1 pn1 pc1) t []) (J := fun s25 a a0 => ∃ (σ : Nv), a = fr 48 (ovl σ [(0, (sv pa0 pn0 pc0)), (1, (sv pa1 pn1 pc1))]) ∧ Chg [] w a0 ∧ Own (Nw w []) M a0 [] ∧ rl.val M a0 (sv pa0 pn0 pc0) s_ [] ∧ rl.val M a0 (sv pa1 pn1 pc1) t []) (K := (Xp M w)) ?_ FU 0 o29 _ _ ?_ b6 ?_)
 ·rintro s25 o29 a a0 ⟨σ, rfl, hC, hO, h0, h1⟩ hs
  refine zd (zd (yB (I := fun a a4 => ∃ (σ : Nv), a = fr 48 (ovl σ [(0, (sv pa0 pn0 pc0)), (1, (sv pa1 pn1 pc1)), (5, (iv s25)), (15, (.bool ((decide (s25 < (s_.length : Int))) && (decide (s25 < (t.length : Int))))))]) ∧ Chg [] a0 a4) ?_ ?_))
  ·have hMid := Chg.refl [] a0
   refine ze (mi rfl (ms rfl (za _ (zn Sl34 (zt h0) rfl) (za _ (zw rfl rfl) (mb rfl ?_)))))
   rcases Bool.eq_false_or_eq_true ((decide (s25 < (s_.length : Int)))) with a1 | a1
   ·skip
    refine py 10 (iv s25) (cb a1) (zx rfl) (py 10 (sv pa1 pn1 pc1) (cb a1) (zx rfl) (py 10 _ (cb a1) (zn Sl34 (zt h1) rfl) (py 10 _ (cb a1) (zw rfl rfl) (za (.bool ((decide (s25 < (s_.length : Int))) && (decide (s25 < (t.length : Int))))) (yh (cb a1) (cb (by rw [a1]; rfl))) (zb ?_)))))
    exact ⟨_, fr_m 48 rfl, hMid⟩
   refine pn 10 (cb a1) (pn 10 (cb a1) (pn 10 (cb a1) (pn 10 (cb a1) (za (.bool ((decide (s25 < (s_.length : Int))) && (decide (s25 < (t.length : Int))))) (ZU (cb a1) (cb (by rw [a1]; rfl))) (zb ?_)))))
   exact ⟨_, fr_m 48 rfl, hMid⟩
  rintro b4 a4 ⟨σ, rfl, a5⟩
  obtain ⟨h0, h1, hC, hO⟩ := xt4 a5 h0 h1 hC hO
  rcases zf hs with ⟨a6, hs⟩ | ⟨a6, hs⟩
  ·refine zh (cb a6) (wp_skip (zd (wp_block (zd (zQ [] Mx rfl ?_)))))
   have a3 := Chg.drew a4
   generalize World.drew a4 = a7 at a3 ⊢
   obtain ⟨h0, h1, hC, hO⟩ := xt4 a3 h0 h1 hC hO
   have hS := Chg.refl [] a7
   refine xms 0 rfl rfl hS (xmi 1 rfl rfl hS ?_)
   obtain ⟨x42, b7, hs⟩ := bind_some hs
   obtain ⟨b8, b9, c0, a8⟩ := zK Sl34 Sz3 h0 b7
   refine xq 2 _ rfl (ip c0 rfl rfl) hS (x_l 3 (iv x42) rfl (by kernel_rfl) (fun w' hw' => zo rfl ((zm Ag3 Sz3 a8) w' hw')) hS (xms 4 rfl rfl hS (xmi 5 rfl rfl hS ?_)))
   obtain ⟨x44, c1, hs⟩ := bind_some hs
   obtain ⟨c2, c3, c4, a9⟩ := zK Sl34 Sz3 h1 c1
   refine xq 6 _ rfl (ip c4 rfl rfl) hS (x_l 7 (iv x44) rfl (by kernel_rfl) (fun w' hw' => zo rfl ((zm Ag3 Sz3 a9) w' hw')) hS (xq 8 (.bool (x42 != x44)) rfl (YJ rfl rfl) hS (xe ?_)))
   clear hS
   rcases zf hs with ⟨b0, hs⟩ | ⟨b0, hs⟩
   ·refine zh (cb b0) (zd (zd (zQ [] Mx rfl ?_)))
    have a2 := Chg.drew a7
    generalize World.drew a7 = c5 at a2 ⊢
    obtain ⟨h0, h1, a8, a9, hC, hO⟩ := xt6 a2 h0 h1 a8 a9 hC hO
    have hS := Chg.refl [] c5
    refine xms 0 rfl rfl hS (xmi 1 rfl rfl hS ?_)
    obtain ⟨x48, c6, hs⟩ := bind_some hs
    obtain ⟨c7, c8, c9, d0⟩ := zK Sl34 Sz3 h0 c6
    refine xq 2 _ rfl (ip c9 rfl rfl) hS (x_l 3 (iv x48) rfl (by kernel_rfl) (fun w' hw' => zo rfl ((zm Ag3 Sz3 d0) w' hw')) hS (xms 4 rfl rfl hS (xmi 5 rfl rfl hS ?_)))
    obtain ⟨x50, d1, hs⟩ := bind_some hs
    obtain ⟨d2, d3, d4, d5⟩ := zK Sl34 Sz3 h1 d1
    refine xq 6 _ rfl (ip d4 rfl rfl) hS (x_l 7 (iv x50) rfl (by kernel_rfl) (fun w' hw' => zo rfl ((zm Ag3 Sz3 d5) w' hw')) hS (xq 8 _ rfl (zw rfl rfl) hS (xe ?_)))
    clear hS
    rcases zf hs with ⟨b1, hs⟩ | ⟨b1, hs⟩
    ·refine zh (cb b1) (c_sr (ai rfl (zb (wp_ret ?_))))
     cases hs
     exact ⟨_, fr_m 48 rfl, hC⟩
    refine zi (cb b1) (wp_skip (c_sr (ai rfl (zb (wp_ret ?_)))))
    cases hs
    exact ⟨_, fr_m 48 rfl, hC⟩
   refine zi (cb b0) (wp_skip (ze (mi rfl (za _ (yad rfl rfl) (ai rfl (zb ?_))))))
   cases hs
   exact ⟨_, fr_m 48 rfl, hC, hO, h0, h1⟩
  refine zi (cb a6) (wp_exit ?_)
  cases hs
  exact ⟨rfl, _, fr_m 48 rfl, hC, hO, h0, h1⟩
 ·skip
  exact ⟨_, fr_m 48 rfl, hC, hO, h0, h1⟩
 cases o29 with
 | nx _ => exact True.intro
 | rt r_ =>
  have hs := zq hs
  intro b4 b5 hK
  cases hs
  exact hK
 | br s25 =>
  have hs := zp hs
  rintro b4 a0 ⟨σ, rfl, hC, hO, h0, h1⟩
  refine zd (wp_block (c_sr (ms rfl (za _ (zn Sl34 (zt h0) rfl) (ms rfl (za _ (zn Sl34 (zt h1) rfl) (za _ (zw rfl rfl) (ab rfl (zb ?_)))))))))
  rcases zf hs with ⟨b2, hs⟩ | ⟨b2, hs⟩
  ·refine zh (cb b2) (c_sr (ai rfl (zb (wp_ret ?_))))
   cases hs
   exact ⟨_, fr_m 48 rfl, hC⟩
  refine zi (cb b2) (c_sr (ms rfl (za _ (zn Sl34 (zt h0) rfl) (ms rfl (za _ (zn Sl34 (zt h1) rfl) (za _ (YY rfl rfl) (ab rfl (zb ?_))))))))
  rcases zf hs with ⟨b3, hs⟩ | ⟨b3, hs⟩
  ·refine zh (cb b3) (c_sr (ai rfl (zb (wp_ret ?_))))
   cases hs
   exact ⟨_, fr_m 48 rfl, hC⟩
  refine zi (cb b3) (wp_skip (c_sr (ai rfl (zb (wp_ret ?_)))))
  cases hs
  exact ⟨_, fr_m 48 rfl, hC⟩

theorem Bd89 : zF Tryz.prog 89 := zJ Tryz.func89 (by kernel_rfl) rfl

theorem Ag109 : AggT Tryz.prog 109 false := fun _ => by kernel_rfl

theorem Sz109 : SzT Tryz.prog 109 1 := ⟨_, rfl, rfl⟩

theorem Bd91 : zF Tryz.prog 91 := zJ Tryz.func91 (by kernel_rfl) rfl

def xj (M : Nat → Prop) (w0 : World) (r : Bool) (a : Act) (w : World) : Prop :=
  ∃ (σ : Nv) , a = fr 18 (ovl σ [(6, (.bool r))]) ∧ Chg [] w0 w
def ZO (tab1 : List (List Int)) (i : Int) (j : Int) : Option (Bool) :=
  (idx tab1 i).bind fun x5 =>
  (idx tab1 j).bind fun x9 =>
  (Ze x5 x9).bind fun r14 =>
  some (decide (r14 < 0))
theorem xk {M : Nat → Prop} {w : World} {gv0 : Nat} {pa1 : OA} {pn1 pc1 : Nat} {gv1 : Nat} (tab1 : tM) (i : Int) (j : Int) (hbgv0 : BoxV w gv0 109 [(.func (.func 91) #[] #[])]) (h1 : rm.val M w (sv pa1 pn1 pc1) tab1 []) (hbgv1 : BoxV w gv1 45 [(sv pa1 pn1 pc1)]) (hM : Hm w M) {r : Bool} (hs : ZO tab1 i j = some r) :
    Gives Tryz.prog 102 [(iv i), (iv j), (pq gv0 0), (pq gv1 0)] w (fun v w' => v = (.bool r) ∧ Chg [] w w') := by
 refine zr Tryz.func102 rfl Tryz.ntmps102 (nl rfl) ?_
 have hO := Own.start (N := Nw w []) hM Nw.fut
 have hC := Chg.refl [] w
 unfold ZO at hs
 refine wp_k (K := (xj M w r)) (by rintro _ _ ⟨σ, rfl, hrest⟩; exact Za Tryz.results102 (zB rfl) ⟨rfl, hrest⟩) (c_sr (ab rfl (zb (zd (zQ [9] Mx rfl ?_)))))
 have a1 := Chg.drew w
 generalize World.drew w = a6 at a1 ⊢
 obtain ⟨hbgv0, h1, hbgv1, hC, hO⟩ := xt5 a1 hbgv0 h1 hbgv1 hC hO
 have hS := Chg.refl [] a6
 refine xl 0 rfl (ldx rfl Ag109 Sz109 hbgv0 rfl) hS (xl 1 rfl (ldx rfl Ag45 Sz45 hbgv1 rfl) hS (xmi 2 rfl rfl hS ?_))
 obtain ⟨x5, a7, hs⟩ := bind_some hs
 obtain ⟨a8, a9, b0, a4⟩ := zK Sl45 Sz34 h1 a7
 refine xq 3 _ rfl (ip b0 rfl rfl) hS ?_
 obtain ⟨c5, b1, a2⟩ := Zc Ag34 Sz34 (fun _ => rfl) a4
 obtain ⟨b2, b3, b4, rfl⟩ := yl a2
 refine x_l 4 (sv b2 b3 b4) rfl (by kernel_rfl) (fun w' hw' => zo rfl (b1 w' hw')) hS (xl 5 rfl (ldx rfl Ag45 Sz45 hbgv1 rfl) hS (xmi 6 rfl rfl hS ?_))
 obtain ⟨x9, b5, hs⟩ := bind_some hs
 obtain ⟨b6, b7, b8, a5⟩ := zK Sl45 Sz34 h1 b5
 refine xq 7 _ rfl (ip b8 rfl rfl) hS ?_
 obtain ⟨c6, b9, a3⟩ := Zc Ag34 Sz34 (fun _ => rfl) a5
 obtain ⟨c0, c1, c2, rfl⟩ := yl a3
 refine x_l 8 (sv c0 c1 c2) rfl (by kernel_rfl) (fun w' hw' => zo rfl (b9 w' hw')) hS (zI (i := 9) (by kernel_rfl) ?_)
 obtain ⟨r14, c3, hs⟩ := bind_some hs
 refine xk_callv (b := true) rfl (h := rfl) Bd91 rfl (Xr (M := M) x5 x9 a2 a3 hO.fut c3) rfl (fun h => nomatch h) ?_
 rintro _ c7 ⟨rfl, a0⟩
 obtain ⟨hbgv0, h1, hbgv1, a2, a3, a4, a5, hC⟩ := xt8 a0 hbgv0 h1 hbgv1 a2 a3 a4 a5 hC
 have hO := hO.ext a0
 refine x_p 10 (.bool (decide (r14 < 0))) rfl (by kernel_rfl) (fun _ => zw rfl rfl) (fun h => nomatch h) (x_p 11 (.bool (decide (r14 < 0))) rfl (by kernel_rfl) (fun _ => zA rfl) (fun h => nomatch h) (xe ?_))
 clear hS
 refine wp_ret ?_
 cases hs
 exact ⟨_, fr_m 18 rfl, hC⟩

theorem Fx108 : ∀ args W, (callFunc 108 args).run Tryz.prog W = (((fun args : Array Value => Extern.ReflectliteValue.unpack (args.getD 0 (.tuple #[]))) args).run Tryz.prog W).andThen fun v w' => .ok (.value v) w' := fun args W => run_callFunc_extern Tryz.func108 (by kernel_rfl) (by kernel_rfl) (by kernel_rfl) (e := (fun args : Array Value => Extern.ReflectliteValue.unpack (args.getD 0 (.tuple #[])))) (by kernel_rfl) args W

theorem Ti45 : ∃ i, Tryz.prog.info? 45 = some i ∧ i.desc = .slice 34 := ⟨(Tryz.prog.info? 45).get (by kernel_rfl), by kernel_rfl, by kernel_rfl⟩

theorem Sz124 : SzT Tryz.prog 124 3 := ⟨_, rfl, rfl⟩

theorem Fx109 : ∀ args W, (callFunc 109 args).run Tryz.prog W = (((Extern.ReflectliteSwapper.swapper "internal/reflectlite" (Extern.ReflectliteValue.valueError "Swapper")) args).run Tryz.prog W).andThen fun v w' => .ok (.value v) w' := fun args W => run_callFunc_extern Tryz.func109 (by kernel_rfl) (by kernel_rfl) (by kernel_rfl) (e := (Extern.ReflectliteSwapper.swapper "internal/reflectlite" (Extern.ReflectliteValue.valueError "Swapper"))) (by kernel_rfl) args W

theorem Ke34 : ∀ w, (Extern.Rtype.kind 34).run Tryz.prog w = .ok 23 w := fun _ => by kernel_rfl

theorem Ag124 : AggT Tryz.prog 124 true := fun _ => by kernel_rfl

theorem Fx111 : ∀ args W, (callFunc 111 args).run Tryz.prog W = (((Extern.ReflectliteValue.method (Extern.ReflectliteValue.valueError "reflectlite.Value.Len" 0) Extern.ReflectliteValue.len) args).run Tryz.prog W).andThen fun v w' => .ok (.value v) w' := fun args W => run_callFunc_extern Tryz.func111 (by kernel_rfl) (by kernel_rfl) (by kernel_rfl) (e := (Extern.ReflectliteValue.method (Extern.ReflectliteValue.valueError "reflectlite.Value.Len" 0) Extern.ReflectliteValue.len)) (by kernel_rfl) args W

theorem Pk45 : Tryz.prog.packed 45 = false := by kernel_rfl

theorem Bd110 : zF Tryz.prog 110 := zJ Tryz.func110 (by kernel_rfl) rfl

def vw (M : Nat → Prop) (w0 : World) {α_ : Type} (I_ : World → List α_ → Prop) (G_ : List Nat) (r : (List α_)) (a : Act) (w : World) : Prop :=
  ∃ (σ : Nv) , a = fr 16 (ovl σ []) ∧ Chg (G_ ++ []) w0 w ∧ I_ w r
def yY {α_ : Type} (ls_ : α_ → α_ → Option Bool) (d_ : List α_) (n_ : Nat) : Option ((List α_)) :=
  (Ya ls_ d_ (n_ : Int)).bind fun r7 =>
  some r7
theorem vt {M : Nat → Prop} {w : World} {a_ : OA} {c_ : Nat} {ie_ : TypeInfo} {α_ : Type} {n0_ : Nat} {I_ : World → List α_ → Prop} {G_ : List Nat} {g_ sf_ : Nat} {lb_ : Array Value} (ls_ : α_ → α_ → Option Bool) (d_ : List α_) (n_ : Nat) (hN_ : n0_ ≤ w.heap.size) (hie_ : Tryz.prog.info? 34 = some ie_) (hf_ : Tryz.prog.funcs.findIdx? (·.name == "internal/reflectlite" ++ ".Swapper$" ++ toString (Go.Lib.swapperK n_ ie_ 23)) = some sf_) (hE_ : Env Tryz.prog n0_ I_ G_ ls_ g_ lb_ sf_ (if Go.Lib.swapperK n_ ie_ 23 ≤ 2 then #[] else #[.slice a_ n_ c_, typeHandle Tryz.prog 34])) (hI_ : I_ w d_) (hI : Own (Nw w (G_ ++ [])) M w (G_ ++ [])) (hM : Hm w M) {r : (List α_)} (hs : yY ls_ d_ n_ = some r) :
    Gives Tryz.prog 101 [(.iface 45 (sv a_ n_ c_)), (.func (.func g_) #[] lb_)] w (fun v w' => v = (.tuple #[]) ∧ Chg (G_ ++ []) w w' ∧ I_ w' r) := by
 refine zr Tryz.func101 rfl Tryz.ntmps101 (nl rfl) ?_
 have hO := hI
 have hC := Chg.refl (G_ ++ []) w
 unfold yY at hs
 refine wp_mono (Q := wO (vw M w I_ G_ r)) ?_ (fun e a a6 h => ?_)
 rotate_left
 ·cases e
  case ret =>
   obtain ⟨σ, rfl, hrest⟩ := h
   exact vU Tryz.results101  ⟨rfl, hrest⟩
  case normal =>
   obtain ⟨σ, rfl, hrest⟩ := h
   exact vY Tryz.results101  ⟨rfl, hrest⟩
  all_goals exact (h : False).elim
 refine c_sr (za (.iface 45 (sv a_ n_ c_)) (zx rfl) ?_)
 obtain ⟨b3, b4, b5⟩ := Ti45
 obtain ⟨a6, a1, b6, a9, a7, a0⟩ := zg w [(sv a_ n_ c_)] 45
 refine za (w' := a6) (.agg #[(typeHandle Tryz.prog 45), (pq a1 0), (.int .u64 151)]) (zak rfl rfl (by rw [Fx108]; show Result.andThen (Sem.run Tryz.prog (Extern.ReflectliteValue.unpack (.iface 45 (sv a_ n_ c_))) _) _ = _; rw [Go.Lib.run_valueOf_slice 45 34 b3 b4 b5, b6, a9]; rfl)) ?_
 have hI_ := hE_.ext hI_ a7 (fun _ h => nomatch h)
 have hC := hC.ext a7
 have hO := hO.new1 a7 a9 a0.lt
 obtain ⟨b7, a8, b8, b0, a3, b1⟩ := zg a6 [(.pointer none), (.pointer none), (.int .u64 0)] 124
 refine za (w' := b7) (pq a8 0) (YF (by rw [b8, b0]; kernel_rfl)) ?_
 have hI_ := hE_.ext hI_ a3 (fun _ h => nomatch h)
 obtain ⟨a0, hC⟩ := xt2 a3 a0 hC
 have hO := hO.new1 a3 b0 b1.lt
 obtain ⟨b2, b9, a4, a2⟩ := Zx (P := Tryz.prog) b1 [] [(.pointer none), (.pointer none), (.int .u64 0)] [] [(typeHandle Tryz.prog 45), (pq a1 0), (.int .u64 151)] rfl rfl (oc rfl)
 refine Zh (w' := b2) (zY rfl rfl (b9 _ _ rfl Sz124)) ?_
 have hI_ := hE_.ext hI_ a4 (fun q hq => Nat.le_trans hN_ ((hO.inN q ((fun _ h => h) q hq)).resolve_left (fun e => hO.apart q ((fun _ h => h) q hq) (zj (zD (ZM q e))))))
 have a0 := a0.ap a4 hO zl mS
 have hC := hC.st a4 hO zl
 have hO := hO.ext a4
 have a2 : BoxV b2 a8 124 [(typeHandle Tryz.prog 45), (pq a1 0), (.int .u64 151)] := a2
 refine zb (c_sr (za (.iface 45 (sv a_ n_ c_)) (zx rfl) ?_))
 obtain ⟨c0, c1, c2⟩ := Ti45
 refine za (.func (.func sf_) #[] (if Go.Lib.swapperK n_ ie_ 23 ≤ 2 then #[] else #[.slice a_ n_ c_, typeHandle Tryz.prog 34])) ((zak rfl rfl (by rw [Fx109]; show Result.andThen (Sem.run Tryz.prog (Extern.ReflectliteSwapper.swapper "internal/reflectlite" (Extern.ReflectliteValue.valueError "Swapper") #[(.iface 45 (sv a_ n_ c_))]) _) _ = _; rw [Go.Lib.run_swapper_slice 45 34 c0 ie_ c1 c2 hie_ 23 Ke34 a_ n_ c_ sf_ hf_]; rfl))) (za (.func (.func sf_) #[] (if Go.Lib.swapperK n_ ie_ 23 ≤ 2 then #[] else #[.slice a_ n_ c_, typeHandle Tryz.prog 34])) (zA rfl) (zb (ze (za (.func (.func g_) #[] lb_) (zx rfl) (za (.func (.func sf_) #[] (if Go.Lib.swapperK n_ ie_ 23 ≤ 2 then #[] else #[.slice a_ n_ c_, typeHandle Tryz.prog 34])) (zx rfl) (za (.agg #[(.func (.func g_) #[] lb_), (.func (.func sf_) #[] (if Go.Lib.swapperK n_ ie_ 23 ≤ 2 then #[] else #[.slice a_ n_ c_, typeHandle Tryz.prog 34]))]) (UW rfl (by kernel_rfl)) (za _ (ldw rfl Ag124 a2 Sz124) ?_)))))))
 obtain ⟨c3, c4, c5⟩ := Ti45
 refine za (iv (n_ : Int)) ((zak rfl rfl (by rw [Fx111]; show Result.andThen (Sem.run Tryz.prog (Extern.ReflectliteValue.method (Extern.ReflectliteValue.valueError "reflectlite.Value.Len" 0) Extern.ReflectliteValue.len #[(.agg #[(typeHandle Tryz.prog 45), (pq a1 0), (.int .u64 151)])]) _) _ = _; rw [Go.Lib.run_valueLen_slice 45 34 c3 c4 c5 Pk45 _ _ _ _ _ (box_cell a0)]; rfl))) ?_
 have hO := hO.fr2
 have c6 := Own.lend (F := (G_ ++ [])) (R := [a8] ++ ([a1] ++ [])) (Own.perm hO (by simp))
 obtain ⟨r7, c7, hs⟩ := bind_some hs
 refine zy Bd110 rfl (vu (M := M) ls_ d_ (n_ : Int) (Nat.le_trans hN_ hC.size) hE_ hI_ c6 hO.fut c7) ?_
 rintro _ c9 ⟨rfl, a5, c8⟩
 have a0 := a0.ap a5 hO ZM (zj mS)
 have a2 := a2.ap a5 hO ZM mS
 have hC := hC.st a5 hO ZM
 have hO := hO.ext a5
 refine zb ?_
 cases hs
 exact ⟨_, zG 16 trivial, hC, c8⟩

theorem Ei34 : ∃ ie, Tryz.prog.info? 34 = some ie ∧ ie.size = 1 ∧ ie.hasPointers = true ∧ (ie.bytes == 8) = false := ⟨(Tryz.prog.info? 34).get (by kernel_rfl), by kernel_rfl, by kernel_rfl, by kernel_rfl, by kernel_rfl⟩

theorem Fs2 : ∀ W, (callFunc 113 #[.int .i64 0, .int .i64 0]).run Tryz.prog W = .ok (.value (.tuple #[])) W := fun W => (run_callFunc_extern Tryz.func113 (by kernel_rfl) (by kernel_rfl) (by kernel_rfl) (e := (Extern.find Tryz.f113).get (by kernel_rfl)) (by kernel_rfl) _ W).trans (by kernel_rfl)

theorem Fx120 : ∀ args W, (callFunc 120 args).run Tryz.prog W = (((Extern.ReflectliteSwapper.swap false) args).run Tryz.prog W).andThen fun v w' => .ok (.value v) w' := fun args W => run_callFunc_extern Tryz.func120 (by kernel_rfl) (by kernel_rfl) (by kernel_rfl) (e := (Extern.ReflectliteSwapper.swap false)) (by kernel_rfl) args W

theorem Sn1 : Tryz.prog.funcs.findIdx? (·.name == "internal/reflectlite" ++ ".Swapper$" ++ toString 1) = some 112 := by kernel_rfl

theorem Sn2 : Tryz.prog.funcs.findIdx? (·.name == "internal/reflectlite" ++ ".Swapper$" ++ toString 2) = some 113 := by kernel_rfl

theorem Sn9 : Tryz.prog.funcs.findIdx? (·.name == "internal/reflectlite" ++ ".Swapper$" ++ toString 9) = some 120 := by kernel_rfl

theorem Bd102 : zF Tryz.prog 102 := zJ Tryz.func102 (by kernel_rfl) rfl

theorem Bd101 : zF Tryz.prog 101 := zJ Tryz.func101 (by kernel_rfl) rfl

def xy (M : Nat → Prop) (w0 : World) (qa0 : OA) (qn0 qc0 : Nat) (qf0 : List Nat) (r : tM) (a : Act) (w : World) : Prop :=
  ∃ (σ : Nv) (rfi0 : List Nat), a = fr 8 (ovl σ []) ∧ Chg (qf0 ++ []) w0 w ∧ (RT.os 34 (RT.os 3 ri)).val M w (sv qa0 qn0 qc0) r rfi0 ∧ Own (Nw w0 (qf0 ++ [])) (fun _ => True) w (rfi0 ++ [])
def ZD (rows : List (List Int)) : Option ((List (List Int))) :=
  (yY (fun x_ y_ => (Ze x_ y_).bind fun r_ => some (decide (r_ < 0))) rows (rows.length)).bind fun r5 =>
  some r5
theorem xx {M : Nat → Prop} {w : World} {pa0 : OA} {pn0 pc0 : Nat} {pf0 : List Nat} (rows : tM) (h0 : (RT.os 34 (RT.os 3 ri)).val M w (sv pa0 pn0 pc0) rows pf0) (hI : Own (Nw w (pf0 ++ [])) M w (pf0 ++ [])) (hM : Hm w M) {r : tM} (hs : ZD rows = some r) :
    Gives Tryz.prog 90 [(sv pa0 pn0 pc0), (.func (.func 91) #[] #[])] w (fun v w' => ∃ (rfi0 : List Nat), v = (.tuple #[]) ∧ Chg (pf0 ++ []) w w' ∧ (RT.os 34 (RT.os 3 ri)).val M w' (sv pa0 pn0 pc0) r rfi0 ∧ Own (Nw w (pf0 ++ [])) (fun _ => True) w' (rfi0 ++ [])) := by
 refine zr Tryz.func90 rfl Tryz.ntmps90 (nl rfl) ?_
 have hO := hI
 have hC := Chg.refl (pf0 ++ []) w
 unfold ZD at hs
 refine wp_mono (Q := wO (xy M w pa0 pn0 pc0 pf0 r)) ?_ (fun e a c5 h => ?_)
 rotate_left
 ·cases e
  case ret =>
   obtain ⟨σ, rfi0, rfl, hrest⟩ := h
   exact vU Tryz.results90  ⟨rfi0, rfl, hrest⟩
  case normal =>
   obtain ⟨σ, rfi0, rfl, hrest⟩ := h
   exact vY Tryz.results90  ⟨rfi0, rfl, hrest⟩
  all_goals exact (h : False).elim
 refine c_sr ?_
 obtain ⟨b0, a1, b4, b1, a6, a0⟩ := zg w [(sv pa0 pn0 pc0)] 45
 refine za (w' := b0) (pq a1 0) (Zj rfl (by rw [b4, b1]; kernel_rfl)) ?_
 obtain ⟨h0, hC⟩ := xt2 a6 h0 hC
 have hO := hO.new1 a6 b1 a0.lt
 obtain ⟨a7, a2, b5, b2, a4, a3⟩ := zg b0 [(.func (.func 91) #[] #[])] 109
 refine za (w' := a7) (pq a2 0) (Zj rfl (by rw [b5, b2]; kernel_rfl)) ?_
 obtain ⟨h0, a0, hC⟩ := xt3 a4 h0 a0 hC
 have hO := hO.new1 a4 b2 a3.lt
 refine zb (ze (za _ (ld rfl Ag45 Sz45 a0 rfl) (za (.iface 45 (sv pa0 pn0 pc0)) (y_iface Tryz.underlying45 rfl) (za (.func (.func 102) #[] #[(pq a2 0), (pq a1 0)]) (y_func rfl rfl) ?_))))
 have hO := hO.fr2
 obtain ⟨c6, b3, b6, a8, b7⟩ := Ei34
 have b8 := os_n h0
 obtain ⟨c7, b9, c0⟩ := sort_env (P := Tryz.prog) (ke := 23) (M := M) (gO := a2) (gR := a1) (tO := 109) (tR := 45) (fv := (.func (.func 91) #[] #[])) (ls := (fun x_ y_ => (Ze x_ y_).bind fun r_ => some (decide (r_ < 0)))) (g := 102) (lb := #[(pq a2 0), (pq a1 0)]) rfl b3 b6 Ag34 a8 b7 rfl Sn1 Sn2 Sn9 Fs2 Fx120 Bd102 hO.inM (fun hg => hO.apart _ hg mS) (fun hg => hO.apart _ hg (zj mS)) (fun h hm ho hr hf hl => xk (M := Less M _) _ _ _ ho (((Frz.os (Frz.os Frz.int))).val h Less.sub Less.not) hr (less_fut hf h.fpl) (show ZO _ _ _ = some _ from hl)) h0 (n0 := (a7).heap.size) hO.lt a3.lt a0.lt hO.fut
 have c1 : zbE (RT.os 3 ri) 34 M pa0 pn0 pc0 pf0 a2 a1 109 45 (.func (.func 91) #[] #[]) a7 rows := ⟨⟨_, h0, List.Perm.refl _⟩, a3, a0, hO.fut⟩
 have c2 := Own.lend (F := (pf0 ++ [])) (R := [a2] ++ ([a1] ++ [])) (Own.perm hO (by simp))
 obtain ⟨r5, c3, hs⟩ := bind_some hs
 refine zy Bd101 rfl (vt (M := M) (fun x_ y_ => (Ze x_ y_).bind fun r_ => some (decide (r_ < 0))) rows pn0 (Nat.le_refl _) b3 b9 c0 c1 c2 hO.fut (by rw [b8]; exact c3)) ?_
 rintro _ c8 ⟨rfl, a5, ⟨⟨c4, a9, a8⟩, _, _, _⟩⟩
 have a0 := a0.ap a5 hO ZM (zj mS)
 have a3 := a3.ap a5 hO ZM mS
 have hC := hC.st a5 hO ZM
 have hO := hO.grow a5 (fun q hq => .inl (a8.mem_iff.1 hq)) (zu a9) a9.fpl
 refine zb ?_
 cases hs
 have hO := hO.fr1.drop.fr1.drop
 exact ⟨_, c4, zG 8 trivial, hC, a9, hO.top⟩

theorem Bd90 : zF Tryz.prog 90 := zJ Tryz.func90 (by kernel_rfl) rfl

def WH (M : Nat → Prop) (w0 : World) (r : tM) (a : Act) (w : World) : Prop :=
  ∃ (σ : Nv) (ra0 : OA) (rn0 rc0 : Nat) (rf0 : List Nat), a = fr 9 (ovl σ [(2, (sv ra0 rn0 rc0))]) ∧ Chg [] w0 w ∧ (RT.os 34 (RT.os 3 ri)).val M w (sv ra0 rn0 rc0) r rf0 ∧ Own (Nw w0 []) (fun _ => True) w (rf0 ++ [])
def yp (list : List (List Int)) : Option ((List (List Int))) :=
  (Yy list).bind fun r3 =>
  (ZD r3).bind fun r6 =>
  some r6
theorem WG {M : Nat → Prop} {w : World} {pa0 : OA} {pn0 pc0 : Nat} (list : tM) (h0 : rm.val M w (sv pa0 pn0 pc0) list []) (hM : Hm w M) {r : tM} (hs : yp list = some r) :
    Gives Tryz.prog 59 [(sv pa0 pn0 pc0)] w (fun v w' => ∃ (ra0 : OA) (rn0 rc0 : Nat) (rf0 : List Nat), v = (sv ra0 rn0 rc0) ∧ Chg [] w w' ∧ (RT.os 34 (RT.os 3 ri)).val M w' (sv ra0 rn0 rc0) r rf0 ∧ Own (Nw w []) (fun _ => True) w' (rf0 ++ [])) := by
 refine zr Tryz.func59 rfl Tryz.ntmps59 (nl rfl) ?_
 have hO := Own.start (N := Nw w []) hM Nw.fut
 have hC := Chg.refl [] w
 unfold yp at hs
 refine wp_k (K := (WH M w r)) (by rintro _ _ ⟨σ, ra0, rn0, rc0, rf0, rfl, hrest⟩; exact Za Tryz.results59 (zB rfl) ⟨ra0, rn0, rc0, rf0, rfl, hrest⟩) (c_sr (ax rfl (zb (c_sr (ms rfl ?_)))))
 obtain ⟨r3, a8, hs⟩ := bind_some hs
 refine zy Bd89 rfl (Ve (M := M) list h0 hO.fut a8) ?_
 rintro _ b6 ⟨a0, a1, a2, a3, rfl, a4, a9, b0⟩
 obtain ⟨h0, hC⟩ := xt2 a4 h0 hC
 have hO := Own.join0 hO a4 b0
 have hO := hO.perm (R := a3 ++ []) (by simp)
 refine ax rfl (zb (c_sr (ms rfl ?_)))
 have b1 := hO
 have a5 := Own.lend (F := (a3 ++ [])) (R := []) (Own.perm (b1) (by simp))
 obtain ⟨r6, b2, hs⟩ := bind_some hs
 refine zy Bd90 rfl (xx (M := M) r3 a9 a5 a5.fut b2) ?_
 rintro _ b7 ⟨a6, rfl, a7, b3, b4⟩
 have hO := hO.perm (R := (a3 ++ []) ++ []) (by simp)
 have hC := hC.st a7 hO zl
 have hO := Own.join hO a7 b4
 have hO := hO.perm (R := a6 ++ []) (by simp)
 refine zb (c_sr (ms rfl (ax rfl (zb (wp_ret ?_)))))
 cases hs
 exact ⟨_, a0, a1, a2, a6, fr_m 9 rfl, hC, b3, hO.top⟩

theorem Bd57 : zF Tryz.prog 57 := zJ Tryz.func57 (by kernel_rfl) rfl

theorem Bd34 : zF Tryz.prog 34 := zJ Tryz.func34 (by kernel_rfl) rfl

theorem uN : ∀ (a : Addr) (w : World), (Instr.fieldAt 59 (.pointer (some a)) 2).run Tryz.prog w = .ok (.pointer (some (a.add 2))) w := fun _ _ => by kernel_rfl

theorem Bd58 : zF Tryz.prog 58 := zJ Tryz.func58 (by kernel_rfl) rfl

theorem Bd59 : zF Tryz.prog 59 := zJ Tryz.func59 (by kernel_rfl) rfl

theorem vq : ∀ (a : Addr) (w : World), (Instr.fieldAt 59 (.pointer (some a)) 0).run Tryz.prog w = .ok (.pointer (some (a.add 0))) w := fun _ _ => by kernel_rfl

theorem Sz57 : SzT Tryz.prog 57 1 := ⟨_, rfl, rfl⟩

def Xf (M : Nat → Prop) (w0 : World) (r : (Option ((tA × Int × tM × (List (ByteArray × Int))) × Int × tM)) × Bool) (a : Act) (w : World) : Prop :=
  ∃ (σ : Nv) (rn0 : Value) (rf0 : List Nat), a = fr 117 (ovl σ [(4, rn0), (5, (.bool r.2))]) ∧ Chg [] w0 w ∧ (RT.op 59 (RT.pr (RT.po 90 (RT.pr (RT.pr ri rp) (RT.pr ri (RT.pr (RT.os 34 rl) (RT.mo (Value.int .i64)))))) (RT.pr ri rm))).val (PastL M [] w0 w (rf0 ++ [])) w rn0 r.1 rf0 ∧ Own (Nw w0 []) (fun _ => True) w (rf0 ++ [])
def ym (a_ : Int × (List (Int × (List Int)))) (k : Int) : Option ((Option (((Int × (List (Int × (List Int)))) × Int × (List (List Int)) × (List (ByteArray × Int))) × Int × (List (List Int)))) × Bool) :=
  ((Zg (a_.1, a_.2)).bind fun r7 =>
  (bif (!r7) then some true else (bif (decide (k < 0)) then some true else (bif (decide (3 < k)) then some true else (yn a_.1 k).bind fun r12 =>
  some (decide (64 < r12)))))).bind fun s3 =>
  (bif s3 then some (none, false) else (yn a_.1 k).bind fun r15 =>
  (forC (S := (List (List Int))) (R := (Option (((Int × (List (Int × (List Int)))) × Int × (List (List Int)) × (List (ByteArray × Int))) × Int × (List (List Int)))) × Bool) (fun k107 s105 =>
  (mks r15 (0 : Int)).bind fun y116 =>
  (forC (S := (List Int)) (R := (Option (((Int × (List (Int × (List Int)))) × Int × (List (List Int)) × (List (ByteArray × Int))) × Int × (List (List Int)))) × Bool) (fun k137 s135 =>
  (yz k137 k a_.1).bind fun r144 =>
  (idx r144 k107).bind fun x146 =>
  (idx s135 k137).bind fun x148 =>
  some (.nx (List.set s135 (Int.toNat k137) x146))) 0 (y116.length : Int) y116).bind fun o139 => after o139 (fun r_ => some (.rt r_)) (fun s135 =>
  (app s105 ([s135])).bind fun y154 =>
  some (.nx y154))) 0 k ([])).bind fun o109 => after o109 (fun r_ => some r_) (fun s105 =>
  (yU (a_.1, a_.2) r15 s105).bind fun r167 =>
  (bif (!r167.2) then some (none, false) else (r167.1).bind fun p171 =>
  (yp p171.2.2.1).bind fun r177 =>
  (forC (S := (List (ByteArray × Int))) (R := (Option (((Int × (List (Int × (List Int)))) × Int × (List (List Int)) × (List (ByteArray × Int))) × Int × (List (List Int)))) × Bool) (fun k199 s197 =>
  (idx r177 k199).bind fun x205 =>
  (ZC x205).bind fun r211 =>
  some (.nx (mput s197 r211 k199))) 0 (r177.length : Int) p171.2.2.2).bind fun o201 => after o201 (fun r_ => some r_) (fun s197 =>
  some ((some (((p171.1.1, p171.1.2), p171.2.1, r177, s197), k, s105)), true)))))
theorem uZ {M : Nat → Prop} {w : World} {pa0 : OA} {pn0 pc0 : Nat} (a_ : tA) (k : Int) (h0 : rp.val M w (sv pa0 pn0 pc0) a_.2 []) (hM : Hm w M) {r : (Option ((tA × Int × tM × (List (ByteArray × Int))) × Int × tM)) × Bool} (hs : ym a_ k = some r) :
    Gives Tryz.prog 28 [(.agg #[(iv a_.1), (sv pa0 pn0 pc0)]), (iv k)] w (fun v w' => ∃ (rn0 : Value) (rf0 : List Nat), v = (.tuple #[rn0, (.bool r.2)]) ∧ Chg [] w w' ∧ (RT.op 59 (RT.pr (RT.po 90 (RT.pr (RT.pr ri rp) (RT.pr ri (RT.pr (RT.os 34 rl) (RT.mo (Value.int .i64)))))) (RT.pr ri rm))).val (PastL M [] w w' (rf0 ++ [])) w' rn0 r.1 rf0 ∧ Own (Nw w []) (fun _ => True) w' (rf0 ++ [])) := by
 refine zr Tryz.func28 rfl Tryz.ntmps28 (nl rfl) ?_
 have hO := Own.start (N := Nw w []) hM Nw.fut
 have hC := Chg.refl [] w
 unfold ym at hs
 refine wp_k (K := (Xf M w r)) (by rintro _ _ ⟨σ, rn0, rf0, rfl, hrest⟩; exact wb Tryz.results28 (zB rfl) (zB rfl) ⟨rn0, rf0, rfl, hrest⟩) (c_sr ?_)
 obtain ⟨i6, a5, l7, k5, i7, a0⟩ := zg w [(iv a_.1), (sv pa0 pn0 pc0)] 30
 refine za (w' := i6) (pq a5 0) (Zj rfl (by rw [l7, k5]; kernel_rfl)) ?_
 obtain ⟨h0, hC⟩ := xt2 i7 h0 hC
 have hO := hO.new1 i7 k5 a0.lt
 refine za (.pointer none) (zA rfl) (ab rfl (zb (zd (zd ?_))))
 obtain ⟨s3, l8, hs⟩ := bind_some hs
 refine yB (I := fun a k6 => ∃ (σ : Nv), a = fr 117 (ovl σ [(1, (iv k)), (2, (pq a5 0)), (4, (.pointer none)), (5, (.bool false)), (32, (.bool s3))]) ∧ Chg [] i6 k6) ?_ ?_
 ·replace hs := l8
  have hMid := Chg.refl [] i6
  refine ze (za _ (ldw rfl Ag30 a0 Sz30) ?_)
  obtain ⟨r7, l9, hs⟩ := bind_some hs
  refine zy Bd57 rfl (Yz (M := M) (a_.1, a_.2) h0 hO.fut l9) ?_
  rintro _ t3 ⟨rfl, g1⟩
  obtain ⟨h0, a0, hMid, hC, hO⟩ := xt5 g1 h0 a0 hMid hC hO
  refine za _ (ZA rfl) (mb rfl ?_)
  rcases zf hs with ⟨e4, hs⟩ | ⟨e4, hs⟩
  ·skip
   refine pn 18 (cb e4) (pn 18 (cb e4) (za _ (ptb (cb e4) rfl) (mb rfl (pn 22 (by rfl) (pn 22 (by rfl) (za _ (ptb (by rfl) rfl) (mb rfl (pn 26 (by rfl) (pn 26 (by rfl) (pn 26 (by rfl) (pn 26 (by rfl) (pn 26 (by rfl) (za _ (ptb (by rfl) rfl) (zb ?_))))))))))))))
   cases hs
   exact ⟨_, fr_m 117 rfl, hMid⟩
  refine py 18 (iv k) (cb e4) (zx rfl) (py 18 _ (cb e4) (zw rfl rfl) (za _ (pfb (cb e4) rfl) (mb rfl ?_)))
  rcases zf hs with ⟨e5, hs⟩ | ⟨e5, hs⟩
  ·skip
   refine pn 22 (cb e5) (pn 22 (cb e5) (za _ (ptb (cb e5) rfl) (mb rfl (pn 26 (by rfl) (pn 26 (by rfl) (pn 26 (by rfl) (pn 26 (by rfl) (pn 26 (by rfl) (za _ (ptb (by rfl) rfl) (zb ?_))))))))))
   cases hs
   exact ⟨_, fr_m 117 rfl, hMid⟩
  refine py 22 (iv k) (cb e5) (zx rfl) (py 22 _ (cb e5) (YY rfl rfl) (za _ (pfb (cb e5) rfl) (mb rfl ?_)))
  rcases zf hs with ⟨b7, hs⟩ | ⟨b7, hs⟩
  ·skip
   refine pn 26 (cb b7) (pn 26 (cb b7) (pn 26 (cb b7) (pn 26 (cb b7) (pn 26 (cb b7) (za _ (ptb (cb b7) rfl) (zb ?_))))))
   cases hs
   exact ⟨_, fr_m 117 rfl, hMid⟩
  refine py 26 (pq a5 0) (cb b7) (zk rfl yO) (py 26 _ (cb b7) (ld rfl Ag3 Sz3 a0 rfl) (py 26 (iv k) (cb b7) (zx rfl) ?_))
  obtain ⟨r12, m0, hs⟩ := bind_some hs
  refine yt (tg := 26) (by kernel_rfl) (cb b7) Bd32 rfl (Xu (M := M) a_.1 k  hO.fut m0) ?_
  rintro _ t4 ⟨rfl, g2⟩
  obtain ⟨h0, a0, hMid, hC, hO⟩ := xt5 g2 h0 a0 hMid hC hO
  refine py 26 _ (cb b7) (YY rfl rfl) (za _ (pfb (cb b7) rfl) (zb ?_))
  cases hs
  exact ⟨_, fr_m 117 rfl, hMid⟩
 rintro f3 k6 ⟨σ, rfl, h2⟩
 obtain ⟨h0, a0, hC, hO⟩ := xt4 h2 h0 a0 hC hO
 rcases zf hs with ⟨i9, hs⟩ | ⟨i9, hs⟩
 ·refine zh (cb i9) (c_sr (za (.pointer none) (zA rfl) (ab rfl (zb (wp_ret ?_)))))
  cases hs
  have hO := hO.drop.nil
  exact ⟨_, (.pointer none), [], fr_m 117 rfl, hC, VY, hO.top⟩
 refine zi (cb i9) (wp_skip (c_sr (za (pq a5 0) (zk rfl yO) (za _ (ld rfl Ag3 Sz3 a0 rfl) (mi rfl ?_)))))
 obtain ⟨r15, m1, hs⟩ := bind_some hs
 refine zy Bd32 rfl (Xu (M := M) a_.1 k  hO.fut m1) ?_
 rintro _ m2 ⟨rfl, h3⟩
 obtain ⟨h0, a0, hC, hO⟩ := xt4 h3 h0 a0 hC hO
 refine ai rfl (zb (c_sr (mi rfl (za (.agg #[(.pointer none), (iv k), (sv none 0 0)]) (UW rfl (by kernel_rfl)) ?_))))
 obtain ⟨m3, a1, m4, k7, h4, a2⟩ := zg m2 [(.pointer none), (iv k), (sv none 0 0)] 59
 refine za (w' := m3) (pq a1 0) (Zj rfl (by rw [m4, k7]; kernel_rfl)) ?_
 obtain ⟨h0, a0, hC⟩ := xt3 h4 h0 a0 hC
 have hO := hO.new1 h4 k7 a2.lt
 refine ap rfl (zb (zd (c_sr (ai rfl (zb ?_)))))
 obtain ⟨o109, m5, hs⟩ := bind_some hs
 refine wp_block (zT (id := 0) k (I := fun k107 s105 a a9 => ∃ (σ : Nv) (b9 : OA) (c0 : Nat) (c1 : Nat) (c2 : List Nat), a = fr 117 (ovl σ [(1, (iv k)), (2, (pq a5 0)), (6, (iv r15)), (7, (pq a1 0)), (8, (iv k107))]) ∧ Chg [] w a9 ∧ Own (Nw w []) M a9 (c2 ++ ([a1] ++ ([a5] ++ []))) ∧ rp.val M a9 (sv pa0 pn0 pc0) a_.2 [] ∧ BoxV a9 a5 30 [(iv a_.1), (sv pa0 pn0 pc0)] ∧ BoxV a9 a1 59 [(.pointer none), (iv k), (sv b9 c0 c1)] ∧ (RT.os 34 (RT.os 3 ri)).val M a9 (sv b9 c0 c1) s105 c2) (J := fun s105 a a9 => ∃ (σ : Nv) (c3 : OA) (c4 : Nat) (c5 : Nat) (j0 : List Nat), a = fr 117 (ovl σ [(2, (pq a5 0)), (6, (iv r15)), (7, (pq a1 0))]) ∧ Chg [] w a9 ∧ Own (Nw w []) M a9 (j0 ++ ([a1] ++ ([a5] ++ []))) ∧ rp.val M a9 (sv pa0 pn0 pc0) a_.2 [] ∧ BoxV a9 a5 30 [(iv a_.1), (sv pa0 pn0 pc0)] ∧ BoxV a9 a1 59 [(.pointer none), (iv k), (sv c3 c4 c5)] ∧ (RT.os 34 (RT.os 3 ri)).val M a9 (sv c3 c4 c5) s105 j0) (K := (Xf M w)) ?_ ?_ 0 [] o109 _ _ ?_ m5 ?_)
 ·rintro k107 s105 a a9 ⟨σ, b9, c0, c1, c2, rfl, hC, hO, h0, a0, a2, b3⟩ hlt
  refine zd (c_sr (mi rfl (mi rfl (za _ (zw rfl rfl) (zb (zi (df hlt) (wp_exit ?_)))))))
  have hO := hO.fr2.fr2.fr2
  exact ⟨rfl, _, b9, c0, c1, c2, fr_m 117 rfl, hC, hO, h0, a0, a2, b3⟩
 ·rintro k107 s105 o109 a a9 ⟨σ, b9, c0, c1, c2, rfl, hC, hO, h0, a0, a2, b3⟩ hlt hw hs
  refine zd (c_sr (mi rfl (mi rfl (za _ (zw rfl rfl) (zb (zh (dt hlt) (wp_skip (zd (wp_block (c_sr (mi rfl ?_)))))))))))
  obtain ⟨y116, m6, hs⟩ := bind_some hs
  obtain ⟨c6, c7, c8, m7, m8, m9, f4, n0, h5⟩ := YX (M := M) (w := a9) (r := ri) Rw34 m6 (fun _ _ => ⟨rfl, rfl⟩)
  refine za (w' := m7) (sv c6 c7 c8) (yC rfl rfl m9) ?_
  obtain ⟨h0, a0, a2, b3, hC⟩ := xt5 f4 h0 a0 a2 b3 hC
  have hO := hO.new f4 n0 (zu h5) h5.fpl
  refine ax rfl (zb (zd (c_sr (ms rfl (za _ (zn Sl34 (ZH h5) rfl) (mi rfl (zb ?_)))))))
  obtain ⟨o139, n1, hs⟩ := bind_some hs
  refine wp_block (zT (id := 2) (y116.length : Int) (I := fun k137 s135 a b0 => ∃ (σ : Nv) (e6 : List Nat), a = fr 117 (ovl σ [(1, (iv k)), (2, (pq a5 0)), (6, (iv r15)), (7, (pq a1 0)), (8, (iv k107)), (9, (sv c6 c7 c8)), (48, (iv (y116.length : Int))), (49, (iv k137))]) ∧ Chg [] w b0 ∧ Own (Nw w []) M b0 (e6 ++ (c2 ++ ([a1] ++ ([a5] ++ [])))) ∧ rp.val M b0 (sv pa0 pn0 pc0) a_.2 [] ∧ BoxV b0 a5 30 [(iv a_.1), (sv pa0 pn0 pc0)] ∧ BoxV b0 a1 59 [(.pointer none), (iv k), (sv b9 c0 c1)] ∧ (RT.os 34 (RT.os 3 ri)).val M b0 (sv b9 c0 c1) s105 c2 ∧ (RT.os 3 ri).val M b0 (sv c6 c7 c8) s135 e6) (J := fun s135 a b0 => ∃ (σ : Nv) (f5 : List Nat), a = fr 117 (ovl σ [(1, (iv k)), (2, (pq a5 0)), (6, (iv r15)), (7, (pq a1 0)), (8, (iv k107)), (9, (sv c6 c7 c8))]) ∧ Chg [] w b0 ∧ Own (Nw w []) M b0 (f5 ++ (c2 ++ ([a1] ++ ([a5] ++ [])))) ∧ rp.val M b0 (sv pa0 pn0 pc0) a_.2 [] ∧ BoxV b0 a5 30 [(iv a_.1), (sv pa0 pn0 pc0)] ∧ BoxV b0 a1 59 [(.pointer none), (iv k), (sv b9 c0 c1)] ∧ (RT.os 34 (RT.os 3 ri)).val M b0 (sv b9 c0 c1) s105 c2 ∧ (RT.os 3 ri).val M b0 (sv c6 c7 c8) s135 f5) (K := (Xf M w)) ?_ ?_ 0 y116 o139 _ _ ?_ n1 ?_)
  ·rintro k137 s135 a b0 ⟨σ, e6, rfl, hC, hO, h0, a0, a2, b3, e0⟩ hlt
   refine c_sr (za _ (zw rfl rfl) (zb (zd (zi (df hlt) (wp_exit ?_)))))
   have hO := hO.fr3.fr3.fr3.fr3
   exact ⟨rfl, _, e6, fr_m 117 rfl, hC, hO, h0, a0, a2, b3, e0⟩
  ·rintro k137 s135 o139 a b0 ⟨σ, e6, rfl, hC, hO, h0, a0, a2, b3, e0⟩ hlt hw hs
   refine c_sr (za _ (zw rfl rfl) (zb (zd (zh (dt hlt) (wp_skip (zd (wp_block (c_sr (mi rfl (ai rfl (zb (ze (ms rfl (mi rfl (mi rfl (mi rfl (za (pq a5 0) (zk rfl yO) (za _ (ld rfl Ag3 Sz3 a0 rfl) ?_))))))))))))))))))
   obtain ⟨r144, n2, hs⟩ := bind_some hs
   refine zy Bd34 rfl (wl (M := M) k137 k a_.1  hO.fut n2) ?_
   rintro _ t5 ⟨t6, t7, t8, n3, rfl, e7, j1, n4⟩
   obtain ⟨h0, a0, a2, b3, e0, hC⟩ := xt6 e7 h0 a0 a2 b3 e0 hC
   have hO := Own.join0 hO e7 n4
   have hO := hO.perm (R := n3 ++ (e6 ++ (c2 ++ ([a1] ++ ([a5] ++ []))))) (by simp)
   refine mi rfl ?_
   obtain ⟨x146, n5, hs⟩ := bind_some hs
   obtain ⟨n6, t9, u0, u1, n7, n8, u2⟩ := zS Sl34 Sz3 j1 n5
   refine za _ (ip n7 rfl rfl) (za (iv x146) (zo rfl ((zm Ag3 Sz3 n8) _ (Chg.refl _ _))) ?_)
   obtain ⟨x148, n9, hs⟩ := bind_some hs
   obtain ⟨k8, u3, k9, o0, o1, u4, u5⟩ := zS Sl34 Sz3 e0 n9
   refine za _ (ip o1 rfl rfl) ?_
   have hO := hO.fr1
   obtain ⟨o2, o3, o4, e8, o5, j2⟩ := yH (P := Tryz.prog) (c' := [(iv x146)]) k9 e0 o0 (fun g hg => hO.inM g (zC e0 g (by simpa using hg))) ⟨rfl, rfl⟩ List.nodup_nil (fun _ h => nomatch h) (fun _ h => .inl h)
   have f6 : ∀ q ∈ [k8], q ∈ e6 := fun q hq => zC e0 q (by rw [k9]; exact hq)
   refine Zh (w' := o2) (zY rfl rfl (o4 _ _ rfl Sz3)) ?_
   have h0 := h0.mt e8 hO f6
   have a0 := a0.ap e8 hO f6 (zj (zj (zj mS)))
   have a2 := a2.ap e8 hO f6 (zj (zj mS))
   have b3 := b3.ma e8 hO f6 (fun _ e => (zj (zD (e))))
   have j1 := j1.ma e8 hO f6 (fun _ e => (zD (e)))
   have hC := hC.st e8 hO f6
   have hO := hO.grow e8 (fun q hq => .inl ((o5 q hq).resolve_right (fun h => nomatch h))) (zu j2) j2.fpl
   refine zb (ze (za _ (yad rfl rfl) (mi rfl (zb ?_))))
   cases hs
   have hO := hO.fr1.drop.fr3.fr3.fr3.fr3
   exact ⟨_, o3, zG 117 ⟨rfl, rfl, rfl, rfl, rfl, rfl, rfl, congrArg (Value.int .i64) hw, trivial⟩, hC, hO, h0, a0, a2, b3, j2⟩
  ·skip
   have hO := hO.fr3.fr3.fr3.fr3
   exact ⟨_, m8, fr_m 117 rfl, hC, hO, h0, a0, a2, b3, h5⟩
  cases o139 with
  | nx _ => exact True.intro
  | rt r_ =>
   have hs := zq hs
   intro f3 i5 hK
   cases hs
   exact hK
  | br s135 =>
   have hs := zp hs
   rintro f3 b0 ⟨σ, f5, rfl, hC, hO, h0, a0, a2, b3, j3⟩
   refine ze (mp rfl (mp rfl (za _ (Zs rfl) (za (pq a1 2) (zk rfl uN) (za _ (ld rfl Ag45 Sz45 a2 rfl) (ms rfl ?_))))))
   obtain ⟨l0, h6, o6, l1, e9, l2⟩ := zg b0 [(sv c6 c7 c8)] 34
   refine za (w' := l0) (sv (some ⟨h6, 0, none⟩) 1 1) (zz rfl (by rw [o6, l1]; kernel_rfl)) ?_
   obtain ⟨h0, a0, a2, b3, j3, hC⟩ := xt6 e9 h0 a0 a2 b3 j3 hC
   have hO := (hO.new1 e9 l1 l2.lt).perm (R := (h6 :: ((f5) ++ [])) ++ (c2 ++ ([a1] ++ ([a5] ++ [])))) (by simp)
   have o7 := hO.nd
   have j4 := Zn (r := (RT.os 3 ri)) (M := M) (css := [[(sv c6 c7 c8)]]) (fps := [(f5 : List Nat)]) (xs := ([s135] : tM)) l2 ⟨(ZJ j3), trivial⟩ (nl rfl) o7
   have j4 : (RT.os 34 (RT.os 3 ri)).val M l0 (sv (some ⟨h6, 0, none⟩) 1 1) [s135] (h6 :: ((f5) ++ [])) := j4
   obtain ⟨y154, o8, hs⟩ := bind_some hs
   have hO := hO.fr1
   obtain ⟨h7, h8, h9, o9, p0, p1, g3, p2, g4⟩ := ya Rw45 o8 b3 j4 hO.inM (fun g hg hq => hO.apart g hq (zD hg))
   have i0 := zC b3
   refine za (w' := o9) (sv h7 h8 h9) (zN rfl rfl (p1 _)) ?_
   have hO := hO.fr1.fr1
   have h0 := h0.mt g3 hO i0
   have a0 := a0.ap g3 hO i0 (zj (zj mS))
   have a2 := a2.ap g3 hO i0 (zj mS)
   have hC := hC.st g3 hO i0
   have hO := hO.eat g3 p2 (zu g4) g4.fpl
   refine za _ (Zs rfl) (za (pq a1 2) (zk rfl uN) ?_)
   obtain ⟨l3, p3, g5, j5⟩ := Zx (P := Tryz.prog) a2 [(.pointer none), (iv k)] [(sv b9 c0 c1)] [] [(sv h7 h8 h9)] rfl rfl (oc rfl)
   refine Zh (w' := l3) (zY rfl rfl (p3 _ _ rfl Sz45)) ?_
   have hO := hO.fr1
   have h0 := h0.mt g5 hO zl
   have a0 := a0.ap g5 hO zl (zj mS)
   have g4 := g4.ma g5 hO zl (fun _ e => (zD (e)))
   have hC := hC.st g5 hO zl
   have hO := hO.ext g5
   have j5 : BoxV l3 a1 59 [(.pointer none), (iv k), (sv h7 h8 h9)] := j5
   refine zb (ze (mi rfl (za _ (yad rfl rfl) (ai rfl (zb ?_)))))
   cases hs
   have hO := hO.fr2.fr1.fr2
   exact ⟨_, h7, h8, h9, p0, zG 117 ⟨rfl, rfl, rfl, rfl, congrArg (Value.int .i64) hw, trivial⟩, hC, hO, h0, a0, j5, g4⟩
 ·skip
  have hO := hO.fr1.fr1.nil
  exact ⟨_, none, 0, 0, [], fr_m 117 rfl, hC, hO, h0, a0, a2, xJ⟩
 cases o109 with
 | nx _ => exact True.intro
 | rt r_ =>
  have hs := zq hs
  intro f3 i5 hK
  cases hs
  exact hK
 | br s105 =>
  have hs := zp hs
  rintro f3 a9 ⟨σ, c3, c4, c5, j0, rfl, hC, hO, h0, a0, a2, j6⟩
  refine zd (zQ [] Mx rfl ?_)
  have f0 := Chg.drew a9
  generalize World.drew a9 = b5 at f0 ⊢
  obtain ⟨h0, a0, a2, j6, hC, hO⟩ := xt6 f0 h0 a0 a2 j6 hC hO
  have hS := Chg.refl [] b5
  refine xl 0 rfl (ldxw rfl Ag30 a0 Sz30) hS (xmi 1 rfl rfl hS (xmp 2 rfl rfl hS (xq 3 _ rfl (Zs rfl) hS (xq 4 (pq a1 2) rfl (zk rfl uN) hS (xl 5 rfl (ldx rfl Ag45 Sz45 a2 rfl) hS (zI (i := 6) (by kernel_rfl) ?_))))))
  obtain ⟨b1, u6, p4, p5, hO, a4⟩ := xH (Frz.os (Frz.os Frz.int)) j6 hO
  have h0 := h0.sub p4
  have hK := p5
  obtain ⟨r167, p6, hs⟩ := bind_some hs
  refine zL (b := false) rfl Bd58 rfl (uT (M := b1) (a_.1, a_.2) r15 s105 h0 a4 hO.fut p6) rfl (by rintro _ _ _ ⟨f7, b4, rfl, d7, l4, l5⟩; exact hS.ext d7) ?_
  rintro _ b6 ⟨f7, b4, rfl, d7, l4, l5⟩
  have hO := hO.perm (R := [] ++ ([a1] ++ ([a5] ++ []))) (by simp)
  have p7 := Own.pastL hO d7 l5
  have hK := hK.trans (show KeepsF w [] b1 (PastL b1 [] b5 b6 (b4 ++ [])) from KeepsF.pastL hC.size (fun g hg => (hO.inN g hg)))
  obtain ⟨h0, a0, a2, a4, hC⟩ := xt5 d7 h0 a0 a2 a4 hC
  have hO := p7
  have h0 := h0.sub (M' := (PastL b1 [] b5 b6 (b4 ++ []))) (fun g hg => .inl hg.1)
  have a4 := a4.sub (M' := (PastL b1 [] b5 b6 (b4 ++ []))) (fun g hg => .inl hg.1)
  have hO := hO.perm (R := b4 ++ ([a1] ++ ([a5] ++ []))) (by simp)
  have hS := hS.ext d7
  refine xq 7 (.tuple #[f7, (.bool r167.2)]) rfl (zx rfl) hS (xq 8 f7 rfl (zH rfl (by kernel_rfl)) hS (xq 9 (.bool r167.2) rfl (zH rfl (by kernel_rfl)) hS (xq 10 f7 rfl (zA rfl) hS (xq 11 (.bool r167.2) rfl (zA rfl) hS (xe ?_)))))
  clear hS
  refine zd (c_sr (mb rfl (za _ (ZA rfl) (zb ?_))))
  rcases zf hs with ⟨j7, hs⟩ | ⟨j7, hs⟩
  ·refine zh (cb j7) (c_sr (za (.pointer none) (zA rfl) (ab rfl (zb (wp_ret ?_)))))
   cases hs
   have hO := hO.drop.drop.drop.nil
   exact ⟨_, (.pointer none), [], fr_m 117 rfl, hC, VY, hO.top⟩
  refine zi (cb j7) (wp_skip (c_sr (za f7 (zx rfl) (za f7 (zx rfl) ?_))))
  obtain ⟨p171, p8, hs⟩ := bind_some hs
  obtain ⟨a3, rfl, p9⟩ := op_get l4 p8
  obtain ⟨u7, u9, q0, f8, q1⟩ := zae p9
  obtain ⟨v0, v1, v2, v3, rfl, rfl, q2, q3⟩ := q1
  obtain ⟨v4, v5, v6, v7, rfl, rfl, q4, q5⟩ := q2
  obtain ⟨rfl, rfl⟩ := q4
  obtain ⟨d1, d2, d3, rfl, rfl, a7⟩ := zac q5
  obtain ⟨v8, v9, w1, w2, rfl, rfl, q6, q7⟩ := q3
  obtain ⟨rfl, rfl⟩ := q6
  obtain ⟨w3, w4, j8, j9, rfl, rfl, q8, q9⟩ := q7
  obtain ⟨i1, i2, i3, rfl, g6⟩ := os_rel' q8
  obtain ⟨c9, rfl, g7⟩ := mo_rel' q9
  have f8 : BoxV b6 a3 90 [(iv p171.1.1), (sv d1 d2 d3), (iv p171.2.1), (sv i1 i2 i3), (.map (some c9))] := f8
  have hO := hO.perm (R := [a3] ++ (j8 ++ (j9 ++ ([a1] ++ ([a5] ++ []))))) (by rw [q0]; simp)
  refine za _ (Zs rfl) (za (pq a3 3) (zk rfl YD) (za _ (ld rfl Ag45 Sz45 f8 rfl) ?_))
  have hO := hO.fr1
  obtain ⟨r177, r0, hs⟩ := bind_some hs
  refine zy Bd59 rfl (WG (M := (Less (PastL b1 [] b5 b6 (b4 ++ [])) j8)) p171.2.2.1 (((Frz.os (Frz.rs Frz.int))).val g6 Less.sub Less.not) hO.less.fut r0) ?_
  rintro _ w5 ⟨d4, d5, d6, f9, rfl, d8, a8, r1⟩
  obtain ⟨a0, a2, a4, a7, g6, g7, f8, hC⟩ := xt8 d8 a0 a2 a4 a7 g6 g7 f8 hC
  have hO := Own.join0 hO d8 r1
  have hO := hO.perm (R := f9 ++ (j8 ++ ([a3] ++ (j9 ++ ([a1] ++ ([a5] ++ [])))))) (by simp)
  have a8 := a8.free (M' := (PastL b1 [] b5 b6 (b4 ++ []))) (Free.os (Free.os Free.int))
  refine za _ (Zs rfl) (za (pq a3 3) (zk rfl YD) ?_)
  obtain ⟨l6, r2, d9, b2⟩ := Zx (P := Tryz.prog) f8 [(iv p171.1.1), (sv d1 d2 d3), (iv p171.2.1)] [(sv i1 i2 i3)] [(.map (some c9))] [(sv d4 d5 d6)] rfl rfl (oc rfl)
  refine Zh (w' := l6) (zY rfl rfl (r2 _ _ rfl Sz45)) ?_
  have hO := hO.fr2
  have a0 := a0.ap d9 hO zl (zj (zj (zj (zj mS))))
  have a2 := a2.ap d9 hO zl (zj (zj (zj mS)))
  have a4 := a4.mt d9 hO zl
  have a7 := a7.mt d9 hO zl
  have g6 := g6.ma d9 hO zl (fun _ e => (zj (zD (e))))
  have g7 := g7.ma d9 hO zl (fun _ e => (zj (zj (zD (e)))))
  have a8 := a8.ma d9 hO zl (fun _ e => (zD (e)))
  have hC := hC.st d9 hO zl
  have hO := hO.ext d9
  have b2 : BoxV l6 a3 90 [(iv p171.1.1), (sv d1 d2 d3), (iv p171.2.1), (sv d4 d5 d6), (.map (some c9))] := b2
  refine zb (zd (c_sr (mp rfl (za _ (Zs rfl) (za (pq a3 3) (zk rfl YD) (za _ (ld rfl Ag45 Sz45 b2 rfl) (za _ (zn Sl45 (ZH a8) rfl) (mi rfl (zb ?_)))))))))
  have hO := hO.fr2.drop.fr4.drop
  obtain ⟨o201, r3, hs⟩ := bind_some hs
  refine wp_block (zT (id := 4) (r177.length : Int) (I := fun k199 s197 a a6 => ∃ (σ : Nv) (g0 : List Nat), a = fr 117 (ovl σ [(7, (pq a1 0)), (11, (pq a3 0)), (97, (sv d4 d5 d6)), (98, (iv (r177.length : Int))), (99, (iv k199))]) ∧ Chg [] w a6 ∧ Own (Nw w []) (PastL b1 [] b5 b6 (b4 ++ [])) a6 ([a3] ++ (f9 ++ (g0 ++ ([a1] ++ [])))) ∧ BoxV a6 a1 59 [(.pointer none), (iv k), (sv c3 c4 c5)] ∧ rm.val (PastL b1 [] b5 b6 (b4 ++ [])) a6 (sv c3 c4 c5) s105 [] ∧ rp.val (PastL b1 [] b5 b6 (b4 ++ [])) a6 (sv d1 d2 d3) p171.1.2 [] ∧ (RT.mo (Value.int .i64)).val (PastL b1 [] b5 b6 (b4 ++ [])) a6 (.map (some c9)) s197 g0 ∧ BoxV a6 a3 90 [(iv p171.1.1), (sv d1 d2 d3), (iv p171.2.1), (sv d4 d5 d6), (.map (some c9))] ∧ (RT.os 34 (RT.os 3 ri)).val (PastL b1 [] b5 b6 (b4 ++ [])) a6 (sv d4 d5 d6) r177 f9) (J := fun s197 a a6 => ∃ (σ : Nv) (e1 : List Nat), a = fr 117 (ovl σ [(7, (pq a1 0)), (11, (pq a3 0))]) ∧ Chg [] w a6 ∧ Own (Nw w []) (PastL b1 [] b5 b6 (b4 ++ [])) a6 ([a3] ++ (f9 ++ (e1 ++ ([a1] ++ [])))) ∧ BoxV a6 a1 59 [(.pointer none), (iv k), (sv c3 c4 c5)] ∧ rm.val (PastL b1 [] b5 b6 (b4 ++ [])) a6 (sv c3 c4 c5) s105 [] ∧ rp.val (PastL b1 [] b5 b6 (b4 ++ [])) a6 (sv d1 d2 d3) p171.1.2 [] ∧ (RT.mo (Value.int .i64)).val (PastL b1 [] b5 b6 (b4 ++ [])) a6 (.map (some c9)) s197 e1 ∧ BoxV a6 a3 90 [(iv p171.1.1), (sv d1 d2 d3), (iv p171.2.1), (sv d4 d5 d6), (.map (some c9))] ∧ (RT.os 34 (RT.os 3 ri)).val (PastL b1 [] b5 b6 (b4 ++ [])) a6 (sv d4 d5 d6) r177 f9) (K := (Xf M w)) ?_ ?_ 0 p171.2.2.2 o201 _ _ ?_ r3 ?_)
  ·rintro k199 s197 a a6 ⟨σ, g0, rfl, hC, hO, a2, a4, a7, f1, b2, a8⟩ hlt
   refine c_sr (za _ (zw rfl rfl) (zb (zd (zi (df hlt) (wp_exit ?_)))))
   have hO := hO.fr3.fr3.fr3.fr3
   exact ⟨rfl, _, g0, fr_m 117 rfl, hC, hO, a2, a4, a7, f1, b2, a8⟩
  ·rintro k199 s197 o201 a a6 ⟨σ, g0, rfl, hC, hO, a2, a4, a7, f1, b2, a8⟩ hlt hw hs
   refine c_sr (za _ (zw rfl rfl) (zb (zd (zh (dt hlt) (wp_skip (zd (wp_block (c_sr (mi rfl ?_)))))))))
   obtain ⟨x205, r4, hs⟩ := bind_some hs
   obtain ⟨r5, w6, w7, w8, r6, r8, r9⟩ := zS Sl45 Sz34 a8 r4
   have s0 := ZG (Frz.os Frz.int) r8 r9
   refine za _ (ip r6 rfl rfl) ?_
   obtain ⟨w9, s1, hrow207, e2⟩ := ZR Ag34 Sz34 rfl rfl s0
   obtain ⟨k0, k1, k2, rfl⟩ := yl e2
   refine za (sv k0 k1 k2) (zo rfl (s1 _ (Chg.refl _ _))) (ai rfl (ax rfl (zb (zQ [7] Mx rfl ?_))))
   have d0 := Chg.drew a6
   generalize World.drew a6 = s2 at d0 ⊢
   obtain ⟨a2, a4, a7, f1, b2, a8, e2, hrow207⟩ := xt8 d0 a2 a4 a7 f1 b2 a8 e2 hrow207
   obtain ⟨hC, hO⟩ := xt2 d0 hC hO
   have hS := Chg.refl [] s2
   refine xmp 0 rfl rfl hS (xq 1 _ rfl (Zs rfl) hS (xq 2 (pq a3 4) rfl (zk rfl Va) hS (xl 3 rfl (ldx rfl Ag88 Sz88 b2 rfl) hS (xms 4 rfl rfl hS (xmi 6 rfl rfl hS (zI (i := 5) (by kernel_rfl) ?_))))))
   have hO := hO.fr1
   obtain ⟨r211, s4, hs⟩ := bind_some hs
   refine zL (b := false) rfl Bd60 rfl (xc (M := (Less (PastL b1 [] b5 b6 (b4 ++ [])) f9)) x205 e2 hO.less.fut s4) rfl (by rintro _ _ _ ⟨rfl, b8⟩; exact hS.ext b8) ?_
   rintro _ x0 ⟨rfl, b8⟩
   obtain ⟨a2, a4, a7, f1, b2, a8, e2, hrow207⟩ := xt8 b8 a2 a4 a7 f1 b2 a8 e2 hrow207
   obtain ⟨hC, hO, hS⟩ := xt3 b8 hC hO hS
   refine zI (i := 7) (by kernel_rfl) ?_
   have hO := hO.fr2
   obtain ⟨s5, s6, e3, s7⟩ := mo_put (P := Tryz.prog) (t := 88) (key := r211) (x := k199) Tryz.underlying88 Tryz.underlying9 f1
   refine zat (w' := s5) (b := true) rfl (ys_put rfl rfl rfl s6) rfl (fun h => nomatch h) ?_
   have a2 := a2.ap e3 hO zl (zj (zj mS))
   have a4 := a4.mt e3 hO zl
   have a7 := a7.mt e3 hO zl
   have b2 := b2.ap e3 hO zl (zj mS)
   have a8 := a8.ma e3 hO zl (fun _ e => (zD (e)))
   have e2 := e2.mut e3 (fun g hg => ⟨hO.inM g ((fun _ h => h) g hg), fun e => hO.apart g ((fun _ h => h) g hg) (zD (e))⟩) (fun _ _ h => nomatch h)
   have hC := hC.st e3 hO zl
   have hO := hO.ext e3
   refine xe ?_
   clear hS
   refine ze (za _ (yad rfl rfl) (mi rfl (zb ?_)))
   cases hs
   have hO := hO.fr3.fr1.fr2.fr3
   exact ⟨_, g0, zG 117 ⟨rfl, rfl, rfl, rfl, congrArg (Value.int .i64) hw, trivial⟩, hC, hO, a2, a4, a7, s7, b2, a8⟩
  ·skip
   have hO := hO.fr3.fr3.fr3.fr3
   exact ⟨_, j9, fr_m 117 rfl, hC, hO, a2, a4, a7, g7, b2, a8⟩
  cases o201 with
  | nx _ => exact True.intro
  | rt r_ =>
   have hs := zq hs
   intro f3 i5 hK
   cases hs
   exact hK
  | br s197 =>
   have hs := zp hs
   rintro f3 a6 ⟨σ, e1, rfl, hC, hO, a2, a4, a7, g8, b2, a8⟩
   refine c_sr (mp rfl (mp rfl (za _ (Zs rfl) (za (pq a1 0) (zk rfl vq) ?_))))
   obtain ⟨i4, s8, f2, k3⟩ := Zx (P := Tryz.prog) a2 [] [(.pointer none)] [(iv k), (sv c3 c4 c5)] [(pq a3 0)] rfl rfl (oc rfl)
   refine Zh (w' := i4) (zY rfl rfl (s8 _ _ rfl Sz57)) ?_
   have hO := hO.fr3
   have a4 := a4.mt f2 hO zl
   have a7 := a7.mt f2 hO zl
   have g8 := g8.ma f2 hO zl (fun _ e => (zj (zj (zD (e)))))
   have b2 := b2.ap f2 hO zl mS
   have a8 := a8.ma f2 hO zl (fun _ e => (zj (zD (e))))
   have hC := hC.st f2 hO zl
   have hO := hO.ext f2
   have k3 : BoxV i4 a1 59 [(pq a3 0), (iv k), (sv c3 c4 c5)] := k3
   refine zb (c_sr (mp rfl (ap rfl (ab rfl (zb (wp_ret ?_))))))
   have hO := hO.fr2
   obtain ⟨g9, h1, k4, s9, hO, t0⟩ := Uw (Frz.os Frz.int) a8 hO
   have a4 := a4.sub k4
   have a7 := a7.sub k4
   have g8 := g8.sub k4
   have hK := hK.trans s9
   have hO := hO.fr3.fr1.fr3.perm (R := (a3 :: ((([] : List Nat) ++ ([] : List Nat)) ++ (([] : List Nat) ++ (h1 ++ e1)))) ++ ([a1] ++ [])) (by simp)
   have t1 : (RT.po 90 (RT.pr (RT.pr ri rp) (RT.pr ri (RT.pr (RT.os 34 rl) (RT.mo (Value.int .i64)))))).val g9 i4 (pq a3 0) ((p171.1.1, p171.1.2), p171.2.1, r177, s197) (a3 :: ((([] : List Nat) ++ ([] : List Nat)) ++ (([] : List Nat) ++ (h1 ++ e1)))) := UU b2 ⟨_, _, _, _, rfl, rfl, ⟨_, _, _, _, rfl, rfl, ⟨rfl, rfl⟩, (yI a7)⟩, ⟨_, _, _, _, rfl, rfl, ⟨rfl, rfl⟩, ⟨_, _, _, _, rfl, rfl, (ZJ t0), (zbu g8)⟩⟩⟩ hO.nd
   have hO := hO.fr1.perm (R := (a1 :: ((a3 :: ((([] : List Nat) ++ ([] : List Nat)) ++ (([] : List Nat) ++ (h1 ++ e1)))) ++ (([] : List Nat) ++ ([] : List Nat)))) ++ []) (by simp)
   have t2 : (RT.po 59 (RT.pr (RT.po 90 (RT.pr (RT.pr ri rp) (RT.pr ri (RT.pr (RT.os 34 rl) (RT.mo (Value.int .i64)))))) (RT.pr ri rm))).val g9 i4 (pq a1 0) (((p171.1.1, p171.1.2), p171.2.1, r177, s197), k, s105) (a1 :: ((a3 :: ((([] : List Nat) ++ ([] : List Nat)) ++ (([] : List Nat) ++ (h1 ++ e1)))) ++ (([] : List Nat) ++ ([] : List Nat)))) := UU k3 ⟨_, _, _, _, rfl, rfl, (po_unval t1), ⟨_, _, _, _, rfl, rfl, ⟨rfl, rfl⟩, (yI a4)⟩⟩ hO.nd
   cases hs
   exact ⟨_, (pq a1 0), (a1 :: ((a3 :: ((([] : List Nat) ++ ([] : List Nat)) ++ (([] : List Nat) ++ (h1 ++ e1)))) ++ (([] : List Nat) ++ ([] : List Nat)))), fr_m 117 rfl, hC, (KeepsF.out hK hO.allM (op_some t2)), hO.top⟩

def WR (M : Nat → Prop) (w0 : World) (r : (List Int)) (a : Act) (w : World) : Prop :=
  ∃ (σ : Nv) (ra0 : OA) (rn0 rc0 : Nat) (rf0 : List Nat), a = fr 21 (ovl σ [(2, (sv ra0 rn0 rc0))]) ∧ Chg [] w0 w ∧ (RT.os 3 ri).val M w (sv ra0 rn0 rc0) r rf0 ∧ Own (Nw w0 []) (fun _ => True) w (rf0 ++ [])
def YO (a_ : Int × (List (Int × (List Int)))) : Option ((List Int)) :=
  (forR (S := (List Int)) (R := (List Int)) (fun _ x20 s17 =>
  (app s17 ([x20.1])).bind fun y35 =>
  some (.nx y35)) 0 a_.2 ([])).bind fun o21 => after o21 (fun r_ => some r_) (fun s17 =>
  some s17)
theorem ve {M : Nat → Prop} {w : World} {pa0 : OA} {pn0 pc0 : Nat} (a_ : tA) (h0 : rp.val M w (sv pa0 pn0 pc0) a_.2 []) (hM : Hm w M) {r : (List Int)} (hs : YO a_ = some r) :
    Gives Tryz.prog 104 [(.agg #[(iv a_.1), (sv pa0 pn0 pc0)])] w (fun v w' => ∃ (ra0 : OA) (rn0 rc0 : Nat) (rf0 : List Nat), v = (sv ra0 rn0 rc0) ∧ Chg [] w w' ∧ (RT.os 3 ri).val M w' (sv ra0 rn0 rc0) r rf0 ∧ Own (Nw w []) (fun _ => True) w' (rf0 ++ [])) := by
 refine zr Tryz.func104 rfl Tryz.ntmps104 (nl rfl) ?_
 have hO := Own.start (N := Nw w []) hM Nw.fut
 have hC := Chg.refl [] w
 unfold YO at hs
 refine wp_k (K := (WR M w r)) (by rintro _ _ ⟨σ, ra0, rn0, rc0, rf0, rfl, hrest⟩; exact Za Tryz.results104 (zB rfl) ⟨ra0, rn0, rc0, rf0, rfl, hrest⟩) (c_sr ?_)
 obtain ⟨d5, d6, e7, d7, c4, b7⟩ := zg w [(iv a_.1), (sv pa0 pn0 pc0)] 30
 refine za (w' := d5) (pq d6 0) (Zj rfl (by rw [e7, d7]; kernel_rfl)) ?_
 obtain ⟨h0, hC⟩ := xt2 c4 h0 hC
 have hO := hO.new1 c4 d7 b7.lt
 refine ax rfl (zb (c_sr ?_))
 obtain ⟨d8, a5, e8, d9, b8, e0⟩ := zg d5 [] 3
 refine za (w' := d8) (sv (some ⟨a5, 0, none⟩) 0 0) (zz rfl (by rw [e8, d9]; kernel_rfl)) ?_
 obtain ⟨h0, b7, hC⟩ := xt3 b8 h0 b7 hC
 have hO := hO.new1 b8 d9 e0.lt
 have c5 := os0 (r := ri) (M := M) e0
 refine ax rfl (zb (zd (c_sr (za (pq d6 1) (zk rfl Zq) (za _ (ld rfl Ag28 Sz28 b7 rfl) (za _ (zn Sl28 (zt h0) rfl) (mi rfl (zb ?_))))))))
 have hO := hO.fr1.drop
 obtain ⟨o21, e9, hs⟩ := bind_some hs
 refine wp_block (YE (id := 0) (I := fun i_ xs_ s17 a a0 => ∃ a2 : Nat, i_ = (a2 : Int) ∧ List.drop a2 a_.2 = xs_ ∧ (∃ (σ : Nv) (a6 : OA) (a7 : Nat) (a8 : Nat) (b4 : List Nat), a = fr 21 (ovl σ [(3, (sv a6 a7 a8)), (8, (sv pa0 pn0 pc0)), (9, (iv (a_.2.length : Int))), (10, (iv (a2 : Int)))]) ∧ Chg [] w a0 ∧ Own (Nw w []) M a0 (b4 ++ []) ∧ rp.val M a0 (sv pa0 pn0 pc0) a_.2 [] ∧ (RT.os 3 ri).val M a0 (sv a6 a7 a8) s17 b4)) (J := fun s17 a a0 => ∃ (σ : Nv) (a9 : OA) (b0 : Nat) (b1 : Nat) (b9 : List Nat), a = fr 21 (ovl σ [(3, (sv a9 b0 b1))]) ∧ Chg [] w a0 ∧ Own (Nw w []) M a0 (b9 ++ []) ∧ rp.val M a0 (sv pa0 pn0 pc0) a_.2 [] ∧ (RT.os 3 ri).val M a0 (sv a9 b0 b1) s17 b9) (K := (WR M w)) ?_ ?_ a_.2 0 [] o21 _ _ ?_ e9 ?_)
 ·rintro _ s17 a a0 ⟨a2, rfl, hd, σ, a6, a7, a8, b4, rfl, hC, hO, h0, a1⟩
  have hlt := ZI hd
  refine c_sr (za _ (zw rfl rfl) (zb (zd (zi (df hlt) (wp_exit ?_)))))
  exact ⟨rfl, _, a6, a7, a8, b4, fr_m 21 rfl, hC, hO, h0, a1⟩
 ·rintro _ x20 xs_ s17 o21 a a0 ⟨a2, rfl, hd, σ, a6, a7, a8, b4, rfl, hC, hO, h0, a1⟩ hs
  have hlt := ZB hd
  have f0 := Zt hd
  refine c_sr (za _ (zw rfl rfl) (zb (zd (zh (dt hlt) (wp_skip (zd (wp_block (c_sr ?_))))))))
  obtain ⟨f1, f2, f3, c6⟩ := zK Sl28 Sz77 h0 f0
  refine za _ (ip f3 rfl rfl) ?_
  obtain ⟨h1, f4, f5⟩ := Zc Ag77 Sz77 (by intro h; cases h) c6
  obtain ⟨h2, rfl, f6⟩ := f5
  obtain ⟨h3, h4, rfl, f7, f8⟩ := Yn f6
  obtain rfl := Yx f7
  obtain ⟨c0, c1, c2, rfl, a3⟩ := YV f8
  refine za (.agg #[(iv x20.1), (sv c0 c1 c2)]) (zo rfl (f4 _ (Chg.refl _ _))) ?_
  obtain ⟨f9, c7, g0, e1, b2, e2⟩ := zg a0 [(iv 0), (sv none 0 0)] 77
  refine za (w' := f9) (pq c7 0) (YF (by rw [g0, e1]; kernel_rfl)) ?_
  obtain ⟨h0, a1, a3, c6, hC⟩ := xt5 b2 h0 a1 a3 c6 hC
  have hO := hO.new1 b2 e1 e2.lt
  obtain ⟨c8, g1, b5, a4⟩ := Zx (P := Tryz.prog) e2 [] [(iv 0), (sv none 0 0)] [] [(iv x20.1), (sv c0 c1 c2)] rfl rfl (oc rfl)
  refine Zh (w' := c8) (zY rfl rfl (g1 _ _ rfl Sz77)) ?_
  have h0 := h0.mt b5 hO zl
  have a1 := a1.ma b5 hO zl (fun _ e => (zD (e)))
  have a3 := a3.mt b5 hO zl
  have hC := hC.st b5 hO zl
  have hO := hO.ext b5
  have a4 : BoxV c8 c7 77 [(iv x20.1), (sv c0 c1 c2)] := a4
  refine zb (ze (ms rfl (za (pq c7 0) (zk rfl ZP) (za _ (ld rfl Ag3 Sz3 a4 rfl) ?_))))
  obtain ⟨e3, c9, g2, e4, b3, e5⟩ := zg c8 [(iv x20.1)] 3
  refine za (w' := e3) (sv (some ⟨c9, 0, none⟩) 1 1) (zz rfl (by rw [g2, e4]; kernel_rfl)) ?_
  obtain ⟨h0, a1, a3, a4, hC⟩ := xt5 b3 h0 a1 a3 a4 hC
  have hO := hO.new1 b3 e4 e5.lt
  have d0 := os1 (M := M) e5
  obtain ⟨y35, g3, hs⟩ := bind_some hs
  have hO := hO.fr2
  obtain ⟨d1, d2, d3, g4, g5, g6, b6, g7, d4⟩ := ya Rw34 g3 a1 d0 hO.inM (fun g hg hq => hO.apart g hq (zD hg))
  have c3 := zC a1
  refine za (w' := g4) (sv d1 d2 d3) (zN rfl rfl (g6 _)) ?_
  have hO := hO.fr1.fr1
  have h0 := h0.mt b6 hO c3
  have a3 := a3.mt b6 hO c3
  have a4 := a4.ap b6 hO c3 (zj mS)
  have hC := hC.st b6 hO c3
  have hO := hO.eat b6 g7 (zu d4) d4.fpl
  refine ax rfl (zb (ze (za _ (yad rfl rfl) (mi rfl (zb ?_)))))
  cases hs
  have hO := hO.fr1.drop
  exact ⟨_, rfl, Zk hd, _, d1, d2, d3, g5, zG 21 ⟨rfl, rfl, rfl, congrArg (Value.int .i64) (Yc hlt (Int.natCast_nonneg _) (Xo h0)), trivial⟩, hC, hO, h0, d4⟩
 ·skip
  exact ⟨0, rfl, rfl, _, (some ⟨a5, 0, none⟩), 0, 0, [a5], fr_m 21 rfl, hC, hO, h0, c5⟩
 cases o21 with
 | nx _ => exact True.intro
 | rt r_ =>
  have hs := zq hs
  intro g8 e6 hK
  cases hs
  exact hK
 | br s17 =>
  have hs := zp hs
  rintro g8 a0 ⟨σ, a9, b0, b1, b9, rfl, hC, hO, h0, g9⟩
  refine c_sr (ms rfl (ax rfl (zb (wp_ret ?_))))
  cases hs
  exact ⟨_, a9, b0, b1, b9, fr_m 21 rfl, hC, g9, hO.top⟩

def wR (M : Nat → Prop) (w0 : World) (r : Bool) (a : Act) (w : World) : Prop :=
  ∃ (σ : Nv) , a = fr 26 (ovl σ [(4, (.bool r))]) ∧ Chg [] w0 w
def YI (a_ : List Int) (b : List Int) : Option (Bool) :=
  (bif ((a_.length : Int) != (b.length : Int)) then some false else (forC (S := Unit) (R := Bool) (fun k11 s9 =>
  (idx a_ k11).bind fun x15 =>
  (idx b k11).bind fun x17 =>
  (bif (x17 != x15) then some (.rt false) else some (.nx ()))) 0 (a_.length : Int) ()).bind fun o13 => after o13 (fun r_ => some r_) (fun s9 =>
  some true))
theorem VL {M : Nat → Prop} {w : World} {pa0 : OA} {pn0 pc0 : Nat} {pa1 : OA} {pn1 pc1 : Nat} (a_ : List Int) (b : List Int) (h0 : rl.val M w (sv pa0 pn0 pc0) a_ []) (h1 : rl.val M w (sv pa1 pn1 pc1) b []) (hM : Hm w M) {r : Bool} (hs : YI a_ b = some r) :
    Gives Tryz.prog 103 [(sv pa0 pn0 pc0), (sv pa1 pn1 pc1)] w (fun v w' => v = (.bool r) ∧ Chg [] w w') := by
 refine zr Tryz.func103 rfl Tryz.ntmps103 (nl rfl) ?_
 have hO := Own.start (N := Nw w []) hM Nw.fut
 have hC := Chg.refl [] w
 unfold YI at hs
 refine wp_k (K := (wR M w r)) (by rintro _ _ ⟨σ, rfl, hrest⟩; exact Za Tryz.results103 (zB rfl) ⟨rfl, hrest⟩) (c_sr (ab rfl (zb (zd (c_sr (ms rfl (za _ (zn Sl34 (zt h0) rfl) (ms rfl (za _ (zn Sl34 (zt h1) rfl) (za (.bool ((a_.length : Int) != (b.length : Int))) (YJ rfl rfl) (zb ?_)))))))))))
 rcases zf hs with ⟨a1, hs⟩ | ⟨a1, hs⟩
 ·refine zh (cb a1) (c_sr (ab rfl (zb (wp_ret ?_))))
  cases hs
  exact ⟨_, fr_m 26 rfl, hC⟩
 refine zi (cb a1) (wp_skip (zd (c_sr (ms rfl (za _ (zn Sl34 (zt h0) rfl) (mi rfl (zb ?_)))))))
 obtain ⟨o13, a4, hs⟩ := bind_some hs
 refine wp_block (zT (id := 0) (a_.length : Int) (I := fun k11 s9 a a0 => ∃ (σ : Nv), a = fr 26 (ovl σ [(1, (sv pa1 pn1 pc1)), (12, (sv pa0 pn0 pc0)), (13, (iv (a_.length : Int))), (14, (iv k11))]) ∧ Chg [] w a0 ∧ Own (Nw w []) M a0 [] ∧ rl.val M a0 (sv pa0 pn0 pc0) a_ [] ∧ rl.val M a0 (sv pa1 pn1 pc1) b []) (J := fun s9 a a0 => ∃ (σ : Nv), a = fr 26 (ovl σ []) ∧ Chg [] w a0 ∧ Own (Nw w []) M a0 [] ∧ rl.val M a0 (sv pa0 pn0 pc0) a_ [] ∧ rl.val M a0 (sv pa1 pn1 pc1) b []) (K := (wR M w)) ?_ ?_ 0 () o13 _ _ ?_ a4 ?_)
 ·rintro k11 s9 a a0 ⟨σ, rfl, hC, hO, h0, h1⟩ hlt
  refine c_sr (za _ (zw rfl rfl) (zb (zd (zi (df hlt) (wp_exit ?_)))))
  exact ⟨rfl, _, zG 26 trivial, hC, hO, h0, h1⟩
 ·rintro k11 s9 o13 a a0 ⟨σ, rfl, hC, hO, h0, h1⟩ hlt hw hs
  refine c_sr (za _ (zw rfl rfl) (zb (zd (zh (dt hlt) (wp_skip (zd (wp_block (c_sr (mi rfl ?_)))))))))
  obtain ⟨x15, a5, hs⟩ := bind_some hs
  obtain ⟨a6, a7, a8, a9⟩ := zK Sl34 Sz3 h0 a5
  refine za _ (ip a8 rfl rfl) (za (iv x15) (zo rfl ((zm Ag3 Sz3 a9) _ (Chg.refl _ _))) (ai rfl (ai rfl (zb (c_sr (ms rfl (mi rfl ?_)))))))
  obtain ⟨x17, b0, hs⟩ := bind_some hs
  obtain ⟨b1, b2, b3, b4⟩ := zK Sl34 Sz3 h1 b0
  refine za _ (ip b3 rfl rfl) (za (iv x17) (zo rfl ((zm Ag3 Sz3 b4) _ (Chg.refl _ _))) (mi rfl (za (.bool (x17 != x15)) (YJ rfl rfl) (zb ?_))))
  rcases zf hs with ⟨a2, hs⟩ | ⟨a2, hs⟩
  ·refine zh (cb a2) (c_sr (ab rfl (zb (wp_ret ?_))))
   cases hs
   exact ⟨_, fr_m 26 rfl, hC⟩
  refine zi (cb a2) (wp_skip (ze (za _ (yad rfl rfl) (mi rfl (zb ?_)))))
  cases hs
  exact ⟨_, zG 26 ⟨rfl, rfl, rfl, congrArg (Value.int .i64) hw, trivial⟩, hC, hO, h0, h1⟩
 ·skip
  exact ⟨_, fr_m 26 rfl, hC, hO, h0, h1⟩
 cases o13 with
 | nx _ => exact True.intro
 | rt r_ =>
  have hs := zq hs
  intro b5 a3 hK
  cases hs
  exact hK
 | br s9 =>
  have hs := zp hs
  rintro b5 a0 ⟨σ, rfl, hC, hO, h0, h1⟩
  refine c_sr (ab rfl (zb (wp_ret ?_)))
  cases hs
  exact ⟨_, fr_m 26 rfl, hC⟩

theorem Bd104 : zF Tryz.prog 104 := zJ Tryz.func104 (by kernel_rfl) rfl

theorem Bd103 : zF Tryz.prog 103 := zJ Tryz.func103 (by kernel_rfl) rfl

def VP (M : Nat → Prop) (w0 : World) (r : Bool × Bool) (a : Act) (w : World) : Prop :=
  ∃ (σ : Nv) , a = fr 19 (ovl σ [(4, (.bool r.1)), (5, (.bool r.2))]) ∧ Chg [] w0 w
def xv (a_ : Int × (List (Int × (List Int)))) (b : Int × (List (Int × (List Int)))) : Option (Bool × Bool) :=
  ((Zg (a_.1, a_.2)).bind fun r9 =>
  (bif (!r9) then some true else (Zg (b.1, b.2)).bind fun r12 =>
  some (!r12))).bind fun s5 =>
  (bif s5 then some (false, false) else (YO (a_.1, a_.2)).bind fun r16 =>
  (YO (b.1, b.2)).bind fun r19 =>
  (YI r16 r19).bind fun r22 =>
  some (r22, true))
theorem VI {M : Nat → Prop} {w : World} {pa0 : OA} {pn0 pc0 : Nat} {pa1 : OA} {pn1 pc1 : Nat} (a_ : tA) (b : tA) (h0 : rp.val M w (sv pa0 pn0 pc0) a_.2 []) (h1 : rp.val M w (sv pa1 pn1 pc1) b.2 []) (hM : Hm w M) {r : Bool × Bool} (hs : xv a_ b = some r) :
    Gives Tryz.prog 92 [(.agg #[(iv a_.1), (sv pa0 pn0 pc0)]), (.agg #[(iv b.1), (sv pa1 pn1 pc1)])] w (fun v w' => v = (.tuple #[(.bool r.1), (.bool r.2)]) ∧ Chg [] w w') := by
 refine zr Tryz.func92 rfl Tryz.ntmps92 (nl rfl) ?_
 have hO := Own.start (N := Nw w []) hM Nw.fut
 have hC := Chg.refl [] w
 unfold xv at hs
 refine wp_k (K := (VP M w r)) (by rintro _ _ ⟨σ, rfl, hrest⟩; exact wb Tryz.results92 (zB rfl) (zB rfl) ⟨rfl, hrest⟩) (c_sr ?_)
 obtain ⟨c1, b2, c6, c2, b3, a0⟩ := zg w [(iv a_.1), (sv pa0 pn0 pc0)] 30
 refine za (w' := c1) (pq b2 0) (Zj rfl (by rw [c6, c2]; kernel_rfl)) ?_
 obtain ⟨h0, h1, hC⟩ := xt3 b3 h0 h1 hC
 have hO := hO.new1 b3 c2 a0.lt
 obtain ⟨b8, b4, c7, c3, b1, a1⟩ := zg c1 [(iv b.1), (sv pa1 pn1 pc1)] 30
 refine za (w' := b8) (pq b4 0) (Zj rfl (by rw [c7, c3]; kernel_rfl)) ?_
 obtain ⟨h0, h1, a0, hC⟩ := xt4 b1 h0 h1 a0 hC
 have hO := hO.new1 b1 c3 a1.lt
 refine ab rfl (ab rfl (zb (zd (zd ?_))))
 obtain ⟨s5, c8, hs⟩ := bind_some hs
 refine yB (I := fun a b5 => ∃ (σ : Nv), a = fr 19 (ovl σ [(2, (pq b2 0)), (3, (pq b4 0)), (4, (.bool false)), (5, (.bool false)), (13, (.bool s5))]) ∧ Chg [] b8 b5) ?_ ?_
 ·replace hs := c8
  have hMid := Chg.refl [] b8
  refine ze (za _ (ldw rfl Ag30 a0 Sz30) ?_)
  obtain ⟨r9, c9, hs⟩ := bind_some hs
  refine zy Bd57 rfl (Yz (M := M) (a_.1, a_.2) h0 hO.fut c9) ?_
  rintro _ e2 ⟨rfl, a6⟩
  obtain ⟨h0, h1, a0, a1, hMid, hC, hO⟩ := xt7 a6 h0 h1 a0 a1 hMid hC hO
  refine za _ (ZA rfl) (mb rfl ?_)
  rcases zf hs with ⟨a4, hs⟩ | ⟨a4, hs⟩
  ·skip
   refine pn 9 (cb a4) (pn 9 (cb a4) (pn 9 (cb a4) (za _ (ptb (cb a4) rfl) (zb ?_))))
   cases hs
   exact ⟨_, fr_m 19 rfl, hMid⟩
  refine py 9 _ (cb a4) (ldw rfl Ag30 a1 Sz30) ?_
  obtain ⟨r12, d0, hs⟩ := bind_some hs
  refine yt (tg := 9) (by kernel_rfl) (cb a4) Bd57 rfl (Yz (M := M) (b.1, b.2) h1 hO.fut d0) ?_
  rintro _ e3 ⟨rfl, a7⟩
  obtain ⟨h0, h1, a0, a1, hMid, hC, hO⟩ := xt7 a7 h0 h1 a0 a1 hMid hC hO
  refine py 9 _ (cb a4) (ZA rfl) (za _ (pfb (cb a4) rfl) (zb ?_))
  cases hs
  exact ⟨_, fr_m 19 rfl, hMid⟩
 rintro e4 b5 ⟨σ, rfl, a9⟩
 obtain ⟨h0, h1, a0, a1, hC, hO⟩ := xt6 a9 h0 h1 a0 a1 hC hO
 rcases zf hs with ⟨b9, hs⟩ | ⟨b9, hs⟩
 ·refine zh (cb b9) (c_sr (ab rfl (ab rfl (zb (wp_ret ?_)))))
  cases hs
  exact ⟨_, fr_m 19 rfl, hC⟩
 refine zi (cb b9) (wp_skip (zd (zQ [] Mx rfl ?_)))
 have a8 := Chg.drew b5
 generalize World.drew b5 = d1 at a8 ⊢
 obtain ⟨h0, h1, a0, a1, hC, hO⟩ := xt6 a8 h0 h1 a0 a1 hC hO
 have hS := Chg.refl [] d1
 refine xl 0 rfl (ldxw rfl Ag30 a0 Sz30) hS (xl 2 rfl (ldxw rfl Ag30 a1 Sz30) hS (zI (i := 1) (by kernel_rfl) ?_))
 obtain ⟨r16, d2, hs⟩ := bind_some hs
 refine zL (b := false) rfl Bd104 rfl (ve (M := M) (a_.1, a_.2) h0 hO.fut d2) rfl (by rintro _ _ _ ⟨d3, d4, d5, b6, rfl, a5, b0, c4⟩; exact hS.ext a5) ?_
 rintro _ e5 ⟨d3, d4, d5, b6, rfl, a5, b0, c4⟩
 obtain ⟨h0, h1, a0, a1, hC⟩ := xt5 a5 h0 h1 a0 a1 hC
 have hO := Own.join0 hO a5 c4
 have hO := hO.perm (R := b6 ++ ([b4] ++ ([b2] ++ []))) (by simp)
 have hS := hS.ext a5
 refine zI (i := 3) (by kernel_rfl) ?_
 obtain ⟨r19, d6, hs⟩ := bind_some hs
 refine zL (b := false) rfl Bd104 rfl (ve (M := M) (b.1, b.2) h1 hO.fut d6) rfl (by rintro _ _ _ ⟨d7, d8, d9, c0, rfl, a3, b7, c5⟩; exact hS.ext a3) ?_
 rintro _ e6 ⟨d7, d8, d9, c0, rfl, a3, b7, c5⟩
 obtain ⟨h0, h1, a0, a1, b0, hC⟩ := xt6 a3 h0 h1 a0 a1 b0 hC
 have hO := Own.join0 hO a3 c5
 have hO := hO.perm (R := c0 ++ (b6 ++ ([b4] ++ ([b2] ++ [])))) (by simp)
 have hS := hS.ext a3
 refine zI (i := 4) (by kernel_rfl) ?_
 have hO := hO.fr1
 obtain ⟨r22, e0, hs⟩ := bind_some hs
 refine zL (b := false) rfl Bd103 rfl (VL (M := (Less (Less M b6) c0)) r16 r19 ((((Frz.os Frz.int)).val b0 Less.sub Less.not).sub Less.sub) (((Frz.os Frz.int)).val (b7.sub Less.sub) Less.sub Less.not) (hO.less).less.fut e0) rfl (by rintro _ _ _ ⟨rfl, a2⟩; exact hS.ext a2) ?_
 rintro _ e7 ⟨rfl, a2⟩
 obtain ⟨h0, h1, a0, a1, b0, b7, hC, hO⟩ := xt8 a2 h0 h1 a0 a1 b0 b7 hC hO
 have hS := hS.ext a2
 refine xq 5 (.bool r22) rfl (zA rfl) hS (xq 6 (.bool true) rfl (zA rfl) hS (xe ?_))
 clear hS
 refine wp_ret ?_
 cases hs
 exact ⟨_, fr_m 19 rfl, hC⟩

theorem Bd92 : zF Tryz.prog 92 := zJ Tryz.func92 (by kernel_rfl) rfl

def UF (M : Nat → Prop) (w0 : World) (r : Bool) (a : Act) (w : World) : Prop :=
  ∃ (σ : Nv) , a = fr 17 (ovl σ [(4, (.bool r))]) ∧ Chg [] w0 w
def xN (a_ : Int × (List (Int × (List Int)))) (b : Int × (List (Int × (List Int)))) : Option (Bool) :=
  (xv (a_.1, a_.2) (b.1, b.2)).bind fun r6 =>
  (bif r6.2 then some r6.1 else some false)
theorem zar {M : Nat → Prop} {w : World} {pa0 : OA} {pn0 pc0 : Nat} {pa1 : OA} {pn1 pc1 : Nat} (a_ : tA) (b : tA) (h0 : rp.val M w (sv pa0 pn0 pc0) a_.2 []) (h1 : rp.val M w (sv pa1 pn1 pc1) b.2 []) (hM : Hm w M) {r : Bool} (hs : xN a_ b = some r) :
    Gives Tryz.prog 61 [(.agg #[(iv a_.1), (sv pa0 pn0 pc0)]), (.agg #[(iv b.1), (sv pa1 pn1 pc1)])] w (fun v w' => v = (.bool r) ∧ Chg [] w w') := by
 refine zr Tryz.func61 rfl Tryz.ntmps61 (nl rfl) ?_
 have hO := Own.start (N := Nw w []) hM Nw.fut
 have hC := Chg.refl [] w
 unfold xN at hs
 refine wp_k (K := (UF M w r)) (by rintro _ _ ⟨σ, rfl, hrest⟩; exact Za Tryz.results61 (zB rfl) ⟨rfl, hrest⟩) (c_sr ?_)
 obtain ⟨a6, a9, b0, a7, a4, a0⟩ := zg w [(iv a_.1), (sv pa0 pn0 pc0)] 30
 refine za (w' := a6) (pq a9 0) (Zj rfl (by rw [b0, a7]; kernel_rfl)) ?_
 obtain ⟨h0, h1, hC⟩ := xt3 a4 h0 h1 hC
 have hO := hO.new1 a4 a7 a0.lt
 obtain ⟨b1, b2, b3, a8, a2, a5⟩ := zg a6 [(iv b.1), (sv pa1 pn1 pc1)] 30
 refine za (w' := b1) (pq b2 0) (Zj rfl (by rw [b3, a8]; kernel_rfl)) ?_
 obtain ⟨h0, h1, a0, hC⟩ := xt4 a2 h0 h1 a0 hC
 have hO := hO.new1 a2 a8 a5.lt
 refine ab rfl (zb (c_sr (za _ (ldw rfl Ag30 a0 Sz30) (za _ (ldw rfl Ag30 a5 Sz30) ?_))))
 obtain ⟨r6, b4, hs⟩ := bind_some hs
 refine zy Bd92 rfl (VI (M := M) (a_.1, a_.2) (b.1, b.2) h0 h1 hO.fut b4) ?_
 rintro _ b6 ⟨rfl, a1⟩
 obtain ⟨h0, h1, a0, a5, hC, hO⟩ := xt6 a1 h0 h1 a0 a5 hC hO
 refine za (.tuple #[(.bool r6.1), (.bool r6.2)]) (zx rfl) (za (.bool r6.1) (zH rfl (by kernel_rfl)) (za (.bool r6.2) (zH rfl (by kernel_rfl)) (ab rfl (ab rfl (zb (c_sr (mb rfl (mb rfl ?_))))))))
 rcases zf hs with ⟨a3, hs⟩ | ⟨a3, hs⟩
 ·skip
  refine py 14 (.bool r6.1) (cb a3) (zx rfl) (za _ (ptb (cb a3) rfl) (ab rfl (zb (wp_ret ?_))))
  cases hs
  exact ⟨_, fr_m 17 rfl, hC⟩
 refine pn 14 (cb a3) (za _ (pfb (cb a3) rfl) (ab rfl (zb (wp_ret ?_))))
 cases hs
 exact ⟨_, fr_m 17 rfl, hC⟩

theorem Bd61 : zF Tryz.prog 61 := zJ Tryz.func61 (by kernel_rfl) rfl

def VU (M : Nat → Prop) (w0 : World) (r : Bool) (a : Act) (w : World) : Prop :=
  ∃ (σ : Nv) , a = fr 16 (ovl σ [(4, (.bool r))]) ∧ Chg [] w0 w
def Yi (a_ : Int × (List (Int × (List Int)))) (b : Int × (List (Int × (List Int)))) : Option (Bool) :=
  (Zg (a_.1, a_.2)).bind fun r6 =>
  (bif r6 then (Zg (b.1, b.2)).bind fun r9 =>
  (bif r9 then (xN (a_.1, a_.2) (b.1, b.2)).bind fun r12 =>
  some r12 else some false) else some false)
theorem VV {M : Nat → Prop} {w : World} {pa0 : OA} {pn0 pc0 : Nat} {pa1 : OA} {pn1 pc1 : Nat} (a_ : tA) (b : tA) (h0 : rp.val M w (sv pa0 pn0 pc0) a_.2 []) (h1 : rp.val M w (sv pa1 pn1 pc1) b.2 []) (hM : Hm w M) {r : Bool} (hs : Yi a_ b = some r) :
    Gives Tryz.prog 29 [(.agg #[(iv a_.1), (sv pa0 pn0 pc0)]), (.agg #[(iv b.1), (sv pa1 pn1 pc1)])] w (fun v w' => v = (.bool r) ∧ Chg [] w w') := by
 refine zr Tryz.func29 rfl Tryz.ntmps29 (nl rfl) ?_
 have hO := Own.start (N := Nw w []) hM Nw.fut
 have hC := Chg.refl [] w
 unfold Yi at hs
 refine wp_k (K := (VU M w r)) (by rintro _ _ ⟨σ, rfl, hrest⟩; exact Za Tryz.results29 (zB rfl) ⟨rfl, hrest⟩) (c_sr ?_)
 obtain ⟨a9, b2, b3, b0, a8, a0⟩ := zg w [(iv a_.1), (sv pa0 pn0 pc0)] 30
 refine za (w' := a9) (pq b2 0) (Zj rfl (by rw [b3, b0]; kernel_rfl)) ?_
 obtain ⟨h0, h1, hC⟩ := xt3 a8 h0 h1 hC
 have hO := hO.new1 a8 b0 a0.lt
 obtain ⟨b4, b5, b6, b1, a7, a1⟩ := zg a9 [(iv b.1), (sv pa1 pn1 pc1)] 30
 refine za (w' := b4) (pq b5 0) (Zj rfl (by rw [b6, b1]; kernel_rfl)) ?_
 obtain ⟨h0, h1, a0, hC⟩ := xt4 a7 h0 h1 a0 hC
 have hO := hO.new1 a7 b1 a1.lt
 refine ab rfl (zb (c_sr (za _ (ldw rfl Ag30 a0 Sz30) ?_)))
 obtain ⟨r6, b7, hs⟩ := bind_some hs
 refine zy Bd57 rfl (Yz (M := M) (a_.1, a_.2) h0 hO.fut b7) ?_
 rintro _ c1 ⟨rfl, a4⟩
 obtain ⟨h0, h1, a0, a1, hC, hO⟩ := xt6 a4 h0 h1 a0 a1 hC hO
 refine mb rfl ?_
 rcases zf hs with ⟨a3, hs⟩ | ⟨a3, hs⟩
 ·skip
  refine py 7 _ (cb a3) (ldw rfl Ag30 a1 Sz30) ?_
  obtain ⟨r9, b8, hs⟩ := bind_some hs
  refine yt (tg := 7) (by kernel_rfl) (cb a3) Bd57 rfl (Yz (M := M) (b.1, b.2) h1 hO.fut b8) ?_
  rintro _ c2 ⟨rfl, a5⟩
  obtain ⟨h0, h1, a0, a1, hC, hO⟩ := xt6 a5 h0 h1 a0 a1 hC hO
  refine za _ (ptb (cb a3) rfl) (mb rfl ?_)
  rcases zf hs with ⟨a2, hs⟩ | ⟨a2, hs⟩
  ·skip
   refine py 11 _ (cb a2) (ldw rfl Ag30 a0 Sz30) (py 11 _ (cb a2) (ldw rfl Ag30 a1 Sz30) ?_)
   obtain ⟨r12, b9, hs⟩ := bind_some hs
   refine yt (tg := 11) (by kernel_rfl) (cb a2) Bd61 rfl (zar (M := M) (a_.1, a_.2) (b.1, b.2) h0 h1 hO.fut b9) ?_
   rintro _ c3 ⟨rfl, a6⟩
   obtain ⟨h0, h1, a0, a1, hC, hO⟩ := xt6 a6 h0 h1 a0 a1 hC hO
   refine za _ (ptb (cb a2) rfl) (ab rfl (zb (wp_ret ?_)))
   cases hs
   exact ⟨_, fr_m 16 rfl, hC⟩
  refine pn 11 (cb a2) (pn 11 (cb a2) (pn 11 (cb a2) (za _ (pfb (cb a2) rfl) (ab rfl (zb (wp_ret ?_))))))
  cases hs
  exact ⟨_, fr_m 16 rfl, hC⟩
 refine pn 7 (cb a3) (pn 7 (cb a3) (za _ (pfb (cb a3) rfl) (mb rfl (pn 11 (by rfl) (pn 11 (by rfl) (pn 11 (by rfl) (za _ (pfb (by rfl) rfl) (ab rfl (zb (wp_ret ?_))))))))))
 cases hs
 exact ⟨_, fr_m 16 rfl, hC⟩

def yy (M : Nat → Prop) (w0 : World) (r : tM) (a : Act) (w : World) : Prop :=
  ∃ (σ : Nv) (ra0 : OA) (rn0 rc0 : Nat) (rf0 : List Nat), a = fr 92 (ovl σ [(2, (sv ra0 rn0 rc0))]) ∧ Chg [] w0 w ∧ (RT.os 34 (RT.os 3 ri)).val M w (sv ra0 rn0 rc0) r rf0 ∧ Own (Nw w0 []) (fun _ => True) w (rf0 ++ [])
def Zu (b0 : Int × (List (Int × (List Int))) × Int × (List (List Int)) × (List (ByteArray × Int))) : Option ((List (List Int))) :=
  (forR (S := (List (List Int))) (R := (List (List Int))) (fun _ x596 s593 =>
  (yn (b0.2.2.2.1.length : Int) x596.1).bind fun r618 =>
  (mks r618 (0 : Int)).bind fun y620 =>
  (mks x596.1 ([] : List Int)).bind fun y623 =>
  (forC (S := (List Int) × (List (List Int))) (R := (List (List Int))) (fun k827 s825 =>
  (yz k827 x596.1 (b0.2.2.2.1.length : Int)).bind fun r843 =>
  (forC (S := (List (List Int))) (R := (List (List Int))) (fun k866 s864 =>
  (idx r843 k866).bind fun x872 =>
  (idx b0.2.2.2.1 x872).bind fun x874 =>
  (idx s864 k866).bind fun x878 =>
  some (.nx (List.set s864 (Int.toNat k866) x874))) 0 (r843.length : Int) s825.2).bind fun o868 => after o868 (fun r_ => some (.rt r_)) (fun s864 =>
  (yb (b0.1, b0.2.1) (x596.1, x596.2) b0.2.2.1 s864).bind fun r883 =>
  (ZC r883).bind fun r886 =>
  (idx s825.1 k827).bind fun x887 =>
  some (.nx (List.set s825.1 (Int.toNat k827) ((mget b0.2.2.2.2 r886).getD 0), s864)))) 0 (y620.length : Int) (y620, y623)).bind fun o829 => after o829 (fun r_ => some (.rt r_)) (fun s825 =>
  (app s593 ([s825.1])).bind fun y893 =>
  some (.nx y893))) 0 b0.2.1 ([])).bind fun o597 => after o597 (fun r_ => some r_) (fun s593 =>
  some s593)
theorem Yw {M : Nat → Prop} {w : World} {vg0 : Nat} {va0x1 : OA} {vn0x1 vc0x1 : Nat} {va0x3 : OA} {vn0x3 vc0x3 : Nat} {vn0x4 : Nat} (b0 : Int × (List (Int × (List Int))) × Int × tM × (List (ByteArray × Int))) (hb0 : RBox M w vg0 90 [(iv b0.1), (sv va0x1 vn0x1 vc0x1), (iv b0.2.2.1), (sv va0x3 vn0x3 vc0x3), (.map (some vn0x4))]) (hl0x1 : rp.val M w (sv va0x1 vn0x1 vc0x1) b0.2.1 []) (hl0x3 : rm.val M w (sv va0x3 vn0x3 vc0x3) b0.2.2.2.1 []) (hl0x4 : (RT.mr (Value.int .i64)).val M w (.map (some vn0x4)) b0.2.2.2.2 []) (hM : Hm w M) {r : tM} (hs : Zu b0 = some r) :
    Gives Tryz.prog 31 [(pq vg0 0)] w (fun v w' => ∃ (ra0 : OA) (rn0 rc0 : Nat) (rf0 : List Nat), v = (sv ra0 rn0 rc0) ∧ Chg [] w w' ∧ (RT.os 34 (RT.os 3 ri)).val M w' (sv ra0 rn0 rc0) r rf0 ∧ Own (Nw w []) (fun _ => True) w' (rf0 ++ [])) := by
 refine zr Tryz.func31 rfl Tryz.ntmps31 (nl rfl) ?_
 have hO := Own.start (N := Nw w []) hM Nw.fut
 have hC := Chg.refl [] w
 unfold Zu at hs
 refine wp_k (K := (yy M w r)) (by rintro _ _ ⟨σ, ra0, rn0, rc0, rf0, rfl, hrest⟩; exact Za Tryz.results31 (zB rfl) ⟨ra0, rn0, rc0, rf0, rfl, hrest⟩) (c_sr (ax rfl (zb (c_sr ?_))))
 obtain ⟨i7, f5, k6, i9, f6, j0⟩ := zg w [] 34
 refine za (w' := i7) (sv (some ⟨f5, 0, none⟩) 0 0) (zz rfl (by rw [k6, i9]; kernel_rfl)) ?_
 obtain ⟨hl0x1, hl0x3, hl0x4, hb0, hC⟩ := xt5 f6 hl0x1 hl0x3 hl0x4 hb0 hC
 have hO := hO.new1 f6 i9 j0.lt
 have h5 := os0 (r := (RT.os 3 ri)) (M := M) j0
 refine ax rfl (zb (zd (c_sr (mp rfl (za _ (Zs rfl) (za (pq vg0 0) (zk rfl Vr) (za (pq vg0 1) (zk rfl Zq) (za _ (ld rfl Ag28 Sz28 hb0.1 rfl) (za _ (zn Sl28 (zt hl0x1) rfl) (mi rfl (zb ?_)))))))))))
 obtain ⟨o597, k7, hs⟩ := bind_some hs
 refine wp_block (YE (id := 0) (I := fun i_ xs_ s593 a a7 => ∃ c5 : Nat, i_ = (c5 : Int) ∧ List.drop c5 b0.2.1 = xs_ ∧ (∃ (σ : Nv) (c6 : Nat → Prop) (c0 : OA) (c1 : Nat) (c2 : Nat) (b1 : List Nat), a = fr 92 (ovl σ [(0, (pq vg0 0)), (3, (sv c0 c1 c2)), (16, (sv va0x1 vn0x1 vc0x1)), (17, (iv (b0.2.1.length : Int))), (18, (iv (c5 : Int)))]) ∧ Chg [] w a7 ∧ Own (Nw w []) c6 a7 (b1 ++ []) ∧ Keeps w M c6 ∧ rp.val c6 a7 (sv va0x1 vn0x1 vc0x1) b0.2.1 [] ∧ rm.val c6 a7 (sv va0x3 vn0x3 vc0x3) b0.2.2.2.1 [] ∧ (RT.mr (Value.int .i64)).val c6 a7 (.map (some vn0x4)) b0.2.2.2.2 [] ∧ RBox c6 a7 vg0 90 [(iv b0.1), (sv va0x1 vn0x1 vc0x1), (iv b0.2.2.1), (sv va0x3 vn0x3 vc0x3), (.map (some vn0x4))] ∧ (RT.os 34 (RT.os 3 ri)).val c6 a7 (sv c0 c1 c2) s593 b1)) (J := fun s593 a a7 => ∃ (σ : Nv) (e5 : Nat → Prop) (f7 : OA) (f8 : Nat) (f9 : Nat) (g5 : List Nat), a = fr 92 (ovl σ [(3, (sv f7 f8 f9))]) ∧ Chg [] w a7 ∧ Own (Nw w []) e5 a7 (g5 ++ []) ∧ Keeps w M e5 ∧ rp.val e5 a7 (sv va0x1 vn0x1 vc0x1) b0.2.1 [] ∧ rm.val e5 a7 (sv va0x3 vn0x3 vc0x3) b0.2.2.2.1 [] ∧ (RT.mr (Value.int .i64)).val e5 a7 (.map (some vn0x4)) b0.2.2.2.2 [] ∧ RBox e5 a7 vg0 90 [(iv b0.1), (sv va0x1 vn0x1 vc0x1), (iv b0.2.2.1), (sv va0x3 vn0x3 vc0x3), (.map (some vn0x4))] ∧ (RT.os 34 (RT.os 3 ri)).val e5 a7 (sv f7 f8 f9) s593 g5) (K := (yy M w)) ?_ ?_ b0.2.1 0 [] o597 _ _ ?_ k7 ?_)
 ·rintro _ s593 a a7 ⟨c5, rfl, hd, σ, c6, c0, c1, c2, b1, rfl, hC, hO, hK, hl0x1, hl0x3, hl0x4, hb0, a0⟩
  have hlt := ZI hd
  refine c_sr (za _ (zw rfl rfl) (zb (zd (zi (df hlt) (wp_exit ?_)))))
  exact ⟨rfl, _, c6, c0, c1, c2, b1, fr_m 92 rfl, hC, hO, hK, hl0x1, hl0x3, hl0x4, hb0, a0⟩
 ·rintro _ x596 xs_ s593 o597 a a7 ⟨c5, rfl, hd, σ, c6, c0, c1, c2, b1, rfl, hC, hO, hK, hl0x1, hl0x3, hl0x4, hb0, a0⟩ hs
  have hlt := ZB hd
  have k8 := Zt hd
  refine c_sr (za _ (zw rfl rfl) (zb (zd (zh (dt hlt) (wp_skip (zd (wp_block (c_sr ?_))))))))
  obtain ⟨k9, l0, l1, h6⟩ := zK Sl28 Sz77 hl0x1 k8
  refine za _ (ip l1 rfl rfl) ?_
  obtain ⟨r7, l2, l3⟩ := Zc Ag77 Sz77 (by intro h; cases h) h6
  obtain ⟨r8, rfl, l4⟩ := l3
  obtain ⟨r9, s0, rfl, l5, l6⟩ := Yn l4
  obtain rfl := Yx l5
  obtain ⟨b2, b3, b4, rfl, a1⟩ := YV l6
  refine za (.agg #[(iv x596.1), (sv b2 b3 b4)]) (zo rfl (l2 _ (Chg.refl _ _))) ?_
  obtain ⟨l7, a8, l8, j1, e3, j2⟩ := zg a7 [(iv 0), (sv none 0 0)] 77
  refine za (w' := l7) (pq a8 0) (YF (by rw [l8, j1]; kernel_rfl)) ?_
  obtain ⟨hl0x1, hl0x3, hl0x4, hb0, a0, a1, h6, hC⟩ := xt8 e3 hl0x1 hl0x3 hl0x4 hb0 a0 a1 h6 hC
  have hO := hO.new1 e3 j1 j2.lt
  obtain ⟨g6, l9, e6, a2⟩ := Zx (P := Tryz.prog) j2 [] [(iv 0), (sv none 0 0)] [] [(iv x596.1), (sv b2 b3 b4)] rfl rfl (oc rfl)
  refine Zh (w' := g6) (zY rfl rfl (l9 _ _ rfl Sz77)) ?_
  have hl0x1 := hl0x1.mt e6 hO zl
  have hl0x3 := hl0x3.mt e6 hO zl
  have hl0x4 := hl0x4.mt e6 hO zl
  have hb0 := hb0.mut e6 (fun q hq => hO.inM q ((fun _ h => h) q hq))
  have a0 := a0.ma e6 hO zl (fun _ e => (zD (e)))
  have a1 := a1.mt e6 hO zl
  have hC := hC.st e6 hO zl
  have hO := hO.ext e6
  have a2 : BoxV g6 a8 77 [(iv x596.1), (sv b2 b3 b4)] := a2
  refine zb (zd (zQ [] Mx rfl ?_))
  have e0 := Chg.drew g6
  generalize World.drew g6 = m0 at e0 ⊢
  obtain ⟨hl0x1, hl0x3, hl0x4, hb0, a0, a1, a2, hC⟩ := xt8 e0 hl0x1 hl0x3 hl0x4 hb0 a0 a1 a2 hC
  have hO := hO.ext e0
  have hS := Chg.refl [] m0
  refine xmp 0 rfl rfl hS (xq 1 _ rfl (Zs rfl) hS (xq 2 (pq vg0 3) rfl (zk rfl YD) hS (xl 3 rfl (ldx rfl Ag45 Sz45 hb0.1 rfl) hS (xq 4 _ rfl (zn Sl45 (zt hl0x3) rfl) hS (xq 5 (pq a8 0) rfl (zk rfl ZP) hS (xl 6 rfl (ldx rfl Ag3 Sz3 a2 rfl) hS (zI (i := 7) (by kernel_rfl) ?_)))))))
  obtain ⟨r618, m1, hs⟩ := bind_some hs
  refine zL (b := false) rfl Bd32 rfl (Xu (M := c6) (b0.2.2.2.1.length : Int) x596.1  hO.fut m1) rfl (by rintro _ _ _ ⟨rfl, c8⟩; exact hS.ext c8) ?_
  rintro _ m2 ⟨rfl, c8⟩
  obtain ⟨hl0x1, hl0x3, hl0x4, hb0, a0, a1, a2, hC⟩ := xt8 c8 hl0x1 hl0x3 hl0x4 hb0 a0 a1 a2 hC
  obtain ⟨hO, hS⟩ := xt2 c8 hO hS
  refine zI (i := 8) (by kernel_rfl) ?_
  obtain ⟨y620, m3, hs⟩ := bind_some hs
  obtain ⟨b6, b7, b8, j3, m4, m5, d3, m6, e7⟩ := YX (M := c6) (w := m2) (r := ri) Rw34 m3 (fun _ _ => ⟨rfl, rfl⟩)
  refine zR (w' := j3) (b := false) (sv b6 b7 b8) rfl (yC rfl rfl m5) rfl (fun _ => hS.ext d3) ?_
  obtain ⟨hl0x1, hl0x3, hl0x4, hb0, a0, a1, a2, hC⟩ := xt8 d3 hl0x1 hl0x3 hl0x4 hb0 a0 a1 a2 hC
  have hO := hO.new d3 m6 (zu e7) e7.fpl
  have hS := hS.ext d3
  refine xq 9 (sv b6 b7 b8) rfl (zA rfl) hS (xe ?_)
  clear hS
  refine c_sr (za (pq a8 0) (zk rfl ZP) (za _ (ld rfl Ag3 Sz3 a2 rfl) ?_))
  obtain ⟨y623, m7, hs⟩ := bind_some hs
  obtain ⟨d4, d5, d6, m8, s1, m9, e1, n0, h7⟩ := YX (M := c6) (w := j3) (r := (RT.os 3 ri)) Rw45 m7 (fun _ _ => (ZJ xJ))
  refine za (w' := m8) (sv d4 d5 d6) (yC rfl rfl m9) ?_
  obtain ⟨hl0x1, hl0x3, hl0x4, hb0, a0, a1, a2, e7⟩ := xt8 e1 hl0x1 hl0x3 hl0x4 hb0 a0 a1 a2 e7
  have hC := hC.ext e1
  have hO := hO.new e1 n0 (zu h7) h7.fpl
  refine ax rfl (zb (zd (c_sr (ms rfl (za _ (zn Sl34 (ZH e7) rfl) (mi rfl (zb ?_)))))))
  obtain ⟨e8, n1, f1, n2, hO, n3⟩ := Xh (Frz.os Frz.int) h7 hO
  have hl0x1 := hl0x1.sub f1
  have hl0x3 := hl0x3.sub f1
  have hl0x4 := hl0x4.sub f1
  have hb0 := hb0.sub f1
  have a0 := a0.sub f1
  have a1 := a1.sub f1
  have e7 := e7.sub f1
  have hK := hK.trans n2
  obtain ⟨o829, n4, hs⟩ := bind_some hs
  refine wp_block (zT (id := 2) (y620.length : Int) (I := fun k827 s825 a a5 => ∃ (σ : Nv) (a3 : Nat → Prop) (c9 : List Nat) (f2 : List Nat), a = fr 92 (ovl σ [(0, (pq vg0 0)), (3, (sv c0 c1 c2)), (5, (pq a8 0)), (6, (sv b6 b7 b8)), (7, (sv d4 d5 d6)), (16, (sv va0x1 vn0x1 vc0x1)), (17, (iv (b0.2.1.length : Int))), (18, (iv (c5 : Int))), (35, (iv (y620.length : Int))), (36, (iv k827))]) ∧ Chg [] w a5 ∧ Own (Nw w []) a3 a5 (f2 ++ (c9 ++ ([a8] ++ (b1 ++ [])))) ∧ Keeps w M a3 ∧ rp.val a3 a5 (sv va0x1 vn0x1 vc0x1) b0.2.1 [] ∧ rm.val a3 a5 (sv va0x3 vn0x3 vc0x3) b0.2.2.2.1 [] ∧ (RT.mr (Value.int .i64)).val a3 a5 (.map (some vn0x4)) b0.2.2.2.2 [] ∧ RBox a3 a5 vg0 90 [(iv b0.1), (sv va0x1 vn0x1 vc0x1), (iv b0.2.2.1), (sv va0x3 vn0x3 vc0x3), (.map (some vn0x4))] ∧ (RT.os 34 (RT.os 3 ri)).val a3 a5 (sv c0 c1 c2) s593 b1 ∧ rl.val a3 a5 (sv b2 b3 b4) x596.2 [] ∧ BoxV a5 a8 77 [(iv x596.1), (sv b2 b3 b4)] ∧ (RT.os 3 ri).val a3 a5 (sv b6 b7 b8) s825.1 c9 ∧ (RT.os 34 rl).val a3 a5 (sv d4 d5 d6) s825.2 f2) (J := fun s825 a a5 => ∃ (σ : Nv) (c3 : Nat → Prop) (g0 : List Nat) (g7 : List Nat), a = fr 92 (ovl σ [(0, (pq vg0 0)), (3, (sv c0 c1 c2)), (6, (sv b6 b7 b8)), (16, (sv va0x1 vn0x1 vc0x1)), (17, (iv (b0.2.1.length : Int))), (18, (iv (c5 : Int)))]) ∧ Chg [] w a5 ∧ Own (Nw w []) c3 a5 (g7 ++ (g0 ++ ([a8] ++ (b1 ++ [])))) ∧ Keeps w M c3 ∧ rp.val c3 a5 (sv va0x1 vn0x1 vc0x1) b0.2.1 [] ∧ rm.val c3 a5 (sv va0x3 vn0x3 vc0x3) b0.2.2.2.1 [] ∧ (RT.mr (Value.int .i64)).val c3 a5 (.map (some vn0x4)) b0.2.2.2.2 [] ∧ RBox c3 a5 vg0 90 [(iv b0.1), (sv va0x1 vn0x1 vc0x1), (iv b0.2.2.1), (sv va0x3 vn0x3 vc0x3), (.map (some vn0x4))] ∧ (RT.os 34 (RT.os 3 ri)).val c3 a5 (sv c0 c1 c2) s593 b1 ∧ rl.val c3 a5 (sv b2 b3 b4) x596.2 [] ∧ BoxV a5 a8 77 [(iv x596.1), (sv b2 b3 b4)] ∧ (RT.os 3 ri).val c3 a5 (sv b6 b7 b8) s825.1 g0 ∧ (RT.os 34 rl).val c3 a5 (sv d4 d5 d6) s825.2 g7) (K := (yy M w)) ?_ ?_ 0 (y620, y623) o829 _ _ ?_ n4 ?_)
  ·rintro k827 s825 a a5 ⟨σ, a3, c9, f2, rfl, hC, hO, hK, hl0x1, hl0x3, hl0x4, hb0, a0, a1, a2, a6, f3⟩ hlt
   refine c_sr (za _ (zw rfl rfl) (zb (zd (zi (df hlt) (wp_exit ?_)))))
   have hO := hO.fr3.fr3.fr3.fr3
   exact ⟨rfl, _, a3, c9, f2, fr_m 92 rfl, hC, hO, hK, hl0x1, hl0x3, hl0x4, hb0, a0, a1, a2, a6, f3⟩
  ·rintro k827 s825 o829 a a5 ⟨σ, a3, c9, f2, rfl, hC, hO, hK, hl0x1, hl0x3, hl0x4, hb0, a0, a1, a2, a6, f3⟩ hlt hw hs
   refine c_sr (za _ (zw rfl rfl) (zb (zd (zh (dt hlt) (wp_skip (zd (wp_block (c_sr (mi rfl (ai rfl (zb (zd (zd (zQ [] Mx rfl ?_))))))))))))))
   have d0 := Chg.drew a5
   generalize World.drew a5 = n5 at d0 ⊢
   obtain ⟨hl0x1, hl0x3, hl0x4, hb0, a0, a1, a2, a6⟩ := xt8 d0 hl0x1 hl0x3 hl0x4 hb0 a0 a1 a2 a6
   obtain ⟨f3, hC, hO⟩ := xt3 d0 f3 hC hO
   have hS := Chg.refl [] n5
   refine xmi 0 rfl rfl hS (xq 1 (pq a8 0) rfl (zk rfl ZP) hS (xl 2 rfl (ldx rfl Ag3 Sz3 a2 rfl) hS (xmp 3 rfl rfl hS (xq 4 _ rfl (Zs rfl) hS (xq 5 (pq vg0 3) rfl (zk rfl YD) hS (xl 6 rfl (ldx rfl Ag45 Sz45 hb0.1 rfl) hS (xq 7 _ rfl (zn Sl45 (zt hl0x3) rfl) hS (xmi 10 rfl rfl hS (zI (i := 8) (by kernel_rfl) ?_)))))))))
   obtain ⟨r843, n6, hs⟩ := bind_some hs
   refine zL (b := false) rfl Bd34 rfl (wl (M := a3) k827 x596.1 (b0.2.2.2.1.length : Int)  hO.fut n6) rfl (by rintro _ _ _ ⟨g8, g9, h0, f4, rfl, c4, a9, j4⟩; exact hS.ext c4) ?_
   rintro _ s2 ⟨g8, g9, h0, f4, rfl, c4, a9, j4⟩
   obtain ⟨hl0x1, hl0x3, hl0x4, hb0, a0, a1, a2, a6⟩ := xt8 c4 hl0x1 hl0x3 hl0x4 hb0 a0 a1 a2 a6
   obtain ⟨f3, hC⟩ := xt2 c4 f3 hC
   have hO := Own.join0 hO c4 j4
   have hO := hO.perm (R := f4 ++ (f2 ++ (c9 ++ ([a8] ++ (b1 ++ []))))) (by simp)
   have hS := hS.ext c4
   refine xq 9 _ rfl (zn Sl34 (ZH a9) rfl) hS (xe ?_)
   clear hS
   obtain ⟨o868, n7, hs⟩ := bind_some hs
   refine wp_block (zT (id := 4) (r843.length : Int) (I := fun k866 s864 a a4 => ∃ (σ : Nv) (g1 : List Nat), a = fr 92 (ovl σ [(0, (pq vg0 0)), (3, (sv c0 c1 c2)), (5, (pq a8 0)), (6, (sv b6 b7 b8)), (7, (sv d4 d5 d6)), (8, (iv k827)), (16, (sv va0x1 vn0x1 vc0x1)), (17, (iv (b0.2.1.length : Int))), (18, (iv (c5 : Int))), (35, (iv (y620.length : Int))), (36, (iv k827)), (47, (sv g8 g9 h0)), (48, (iv (r843.length : Int))), (49, (iv k866))]) ∧ Chg [] w a4 ∧ Own (Nw w []) a3 a4 (f4 ++ (g1 ++ (c9 ++ ([a8] ++ (b1 ++ []))))) ∧ rp.val a3 a4 (sv va0x1 vn0x1 vc0x1) b0.2.1 [] ∧ rm.val a3 a4 (sv va0x3 vn0x3 vc0x3) b0.2.2.2.1 [] ∧ (RT.mr (Value.int .i64)).val a3 a4 (.map (some vn0x4)) b0.2.2.2.2 [] ∧ RBox a3 a4 vg0 90 [(iv b0.1), (sv va0x1 vn0x1 vc0x1), (iv b0.2.2.1), (sv va0x3 vn0x3 vc0x3), (.map (some vn0x4))] ∧ (RT.os 34 (RT.os 3 ri)).val a3 a4 (sv c0 c1 c2) s593 b1 ∧ rl.val a3 a4 (sv b2 b3 b4) x596.2 [] ∧ BoxV a4 a8 77 [(iv x596.1), (sv b2 b3 b4)] ∧ (RT.os 3 ri).val a3 a4 (sv b6 b7 b8) s825.1 c9 ∧ (RT.os 34 rl).val a3 a4 (sv d4 d5 d6) s864 g1 ∧ (RT.os 3 ri).val a3 a4 (sv g8 g9 h0) r843 f4) (J := fun s864 a a4 => ∃ (σ : Nv) (g2 : List Nat), a = fr 92 (ovl σ [(0, (pq vg0 0)), (3, (sv c0 c1 c2)), (5, (pq a8 0)), (6, (sv b6 b7 b8)), (7, (sv d4 d5 d6)), (8, (iv k827)), (16, (sv va0x1 vn0x1 vc0x1)), (17, (iv (b0.2.1.length : Int))), (18, (iv (c5 : Int))), (35, (iv (y620.length : Int))), (36, (iv k827))]) ∧ Chg [] w a4 ∧ Own (Nw w []) a3 a4 (f4 ++ (g2 ++ (c9 ++ ([a8] ++ (b1 ++ []))))) ∧ rp.val a3 a4 (sv va0x1 vn0x1 vc0x1) b0.2.1 [] ∧ rm.val a3 a4 (sv va0x3 vn0x3 vc0x3) b0.2.2.2.1 [] ∧ (RT.mr (Value.int .i64)).val a3 a4 (.map (some vn0x4)) b0.2.2.2.2 [] ∧ RBox a3 a4 vg0 90 [(iv b0.1), (sv va0x1 vn0x1 vc0x1), (iv b0.2.2.1), (sv va0x3 vn0x3 vc0x3), (.map (some vn0x4))] ∧ (RT.os 34 (RT.os 3 ri)).val a3 a4 (sv c0 c1 c2) s593 b1 ∧ rl.val a3 a4 (sv b2 b3 b4) x596.2 [] ∧ BoxV a4 a8 77 [(iv x596.1), (sv b2 b3 b4)] ∧ (RT.os 3 ri).val a3 a4 (sv b6 b7 b8) s825.1 c9 ∧ (RT.os 34 rl).val a3 a4 (sv d4 d5 d6) s864 g2 ∧ (RT.os 3 ri).val a3 a4 (sv g8 g9 h0) r843 f4) (K := (yy M w)) ?_ ?_ 0 s825.2 o868 _ _ ?_ n7 ?_)
   ·rintro k866 s864 a a4 ⟨σ, g1, rfl, hC, hO, hl0x1, hl0x3, hl0x4, hb0, a0, a1, a2, a6, g3, a9⟩ hlt
    refine c_sr (za _ (zw rfl rfl) (zb (zd (zi (df hlt) (wp_exit ?_)))))
    have hO := hO.fr4.fr4.fr4.fr4.fr4
    exact ⟨rfl, _, g1, fr_m 92 rfl, hC, hO, hl0x1, hl0x3, hl0x4, hb0, a0, a1, a2, a6, g3, a9⟩
   ·rintro k866 s864 o868 a a4 ⟨σ, g1, rfl, hC, hO, hl0x1, hl0x3, hl0x4, hb0, a0, a1, a2, a6, g3, a9⟩ hlt hw hs
    refine c_sr (za _ (zw rfl rfl) (zb (zd (zh (dt hlt) (wp_skip (zd (wp_block (c_sr (mi rfl ?_)))))))))
    obtain ⟨x872, n8, hs⟩ := bind_some hs
    obtain ⟨n9, s3, s4, s5, o0, o1, s6⟩ := zS Sl34 Sz3 a9 n8
    refine za _ (ip o0 rfl rfl) (za (iv x872) (zo rfl ((zm Ag3 Sz3 o1) _ (Chg.refl _ _))) (ai rfl (ai rfl (zb (ze (ms rfl (mi rfl (mp rfl (za _ (Zs rfl) (za (pq vg0 3) (zk rfl YD) (za _ (ld rfl Ag45 Sz45 hb0.1 rfl) (mi rfl ?_))))))))))))
    obtain ⟨x874, o2, hs⟩ := bind_some hs
    obtain ⟨o3, o4, o5, o6⟩ := zK Sl45 Sz34 hl0x3 o2
    refine za _ (ip o5 rfl rfl) ?_
    obtain ⟨s7, o7, h1⟩ := Zc Ag34 Sz34 (fun _ => rfl) o6
    obtain ⟨j5, j6, j7, rfl⟩ := yl h1
    refine za (sv j5 j6 j7) (zo rfl (o7 _ (Chg.refl _ _))) ?_
    obtain ⟨x878, o8, hs⟩ := bind_some hs
    obtain ⟨j8, s8, j9, o9, p0, p1, s9⟩ := zS Sl45 Sz34 g3 o8
    have t0 := UE Rd.rs p1
    refine za _ (ip p0 rfl rfl) ?_
    have hO := hO.fr1
    obtain ⟨p2, p3, p4, d1, p5, h8⟩ := yH (P := Tryz.prog) (c' := [(sv j5 j6 j7)]) j9 g3 o9 (fun g hg => hO.inM g (zC g3 g (by simpa using hg))) (yI h1) List.nodup_nil (fun _ h => nomatch h) (fun _ h => .inl h)
    have d7 : ∀ q ∈ [j8], q ∈ g1 := fun q hq => zC g3 q (by rw [j9]; exact hq)
    refine Zh (w' := p2) (zY rfl rfl (p4 _ _ rfl Sz34)) ?_
    have hl0x1 := hl0x1.mt d1 hO d7
    have hl0x3 := hl0x3.mt d1 hO d7
    have hl0x4 := hl0x4.mt d1 hO d7
    have hb0 := hb0.mut d1 (fun q hq => hO.inM q (d7 q hq))
    have a0 := a0.ma d1 hO d7 (fun _ e => (zj (zj (zj (zD (e))))))
    have a1 := a1.mt d1 hO d7
    have a2 := a2.ap d1 hO d7 (zj (zj mS))
    have a6 := a6.ma d1 hO d7 (fun _ e => (zj (zD (e))))
    have a9 := a9.ma d1 hO d7 (fun _ e => (zD (e)))
    have h1 := h1.mt d1 hO d7
    have hC := hC.st d1 hO d7
    have hO := hO.grow d1 (fun q hq => .inl ((p5 q hq).resolve_right (fun h => nomatch h))) (zu h8) h8.fpl
    refine zb (ze (za _ (yad rfl rfl) (mi rfl (zb ?_))))
    cases hs
    have hO := hO.fr4.fr4.fr4.fr3.fr4
    exact ⟨_, p3, zG 92 ⟨rfl, rfl, rfl, rfl, rfl, rfl, rfl, rfl, rfl, rfl, rfl, rfl, rfl, congrArg (Value.int .i64) hw, trivial⟩, hC, hO, hl0x1, hl0x3, hl0x4, hb0, a0, a1, a2, a6, h8, a9⟩
   ·skip
    have hO := hO.fr4.fr4.fr4.fr4.fr4
    exact ⟨_, f2, fr_m 92 rfl, hC, hO, hl0x1, hl0x3, hl0x4, hb0, a0, a1, a2, a6, f3, a9⟩
   cases o868 with
   | nx _ => exact True.intro
   | rt r_ =>
    have hs := zq hs
    intro g4 h4 hK
    cases hs
    exact hK
   | br s864 =>
    have hs := zp hs
    rintro g4 a4 ⟨σ, g2, rfl, hC, hO, hl0x1, hl0x3, hl0x4, hb0, a0, a1, a2, a6, e2, a9⟩
    refine zQ [20] Mx rfl ?_
    have c7 := Chg.drew a4
    generalize World.drew a4 = p6 at c7 ⊢
    obtain ⟨hl0x1, hl0x3, hl0x4, hb0, a0, a1, a2, a6⟩ := xt8 c7 hl0x1 hl0x3 hl0x4 hb0 a0 a1 a2 a6
    obtain ⟨e2, a9, hC, hO⟩ := xt4 c7 e2 a9 hC hO
    have hS := Chg.refl [] p6
    refine xms 0 rfl rfl hS (xmi 1 rfl rfl hS (xmp 2 rfl rfl hS (xq 3 _ rfl (Zs rfl) hS (xq 4 (pq vg0 4) rfl (zk rfl Va) hS (xl 5 rfl (ldx rfl Ag88 Sz88 hb0.1 rfl) hS (xmp 6 rfl rfl hS (xq 7 _ rfl (Zs rfl) hS (xq 8 (pq vg0 0) rfl (zk rfl Vr) hS (x_l 9 (.agg #[(iv b0.1), (sv va0x1 vn0x1 vc0x1)]) rfl (by kernel_rfl) (fun w' hw' => zo rfl ((Zz Ag30 Sz30 hb0.1 [] [(iv b0.1), (sv va0x1 vn0x1 vc0x1)] [(iv b0.2.2.1), (sv va0x3 vn0x3 vc0x3), (.map (some vn0x4))] rfl rfl (fun h => nomatch h)) w' hw')) hS (xl 10 rfl (ldxw rfl Ag77 a2 Sz77) hS (xmp 11 rfl rfl hS (xq 12 _ rfl (Zs rfl) hS (xq 13 (pq vg0 2) rfl (zk rfl Fa90x1) hS (xl 14 rfl (ldx rfl Ag3 Sz3 hb0.1 rfl) hS (xms 15 rfl rfl hS (zI (i := 16) (by kernel_rfl) ?_))))))))))))))))
    have hO := hO.fr1
    obtain ⟨r883, p7, hs⟩ := bind_some hs
    refine zL (b := false) rfl Bd63 rfl (XF (M := (Less a3 g2)) (b0.1, b0.2.1) (x596.1, x596.2) b0.2.2.1 s864 (hl0x1.sub Less.sub) (a1.sub Less.sub) (((Frz.os (Frz.rs Frz.int))).val e2 Less.sub Less.not) hO.less.fut p7) rfl (by rintro _ _ _ ⟨p8, p9, q0, h9, rfl, b9, e9, k0⟩; exact hS.ext b9) ?_
    rintro _ t1 ⟨p8, p9, q0, h9, rfl, b9, e9, k0⟩
    obtain ⟨hl0x1, hl0x3, hl0x4, hb0, a0, a1, a2, a6⟩ := xt8 b9 hl0x1 hl0x3 hl0x4 hb0 a0 a1 a2 a6
    obtain ⟨e2, a9, hC⟩ := xt3 b9 e2 a9 hC
    have hO := Own.join0 hO b9 k0
    have hO := hO.perm (R := h9 ++ (g2 ++ (f4 ++ (c9 ++ ([a8] ++ (b1 ++ [])))))) (by simp)
    have e9 := e9.free (M' := a3) (Free.os Free.int)
    have hS := hS.ext b9
    refine zI (i := 17) (by kernel_rfl) ?_
    obtain ⟨r886, q1, hs⟩ := bind_some hs
    refine zL (b := false) rfl Bd60 rfl (xc (M := (Less a3 h9)) r883 (((Frz.os Frz.int)).val e9 Less.sub Less.not) hO.less.fut q1) rfl (by rintro _ _ _ ⟨rfl, b5⟩; exact hS.ext b5) ?_
    rintro _ t2 ⟨rfl, b5⟩
    obtain ⟨hl0x1, hl0x3, hl0x4, hb0, a0, a1, a2, a6⟩ := xt8 b5 hl0x1 hl0x3 hl0x4 hb0 a0 a1 a2 a6
    obtain ⟨e2, a9, e9, hC, hO, hS⟩ := xt6 b5 e2 a9 e9 hC hO hS
    refine zI (i := 18) (by kernel_rfl) (zR (b := false) (iv ((mget b0.2.2.2.2 r886).getD 0)) rfl (zbV (enc := (Value.int .i64)) Tryz.underlying88 Tryz.underlying9 Zv3 (mr_at hl0x4) rfl rfl) rfl (fun _ => hS) ?_)
    obtain ⟨x887, q2, hs⟩ := bind_some hs
    obtain ⟨k1, t3, k2, q3, q4, t4, t5⟩ := zS Sl34 Sz3 a6 q2
    refine xq 19 _ rfl (ip q4 rfl rfl) hS (zI (i := 20) (by kernel_rfl) ?_)
    have hO := hO.fr3
    obtain ⟨q5, q6, q7, d2, q8, i0⟩ := yH (P := Tryz.prog) (c' := [(iv ((mget b0.2.2.2.2 r886).getD 0))]) k2 a6 q3 (fun g hg => hO.inM g (zC a6 g (by simpa using hg))) ⟨rfl, rfl⟩ List.nodup_nil (fun _ h => nomatch h) (fun _ h => .inl h)
    have d8 : ∀ q ∈ [k1], q ∈ c9 := fun q hq => zC a6 q (by rw [k2]; exact hq)
    refine zat (w' := q5) (b := true) rfl (zY rfl rfl (q7 _ _ rfl Sz3)) rfl (fun h => nomatch h) ?_
    have hl0x1 := hl0x1.mt d2 hO d8
    have hl0x3 := hl0x3.mt d2 hO d8
    have hl0x4 := hl0x4.mt d2 hO d8
    have hb0 := hb0.mut d2 (fun q hq => hO.inM q (d8 q hq))
    have a0 := a0.ma d2 hO d8 (fun _ e => (zj (zj (zj (zj (zD (e)))))))
    have a1 := a1.mt d2 hO d8
    have a2 := a2.ap d2 hO d8 (zj (zj (zj mS)))
    have e2 := e2.ma d2 hO d8 (fun _ e => (zj (zD (e))))
    have a9 := a9.ma d2 hO d8 (fun _ e => (zj (zj (zD (e)))))
    have e9 := e9.ma d2 hO d8 (fun _ e => (zD (e)))
    have hC := hC.st d2 hO d8
    have hO := hO.grow d2 (fun q hq => .inl ((q8 q hq).resolve_right (fun h => nomatch h))) (zu i0) i0.fpl
    refine xe ?_
    clear hS
    refine ze (za _ (yad rfl rfl) (mi rfl (zb ?_)))
    cases hs
    have hO := hO.fr1.drop.fr2.drop.fr3.fr3.fr2.fr3
    exact ⟨_, a3, q6, g2, zG 92 ⟨rfl, rfl, rfl, rfl, rfl, rfl, rfl, rfl, rfl, congrArg (Value.int .i64) hw, trivial⟩, hC, hO, hK, hl0x1, hl0x3, hl0x4, hb0, a0, a1, a2, i0, e2⟩
  ·skip
   have hO := hO.fr3.fr3.fr3.fr3
   exact ⟨_, e8, m4, n1, fr_m 92 rfl, hC, hO, hK, hl0x1, hl0x3, hl0x4, hb0, a0, a1, a2, e7, n3⟩
  cases o829 with
  | nx _ => exact True.intro
  | rt r_ =>
   have hs := zq hs
   intro g4 h4 hK
   cases hs
   exact hK
  | br s825 =>
   have hs := zp hs
   rintro g4 a5 ⟨σ, c3, g0, g7, rfl, hC, hO, hK, hl0x1, hl0x3, hl0x4, hb0, a0, a1, a2, i1, h2⟩
   refine ze (ms rfl (ms rfl ?_))
   obtain ⟨k3, h3, q9, k4, d9, k5⟩ := zg a5 [(sv b6 b7 b8)] 34
   refine za (w' := k3) (sv (some ⟨h3, 0, none⟩) 1 1) (zz rfl (by rw [q9, k4]; kernel_rfl)) ?_
   obtain ⟨hl0x1, hl0x3, hl0x4, hb0, a0, a1, a2, i1⟩ := xt8 d9 hl0x1 hl0x3 hl0x4 hb0 a0 a1 a2 i1
   obtain ⟨h2, hC⟩ := xt2 d9 h2 hC
   have hO := (hO.fr1.new1 d9 k4 k5.lt).perm (R := (h3 :: ((g0) ++ [])) ++ (g7 ++ ([a8] ++ (b1 ++ [])))) (by simp)
   have r0 := hO.nd
   have i2 := Zn (r := (RT.os 3 ri)) (M := c3) (css := [[(sv b6 b7 b8)]]) (fps := [(g0 : List Nat)]) (xs := ([s825.1] : tM)) k5 ⟨(ZJ i1), trivial⟩ (nl rfl) r0
   have i2 : (RT.os 34 (RT.os 3 ri)).val c3 k3 (sv (some ⟨h3, 0, none⟩) 1 1) [s825.1] (h3 :: ((g0) ++ [])) := i2
   obtain ⟨y893, r1, hs⟩ := bind_some hs
   have hO := hO.fr3
   obtain ⟨i3, i4, i5, r2, r3, r4, e4, r5, i6⟩ := ya Rw45 r1 a0 i2 hO.inM (fun g hg hq => hO.apart g hq (zD hg))
   have f0 := zC a0
   refine za (w' := r2) (sv i3 i4 i5) (zN rfl rfl (r4 _)) ?_
   have hO := hO.fr1.fr1
   have hl0x1 := hl0x1.mt e4 hO f0
   have hl0x3 := hl0x3.mt e4 hO f0
   have hl0x4 := hl0x4.mt e4 hO f0
   have hb0 := hb0.mut e4 (fun q hq => hO.inM q (f0 q hq))
   have a1 := a1.mt e4 hO f0
   have a2 := a2.ap e4 hO f0 (zj (zj mS))
   have h2 := h2.ma e4 hO f0 (fun _ e => (zj (zD (e))))
   have hC := hC.st e4 hO f0
   have hO := hO.eat e4 r5 (zu i6) i6.fpl
   refine ax rfl (zb (ze (za _ (yad rfl rfl) (mi rfl (zb ?_)))))
   cases hs
   have hO := hO.fr1.drop.fr1.drop
   exact ⟨_, rfl, Zk hd, _, c3, i3, i4, i5, r3, zG 92 ⟨rfl, rfl, rfl, rfl, congrArg (Value.int .i64) (Yc hlt (Int.natCast_nonneg _) (Xo hl0x1)), trivial⟩, hC, hO, hK, hl0x1, hl0x3, hl0x4, hb0, i6⟩
 ·skip
  exact ⟨0, rfl, rfl, _, M, (some ⟨f5, 0, none⟩), 0, 0, [f5], fr_m 92 rfl, hC, hO, Keeps.refl, hl0x1, hl0x3, hl0x4, hb0, h5⟩
 cases o597 with
 | nx _ => exact True.intro
 | rt r_ =>
  have hs := zq hs
  intro g4 h4 hK
  cases hs
  exact hK
 | br s593 =>
  have hs := zp hs
  rintro g4 a7 ⟨σ, e5, f7, f8, f9, g5, rfl, hC, hO, hK, hl0x1, hl0x3, hl0x4, hb0, r6⟩
  refine c_sr (ms rfl (ax rfl (zb (wp_ret ?_))))
  cases hs
  exact ⟨_, f7, f8, f9, g5, fr_m 92 rfl, hC, (r6.free (Free.os (Free.os Free.int))), hO.top⟩

def WF (M : Nat → Prop) (w0 : World) (r : Int) (a : Act) (w : World) : Prop :=
  ∃ (σ : Nv) , a = fr 20 (ovl σ [(4, (iv r))]) ∧ Chg [] w0 w
def yQ (s_ : List Int) (t : List Int) : Option (Int) :=
  (bif (decide ((s_.length : Int) < (t.length : Int))) then some (-1) else (bif (decide ((t.length : Int) < (s_.length : Int))) then some 1 else (Ze s_ t).bind fun r6 =>
  some r6))
theorem WE {M : Nat → Prop} {w : World} {pa0 : OA} {pn0 pc0 : Nat} {pa1 : OA} {pn1 pc1 : Nat} (s_ : List Int) (t : List Int) (h0 : rl.val M w (sv pa0 pn0 pc0) s_ []) (h1 : rl.val M w (sv pa1 pn1 pc1) t []) (hM : Hm w M) {r : Int} (hs : yQ s_ t = some r) :
    Gives Tryz.prog 105 [(sv pa0 pn0 pc0), (sv pa1 pn1 pc1)] w (fun v w' => v = (iv r) ∧ Chg [] w w') := by
 refine zr Tryz.func105 rfl Tryz.ntmps105 (nl rfl) ?_
 have hO := Own.start (N := Nw w []) hM Nw.fut
 have hC := Chg.refl [] w
 unfold yQ at hs
 refine wp_k (K := (WF M w r)) (by rintro _ _ ⟨σ, rfl, hrest⟩; exact Za Tryz.results105 (zB rfl) ⟨rfl, hrest⟩) (c_sr (ai rfl (zb (zd (wp_block (c_sr (ms rfl (za _ (zn Sl34 (zt h0) rfl) (ms rfl (za _ (zn Sl34 (zt h1) rfl) (za _ (zw rfl rfl) (ab rfl (zb ?_)))))))))))))
 rcases zf hs with ⟨a1, hs⟩ | ⟨a1, hs⟩
 ·refine zh (cb a1) (c_sr (ai rfl (zb (wp_ret ?_))))
  cases hs
  exact ⟨_, fr_m 20 rfl, hC⟩
 refine zi (cb a1) (c_sr (ms rfl (za _ (zn Sl34 (zt h0) rfl) (ms rfl (za _ (zn Sl34 (zt h1) rfl) (za _ (YY rfl rfl) (ab rfl (zb ?_))))))))
 rcases zf hs with ⟨a2, hs⟩ | ⟨a2, hs⟩
 ·refine zh (cb a2) (c_sr (ai rfl (zb (wp_ret ?_))))
  cases hs
  exact ⟨_, fr_m 20 rfl, hC⟩
 refine zi (cb a2) (wp_skip (c_sr (ms rfl (ms rfl ?_))))
 obtain ⟨r6, a3, hs⟩ := bind_some hs
 refine zy Bd91 rfl (Xr (M := M) s_ t h0 h1 hO.fut a3) ?_
 rintro _ a5 ⟨rfl, a0⟩
 obtain ⟨h0, h1, hC, hO⟩ := xt4 a0 h0 h1 hC hO
 refine ai rfl (zb (wp_ret ?_))
 cases hs
 exact ⟨_, fr_m 20 rfl, hC⟩

theorem Bd105 : zF Tryz.prog 105 := zJ Tryz.func105 (by kernel_rfl) rfl

def xz (M : Nat → Prop) (w0 : World) (qa0 : OA) (qn0 qc0 : Nat) (qf0 : List Nat) (r : Bool × tM) (a : Act) (w : World) : Prop :=
  ∃ (σ : Nv) (rfi0 : List Nat), a = fr 99 (ovl σ [(12, (.bool r.1))]) ∧ Chg (qf0 ++ []) w0 w ∧ (RT.os 34 (RT.on 3 ri)).val M w (sv qa0 qn0 qc0) r.2 rfi0 ∧ Own (Nw w0 (qf0 ++ [])) (fun _ => True) w (rfi0 ++ [])
def Zi (best : List (List Int)) (op : Int) (arity : Int) (i : Int) (v_ : Int) (b0 : Int × (List (Int × (List Int))) × Int × (List (List Int)) × (List (ByteArray × Int))) : Option (Bool × (List (List Int))) :=
  (yz i arity (b0.2.2.2.1.length : Int)).bind fun r7 =>
  (forR (S := Int) (R := Bool × (List (List Int))) (fun _ x22 s19 =>
  (idx best x22).bind fun x26 =>
  (bif (List.isEmpty x26) then some (.rt (false, best)) else (idx best x22).bind fun x31 =>
  some (.nx (w64 (s19 + (x31.length : Int)))))) 0 r7 1).bind fun o23 => after o23 (fun r_ => some r_) (fun s19 =>
  ((bif (decide (60 < s19)) then some true else (idx best v_).bind fun x39 =>
  (bif (!(List.isEmpty x39)) then (idx best v_).bind fun x44 =>
  some (decide ((x44.length : Int) < s19)) else some false))).bind fun s35 =>
  (bif s35 then some (false, best) else (forR (S := (List Int)) (R := Bool × (List (List Int))) (fun _ x64 s61 =>
  (idx best x64).bind fun x72 =>
  (app s61 x72).bind fun y77 =>
  some (.nx y77)) 0 r7 ([w64 ((-1) - op)])).bind fun o65 => after o65 (fun r_ => some r_) (fun s61 =>
  ((idx best v_).bind fun x82 =>
  (bif (!(List.isEmpty x82)) then (idx best v_).bind fun x87 =>
  (yQ x87 s61).bind fun r92 =>
  some (decide (r92 ≤ 0)) else some false)).bind fun s79 =>
  (bif s79 then some (false, best) else (idx best v_).bind fun x94 =>
  (nne s61).bind fun u97 =>
  some (true, List.set best (Int.toNat v_) s61)))))
theorem vo {M : Nat → Prop} {w : World} {vg0 : Nat} {pa0 : OA} {pn0 pc0 : Nat} {pf0 : List Nat} {va0x1 : OA} {vn0x1 vc0x1 : Nat} {va0x3 : OA} {vn0x3 vc0x3 : Nat} {vn0x4 : Nat} (best : tM) (op : Int) (arity : Int) (i : Int) (v_ : Int) (b0 : Int × (List (Int × (List Int))) × Int × tM × (List (ByteArray × Int))) (h0 : (RT.os 34 (RT.on 3 ri)).val M w (sv pa0 pn0 pc0) best pf0) (hb0 : RBox M w vg0 90 [(iv b0.1), (sv va0x1 vn0x1 vc0x1), (iv b0.2.2.1), (sv va0x3 vn0x3 vc0x3), (.map (some vn0x4))]) (hl0x1 : rp.val M w (sv va0x1 vn0x1 vc0x1) b0.2.1 []) (hl0x3 : rm.val M w (sv va0x3 vn0x3 vc0x3) b0.2.2.2.1 []) (hl0x4 : (RT.mr (Value.int .i64)).val M w (.map (some vn0x4)) b0.2.2.2.2 []) (hI : Own (Nw w (pf0 ++ [])) M w (pf0 ++ [])) (hM : Hm w M) {r : Bool × tM} (hs : Zi best op arity i v_ b0 = some r) :
    Gives Tryz.prog 93 [(pq vg0 0), (sv pa0 pn0 pc0), (iv op), (iv arity), (iv i), (iv v_)] w (fun v w' => ∃ (rfi0 : List Nat), v = (.bool r.1) ∧ Chg (pf0 ++ []) w w' ∧ (RT.os 34 (RT.on 3 ri)).val M w' (sv pa0 pn0 pc0) r.2 rfi0 ∧ Own (Nw w (pf0 ++ [])) (fun _ => True) w' (rfi0 ++ [])) := by
 refine zr Tryz.func93 rfl Tryz.ntmps93 (nl rfl) ?_
 have hO := hI
 have hC := Chg.refl (pf0 ++ []) w
 unfold Zi at hs
 refine wp_k (K := (xz M w pa0 pn0 pc0 pf0 r)) (by rintro _ _ ⟨σ, rfi0, rfl, hrest⟩; exact Za Tryz.results93 (zB rfl) ⟨rfi0, rfl, hrest⟩) (c_sr (ab rfl (zb (c_sr (mi rfl (mi rfl (mp rfl (za _ (Zs rfl) (za (pq vg0 3) (zk rfl YD) (za _ (ld rfl Ag45 Sz45 hb0.1 rfl) (za _ (zn Sl45 (zt hl0x3) rfl) ?_)))))))))))
 obtain ⟨r7, g2, hs⟩ := bind_some hs
 refine zy Bd34 rfl (wl (M := M) i arity (b0.2.2.2.1.length : Int)  hO.fut g2) ?_
 rintro _ q4 ⟨a7, a8, a9, b1, rfl, b4, a0, g3⟩
 obtain ⟨h0, hl0x1, hl0x3, hl0x4, hb0, hC⟩ := xt6 b4 h0 hl0x1 hl0x3 hl0x4 hb0 hC
 have hO := Own.join0 hO b4 g3
 have hO := hO.perm (R := b1 ++ (pf0 ++ [])) (by simp)
 refine ax rfl (zb (c_sr (ai rfl (zb (zd (c_sr (ms rfl (za _ (zn Sl34 (ZH a0) rfl) (mi rfl (zb ?_))))))))))
 obtain ⟨o23, g4, hs⟩ := bind_some hs
 refine wp_block (YE (id := 0) (I := fun i_ xs_ s19 a a5 => ∃ b2 : Nat, i_ = (b2 : Int) ∧ List.drop b2 r7 = xs_ ∧ (∃ (σ : Nv), a = fr 99 (ovl σ [(1, (sv pa0 pn0 pc0)), (2, (iv op)), (5, (iv v_)), (13, (sv a7 a8 a9)), (14, (iv s19)), (28, (sv a7 a8 a9)), (29, (iv (r7.length : Int))), (30, (iv (b2 : Int)))]) ∧ Chg (pf0 ++ []) w a5 ∧ Own (Nw w (pf0 ++ [])) M a5 (b1 ++ (pf0 ++ [])) ∧ (RT.os 34 (RT.on 3 ri)).val M a5 (sv pa0 pn0 pc0) best pf0 ∧ (RT.os 3 ri).val M a5 (sv a7 a8 a9) r7 b1)) (J := fun s19 a a5 => ∃ (σ : Nv), a = fr 99 (ovl σ [(1, (sv pa0 pn0 pc0)), (2, (iv op)), (5, (iv v_)), (13, (sv a7 a8 a9)), (14, (iv s19))]) ∧ Chg (pf0 ++ []) w a5 ∧ Own (Nw w (pf0 ++ [])) M a5 (b1 ++ (pf0 ++ [])) ∧ (RT.os 34 (RT.on 3 ri)).val M a5 (sv pa0 pn0 pc0) best pf0 ∧ (RT.os 3 ri).val M a5 (sv a7 a8 a9) r7 b1) (K := (xz M w pa0 pn0 pc0 pf0)) ?_ ?_ r7 0 1 o23 _ _ ?_ g4 ?_)
 ·rintro _ s19 a a5 ⟨b2, rfl, hd, σ, rfl, hC, hO, h0, a0⟩
  have hlt := ZI hd
  refine c_sr (za _ (zw rfl rfl) (zb (zd (zi (df hlt) (wp_exit ?_)))))
  have hO := hO.fr1.fr1
  exact ⟨rfl, _, fr_m 99 rfl, hC, hO, h0, a0⟩
 ·rintro _ x22 xs_ s19 o23 a a5 ⟨b2, rfl, hd, σ, rfl, hC, hO, h0, a0⟩ hs
  have hlt := ZB hd
  have g5 := Zt hd
  refine c_sr (za _ (zw rfl rfl) (zb (zd (zh (dt hlt) (wp_skip (zd (wp_block (c_sr ?_))))))))
  obtain ⟨g6, q5, q6, q7, g7, g8, q8⟩ := zS Sl34 Sz3 a0 g5
  refine za _ (ip g7 rfl rfl) (za (iv x22) (zo rfl ((zm Ag3 Sz3 g8) _ (Chg.refl _ _))) (ai rfl (zb (zd (c_sr (ms rfl (mi rfl ?_)))))))
  obtain ⟨x26, g9, hs⟩ := bind_some hs
  obtain ⟨h1, q9, r0, r1, h2, h3, h4⟩ := zS Sl45 Sz34 h0 g9
  have h5 := ZG (Frz.onn Frz.int) h3 h4
  refine za _ (ip h2 rfl rfl) ?_
  obtain ⟨r2, h6, hrow28, f3⟩ := ZR Ag34 Sz34 rfl rfl h5
  obtain ⟨h7, h8, h9, rfl, f3, i0⟩ := vx f3
  refine za (sv h7 h8 h9) (zo rfl (h6 _ (Chg.refl _ _))) (za (.bool (List.isEmpty x26)) (y_nil Tryz.underlying34 rfl rfl i0) (zb ?_))
  rcases zf hs with ⟨d6, hs⟩ | ⟨d6, hs⟩
  ·refine zh (cb d6) (c_sr (ab rfl (zb (wp_ret ?_))))
   cases hs
   have hO := hO.drop
   exact ⟨_, pf0, fr_m 99 rfl, hC, h0, hO.top⟩
  refine zi (cb d6) (wp_skip (ze (mi rfl (ms rfl (mi rfl ?_)))))
  obtain ⟨x31, i1, hs⟩ := bind_some hs
  obtain ⟨i2, r3, r4, r5, i3, i4, i5⟩ := zS Sl45 Sz34 h0 i1
  have i6 := ZG (Frz.onn Frz.int) i4 i5
  refine za _ (ip i3 rfl rfl) ?_
  obtain ⟨r6, i7, hrow33, d7⟩ := ZR Ag34 Sz34 rfl rfl i6
  obtain ⟨i9, j0, j1, rfl, d7, r8⟩ := vx d7
  refine za (sv i9 j0 j1) (zo rfl (i7 _ (Chg.refl _ _))) (za _ (zn Sl34 (zt d7) rfl) (za _ (yad rfl rfl) (ai rfl (zb (ze (za _ (yad rfl rfl) (mi rfl (zb ?_))))))))
  cases hs
  have hO := hO.fr1.fr1
  exact ⟨_, rfl, Zk hd, _, zG 99 ⟨rfl, rfl, rfl, rfl, rfl, rfl, rfl, congrArg (Value.int .i64) (Yc hlt (Int.natCast_nonneg _) (zbX a0)), trivial⟩, hC, hO, h0, a0⟩
 ·skip
  have hO := hO.fr1.fr1
  exact ⟨0, rfl, rfl, _, fr_m 99 rfl, hC, hO, h0, a0⟩
 cases o23 with
 | nx _ => exact True.intro
 | rt r_ =>
  have hs := zq hs
  intro c4 f2 hK
  cases hs
  exact hK
 | br s19 =>
  have hs := zp hs
  rintro c4 a5 ⟨σ, rfl, hC, hO, h0, a0⟩
  refine zd (zd ?_)
  obtain ⟨s35, j2, hs⟩ := bind_some hs
  refine yB (I := fun a d8 => ∃ (σ : Nv), a = fr 99 (ovl σ [(1, (sv pa0 pn0 pc0)), (2, (iv op)), (5, (iv v_)), (13, (sv a7 a8 a9)), (64, (.bool s35))]) ∧ Chg [] a5 d8) ?_ ?_
  ·replace hs := j2
   have hMid := Chg.refl [] a5
   refine ze (mi rfl (za _ (YY rfl rfl) (mb rfl ?_)))
   rcases zf hs with ⟨a1, hs⟩ | ⟨a1, hs⟩
   ·skip
    refine pn 49 (cb a1) (pn 49 (cb a1) (pn 49 (cb a1) (pn 49 (cb a1) (pn 49 (cb a1) (pn 49 (cb a1) (wD (tg := 55) (by kernel_rfl) rfl (wD (tg := 55) (by kernel_rfl) rfl (wD (tg := 55) (by kernel_rfl) rfl (wD (tg := 55) (by kernel_rfl) rfl (wD (tg := 55) (by kernel_rfl) rfl (wD (tg := 55) (by kernel_rfl) rfl (wD (tg := 55) (by kernel_rfl) rfl (pn 49 (cb a1) (za _ (ptb (cb a1) rfl) (zb ?_)))))))))))))))
    cases hs
    exact ⟨_, fr_m 99 rfl, hMid⟩
   refine py 49 (sv pa0 pn0 pc0) (cb a1) (zx rfl) (py 49 (iv v_) (cb a1) (zx rfl) ?_)
   obtain ⟨x39, j3, hs⟩ := bind_some hs
   obtain ⟨j4, r9, s0, s1, j5, j6, j7⟩ := zS Sl45 Sz34 h0 j3
   have j8 := ZG (Frz.onn Frz.int) j6 j7
   refine py 49 _ (cb a1) (ip j5 rfl rfl) ?_
   obtain ⟨s2, j9, hrow41, f4⟩ := ZR Ag34 Sz34 rfl rfl j8
   obtain ⟨k0, k1, k2, rfl, f4, k3⟩ := vx f4
   refine py 49 (sv k0 k1 k2) (cb a1) (zo rfl (j9 _ (Chg.refl _ _))) (py 49 (.bool (!(List.isEmpty x39))) (cb a1) (y_nnil Tryz.underlying34 rfl rfl k3) (py 49 (.bool (!(List.isEmpty x39))) (cb a1) (zx rfl) ?_))
   rcases zf hs with ⟨a2, hs⟩ | ⟨a2, hs⟩
   ·skip
    refine py 55 (sv pa0 pn0 pc0) (cb a2) (zx rfl) (py 55 (iv v_) (cb a2) (zx rfl) ?_)
    obtain ⟨x44, k4, hs⟩ := bind_some hs
    obtain ⟨k5, s3, s4, s5, k6, k7, k8⟩ := zS Sl45 Sz34 h0 k4
    have k9 := ZG (Frz.onn Frz.int) k7 k8
    refine py 55 _ (cb a2) (ip k6 rfl rfl) ?_
    obtain ⟨s6, l0, hrow46, d9⟩ := ZR Ag34 Sz34 rfl rfl k9
    obtain ⟨l1, l2, l3, rfl, d9, s7⟩ := vx d9
    refine py 55 (sv l1 l2 l3) (cb a2) (zo rfl (l0 _ (Chg.refl _ _))) (py 55 _ (cb a2) (zn Sl34 (zt d9) rfl) (py 55 (iv s19) (cb a2) (zx rfl) (py 55 _ (cb a2) (zw rfl rfl) (py 49 _ (cb a1) (ptb (cb a2) rfl) (za _ (pfb (cb a1) rfl) (zb ?_))))))
    cases hs
    exact ⟨_, fr_m 99 rfl, hMid⟩
   refine pn 55 (cb a2) (pn 55 (cb a2) (pn 55 (cb a2) (pn 55 (cb a2) (pn 55 (cb a2) (pn 55 (cb a2) (pn 55 (cb a2) (py 49 _ (cb a1) (pfb (cb a2) rfl) (za _ (pfb (cb a1) rfl) (zb ?_)))))))))
   cases hs
   exact ⟨_, fr_m 99 rfl, hMid⟩
  rintro c4 d8 ⟨σ, rfl, d2⟩
  obtain ⟨h0, a0, hC, hO⟩ := xt4 d2 h0 a0 hC hO
  rcases zf hs with ⟨e0, hs⟩ | ⟨e0, hs⟩
  ·refine zh (cb e0) (c_sr (ab rfl (zb (wp_ret ?_))))
   cases hs
   have hO := hO.drop
   exact ⟨_, pf0, fr_m 99 rfl, hC, h0, hO.top⟩
  refine zi (cb e0) (wp_skip (c_sr (mi rfl (za _ (ysu rfl rfl) ?_))))
  obtain ⟨f5, c0, l4, f6, d3, f7⟩ := zg d8 [(iv (w64 ((-1) - op)))] 3
  refine za (w' := f5) (sv (some ⟨c0, 0, none⟩) 1 1) (zz rfl (by rw [l4, f6]; kernel_rfl)) ?_
  obtain ⟨h0, a0, hC⟩ := xt3 d3 h0 a0 hC
  have hO := hO.new1 d3 f6 f7.lt
  have e1 := Zn (r := ri) (M := M) (css := [[(iv (w64 ((-1) - op)))]]) (fps := [([] : List Nat)]) (xs := ([w64 ((-1) - op)] : List Int)) f7 ⟨⟨rfl, rfl⟩, trivial⟩ (nl rfl) (List.nodup_cons.2 ⟨(fun h => nomatch h), List.nodup_nil⟩)
  have e1 : (RT.os 3 ri).val M f5 (sv (some ⟨c0, 0, none⟩) 1 1) [w64 ((-1) - op)] [c0] := e1
  refine ax rfl (zb (zd (c_sr (ms rfl (za _ (zn Sl34 (ZH a0) rfl) (mi rfl (zb ?_)))))))
  obtain ⟨o65, l5, hs⟩ := bind_some hs
  refine wp_block (YE (id := 2) (I := fun i_ xs_ s61 a a4 => ∃ b3 : Nat, i_ = (b3 : Int) ∧ List.drop b3 r7 = xs_ ∧ (∃ (σ : Nv) (c1 : OA) (c2 : Nat) (c3 : Nat) (c5 : List Nat), a = fr 99 (ovl σ [(1, (sv pa0 pn0 pc0)), (5, (iv v_)), (17, (sv c1 c2 c3)), (68, (sv a7 a8 a9)), (69, (iv (r7.length : Int))), (70, (iv (b3 : Int)))]) ∧ Chg (pf0 ++ []) w a4 ∧ Own (Nw w (pf0 ++ [])) M a4 (c5 ++ (b1 ++ (pf0 ++ []))) ∧ (RT.os 34 (RT.on 3 ri)).val M a4 (sv pa0 pn0 pc0) best pf0 ∧ (RT.os 3 ri).val M a4 (sv a7 a8 a9) r7 b1 ∧ (RT.os 3 ri).val M a4 (sv c1 c2 c3) s61 c5)) (J := fun s61 a a4 => ∃ (σ : Nv) (b5 : OA) (b6 : Nat) (b7 : Nat) (b8 : List Nat), a = fr 99 (ovl σ [(1, (sv pa0 pn0 pc0)), (5, (iv v_)), (17, (sv b5 b6 b7))]) ∧ Chg (pf0 ++ []) w a4 ∧ Own (Nw w (pf0 ++ [])) M a4 (b8 ++ (b1 ++ (pf0 ++ []))) ∧ (RT.os 34 (RT.on 3 ri)).val M a4 (sv pa0 pn0 pc0) best pf0 ∧ (RT.os 3 ri).val M a4 (sv a7 a8 a9) r7 b1 ∧ (RT.os 3 ri).val M a4 (sv b5 b6 b7) s61 b8) (K := (xz M w pa0 pn0 pc0 pf0)) ?_ ?_ r7 0 ([w64 ((-1) - op)]) o65 _ _ ?_ l5 ?_)
  ·rintro _ s61 a a4 ⟨b3, rfl, hd, σ, c1, c2, c3, c5, rfl, hC, hO, h0, a0, d4⟩
   have hlt := ZI hd
   refine c_sr (za _ (zw rfl rfl) (zb (zd (zi (df hlt) (wp_exit ?_)))))
   have hO := hO.fr2.fr2.fr2
   exact ⟨rfl, _, c1, c2, c3, c5, fr_m 99 rfl, hC, hO, h0, a0, d4⟩
  ·rintro _ x64 xs_ s61 o65 a a4 ⟨b3, rfl, hd, σ, c1, c2, c3, c5, rfl, hC, hO, h0, a0, d4⟩ hs
   have hlt := ZB hd
   have l6 := Zt hd
   refine c_sr (za _ (zw rfl rfl) (zb (zd (zh (dt hlt) (wp_skip (zd (wp_block (c_sr ?_))))))))
   obtain ⟨l7, s8, s9, t0, l8, l9, t1⟩ := zS Sl34 Sz3 a0 l6
   refine za _ (ip l8 rfl rfl) (za (iv x64) (zo rfl ((zm Ag3 Sz3 l9) _ (Chg.refl _ _))) (ai rfl (zb (ze (ms rfl (ms rfl (mi rfl ?_)))))))
   obtain ⟨x72, m0, hs⟩ := bind_some hs
   obtain ⟨m1, t2, t3, t4, m2, m3, m4⟩ := zS Sl45 Sz34 h0 m0
   have m5 := ZG (Frz.onn Frz.int) m3 m4
   refine za _ (ip m2 rfl rfl) ?_
   obtain ⟨t5, m6, hrow74, c6⟩ := ZR Ag34 Sz34 rfl rfl m5
   obtain ⟨m7, m8, m9, rfl, c6, t6⟩ := vx c6
   refine za (sv m7 m8 m9) (zo rfl (m6 _ (Chg.refl _ _))) ?_
   obtain ⟨y77, n0, hs⟩ := bind_some hs
   have hO := hO.fr2.fr1
   obtain ⟨e2, e3, e4, n1, n2, n3, c7, n4, c8⟩ := wi Rw34 n0 (d4.sub (M' := (Less M pf0)) Less.sub) c6 (fun g hg => ⟨hO.inM g hg, fun hq => hO.apart g hg (zD hq)⟩)
   have c8 := c8.free (M' := M) (Free.os Free.int)
   have c9 := zC d4
   refine za (w' := n1) (sv e2 e3 e4) (zN rfl rfl (n3 _)) ?_
   have h0 := h0.ma c7 hO c9 (fun _ e => (zD (e)))
   have a0 := a0.ma c7 hO c9 (fun _ e => (zj (zD (e))))
   have c6 := c6.mut c7 (fun g hg => ⟨hO.inM g (c9 g hg), fun e => hO.apart g (c9 g hg) (zD (e))⟩) (fun _ _ h => nomatch h)
   have hC := hC.st c7 hO c9
   have hO := hO.grow c7 n4 (zu c8) c8.fpl
   refine ax rfl (zb (ze (za _ (yad rfl rfl) (mi rfl (zb ?_)))))
   cases hs
   have hO := hO.fr1.fr2.fr2
   exact ⟨_, rfl, Zk hd, _, e2, e3, e4, n2, zG 99 ⟨rfl, rfl, rfl, rfl, rfl, congrArg (Value.int .i64) (Yc hlt (Int.natCast_nonneg _) (zbX a0)), trivial⟩, hC, hO, h0, a0, c8⟩
  ·skip
   have hO := hO.fr2.fr2.fr2
   exact ⟨0, rfl, rfl, _, (some ⟨c0, 0, none⟩), 1, 1, [c0], fr_m 99 rfl, hC, hO, h0, a0, e1⟩
  cases o65 with
  | nx _ => exact True.intro
  | rt r_ =>
   have hs := zq hs
   intro c4 f2 hK
   cases hs
   exact hK
  | br s61 =>
   have hs := zp hs
   rintro c4 a4 ⟨σ, b5, b6, b7, b8, rfl, hC, hO, h0, a0, b9⟩
   refine zd (zd ?_)
   obtain ⟨s79, n5, hs⟩ := bind_some hs
   refine yB (I := fun a f8 => ∃ (σ : Nv), a = fr 99 (ovl σ [(1, (sv pa0 pn0 pc0)), (5, (iv v_)), (17, (sv b5 b6 b7)), (94, (.bool s79))]) ∧ Chg [] a4 f8) ?_ ?_
   ·replace hs := n5
    have hMid := Chg.refl [] a4
    refine ze (ms rfl (mi rfl ?_))
    obtain ⟨x82, n6, hs⟩ := bind_some hs
    obtain ⟨n7, t7, t8, t9, n8, e5, n9⟩ := zS Sl45 Sz34 h0 n6
    have e6 := ZG (Frz.onn Frz.int) e5 n9
    refine za _ (ip n8 rfl rfl) ?_
    obtain ⟨u0, o0, hrow84, d5⟩ := ZR Ag34 Sz34 rfl rfl e6
    obtain ⟨o1, o2, o3, rfl, d5, o4⟩ := vx d5
    refine za (sv o1 o2 o3) (zo rfl (o0 _ (Chg.refl _ _))) (za (.bool (!(List.isEmpty x82))) (y_nnil Tryz.underlying34 rfl rfl o4) (mb rfl ?_))
    rcases zf hs with ⟨a3, hs⟩ | ⟨a3, hs⟩
    ·skip
     refine py 86 (sv pa0 pn0 pc0) (cb a3) (zx rfl) (py 86 (iv v_) (cb a3) (zx rfl) ?_)
     obtain ⟨x87, o5, hs⟩ := bind_some hs
     obtain ⟨o6, u1, u2, u3, o7, e7, o8⟩ := zS Sl45 Sz34 h0 o5
     have e8 := ZG (Frz.onn Frz.int) e7 o8
     refine py 86 _ (cb a3) (ip o7 rfl rfl) ?_
     obtain ⟨u4, o9, hrow89, d0⟩ := ZR Ag34 Sz34 rfl rfl e8
     obtain ⟨p0, p1, p2, rfl, d0, u5⟩ := vx d0
     refine py 86 (sv p0 p1 p2) (cb a3) (zo rfl (o9 _ (Chg.refl _ _))) (py 86 (sv b5 b6 b7) (cb a3) (zx rfl) ?_)
     have hO := hO.fr2
     obtain ⟨r92, p3, hs⟩ := bind_some hs
     refine yt (tg := 86) (by kernel_rfl) (cb a3) Bd105 rfl (WE (M := (Less (Less M pf0) b8)) x87 s61 (d0.sub (M' := (Less (Less M pf0) b8)) (fun g h => .inl (by simp only [Less] at h ⊢; simp [h]))) (((Frz.os Frz.int)).val (b9.sub Less.sub) Less.sub Less.not) (hO.less).less.fut p3) ?_
     rintro _ u6 ⟨rfl, a6⟩
     obtain ⟨h0, a0, b9, d5, hrow84, d0, hrow89, hMid⟩ := xt8 a6 h0 a0 b9 d5 hrow84 d0 hrow89 hMid
     obtain ⟨e5, e6, e7, e8, hC, hO⟩ := xt6 a6 e5 e6 e7 e8 hC hO
     refine py 86 _ (cb a3) (wx rfl rfl) (za _ (ptb (cb a3) rfl) (zb ?_))
     cases hs
     exact ⟨_, fr_m 99 rfl, hMid⟩
    refine pn 86 (cb a3) (pn 86 (cb a3) (pn 86 (cb a3) (pn 86 (cb a3) (pn 86 (cb a3) (pn 86 (cb a3) (pn 86 (cb a3) (za _ (pfb (cb a3) rfl) (zb ?_))))))))
    cases hs
    exact ⟨_, fr_m 99 rfl, hMid⟩
   rintro c4 f8 ⟨σ, rfl, d1⟩
   obtain ⟨h0, a0, b9, hC, hO⟩ := xt5 d1 h0 a0 b9 hC hO
   rcases zf hs with ⟨e9, hs⟩ | ⟨e9, hs⟩
   ·refine zh (cb e9) (c_sr (ab rfl (zb (wp_ret ?_))))
    cases hs
    have hO := hO.drop.drop
    exact ⟨_, pf0, fr_m 99 rfl, hC, h0, hO.top⟩
   refine zi (cb e9) (wp_skip (c_sr (ms rfl (mi rfl (ms rfl ?_)))))
   obtain ⟨x94, p4, hs⟩ := bind_some hs
   obtain ⟨f9, u7, g0, p5, p6, p7, p8⟩ := zS Sl45 Sz34 h0 p4
   have u9 := ZG (Frz.onn Frz.int) p7 p8
   refine za _ (ip p6 rfl rfl) ?_
   obtain ⟨u97, p9, hs⟩ := bind_some hs
   have hO := hO.fr2
   obtain ⟨q0, q1, q2, f0, q3, f1⟩ := yH (P := Tryz.prog) (c' := [(sv b5 b6 b7)]) g0 h0 p5 (fun g hg => hO.inM g (zC h0 g (by simpa using hg))) (zbd b9 (os_nn b9 p9)) (hO.drop.perm (R := b8 ++ (b1 ++ [])) (by simp)).nd (fun g hg hq => hO.apart g hq (by simp only [List.mem_append, List.not_mem_nil, false_or, or_false] at hg ⊢; simp [hg])) (fun _ h => .inl h)
   have g1 : ∀ q ∈ [f9], q ∈ pf0 := fun q hq => zC h0 q (by rw [g0]; exact hq)
   refine Zh (w' := q0) (zY rfl rfl (q2 _ _ rfl Sz34)) ?_
   have hO := hO.fr1.fr1
   have a0 := a0.ma f0 hO g1 (fun _ e => (zj (zD (e))))
   have hC := hC.st f0 hO g1
   have hO := (hO.perm (R := pf0 ++ (b8 ++ (b1 ++ []))) (by simp)).eat f0 (fun q hq => (q3 q hq).elim .inl (fun h => .inr (.inl h))) (zu f1) f1.fpl
   refine zb (c_sr (ab rfl (zb (wp_ret ?_))))
   cases hs
   have hO := hO.fr1.drop
   exact ⟨_, q1, fr_m 99 rfl, hC, f1, hO.top⟩

theorem Bd31 : zF Tryz.prog 31 := zJ Tryz.func31 (by kernel_rfl) rfl

theorem Bd93 : zF Tryz.prog 93 := zJ Tryz.func93 (by kernel_rfl) rfl

def yi (M : Nat → Prop) (w0 : World) (r : tM) (a : Act) (w : World) : Prop :=
  ∃ (σ : Nv) (ra0 : OA) (rn0 rc0 : Nat) (rf0 : List Nat), a = fr 81 (ovl σ [(4, (sv ra0 rn0 rc0))]) ∧ Chg [] w0 w ∧ (RT.os 34 (RT.on 3 ri)).val M w (sv ra0 rn0 rc0) r rf0 ∧ Own (Nw w0 []) (fun _ => True) w (rf0 ++ [])
def yj (gens : List (List Int)) (b0 : Int × (List (Int × (List Int))) × Int × (List (List Int)) × (List (ByteArray × Int))) : Option ((List (List Int))) :=
  (mks (b0.2.2.2.1.length : Int) ([] : List Int)).bind fun y7 =>
  (forC (S := (List (List Int))) (R := (List (List Int))) (fun k54 s52 =>
  (idx gens k54).bind fun x60 =>
  (ZC x60).bind fun r70 =>
  (idx s52 ((mget b0.2.2.2.2 r70).getD 0)).bind fun x71 =>
  (bif (List.isEmpty x71) then (idx s52 ((mget b0.2.2.2.2 r70).getD 0)).bind fun x78 =>
  (nne ([k54])).bind fun u81 =>
  some (.nx (List.set s52 (Int.toNat ((mget b0.2.2.2.2 r70).getD 0)) ([k54]))) else some (.nx s52))) 0 (gens.length : Int) y7).bind fun o56 => after o56 (fun r_ => some r_) (fun s52 =>
  (Zu (b0.1, b0.2.1, b0.2.2.1, b0.2.2.2.1, b0.2.2.2.2)).bind fun r83 =>
  (iter (S := Bool × (List (List Int))) (R := (List (List Int))) (fun s310 =>
  (bif s310.1 then (forC (S := Bool × (List (List Int))) (R := (List (List Int))) (fun k390 s388 =>
  (idx b0.2.1 k390).bind fun x396 =>
  (idx r83 k390).bind fun x402 =>
  (forC (S := Bool × (List (List Int))) (R := (List (List Int))) (fun k419 s417 =>
  (idx x402 k419).bind fun x425 =>
  (Zi s417.2 k390 x396.1 k419 x425 (b0.1, b0.2.1, b0.2.2.1, b0.2.2.2.1, b0.2.2.2.2)).bind fun r428 =>
  (bif r428.1 then some (.nx (true, r428.2)) else some (.nx (s417.1, r428.2)))) 0 (x402.length : Int) (s388.1, s388.2)).bind fun o421 => after o421 (fun r_ => some (.rt r_)) (fun s417 =>
  some (.nx (s417.1, s417.2)))) 0 (b0.2.1.length : Int) (false, s310.2)).bind fun o392 => after o392 (fun r_ => some (.rt r_)) (fun s388 =>
  some (.nx (s388.1, s388.2))) else some (.br (s310.1, s310.2)))) FU (true, s52)).bind fun o314 => after o314 (fun r_ => some r_) (fun s310 =>
  some s310.2))
theorem wC {M : Nat → Prop} {w : World} {vg0 : Nat} {pa0 : OA} {pn0 pc0 : Nat} {va0x1 : OA} {vn0x1 vc0x1 : Nat} {va0x3 : OA} {vn0x3 vc0x3 : Nat} {vn0x4 : Nat} (gens : tM) (b0 : Int × (List (Int × (List Int))) × Int × tM × (List (ByteArray × Int))) (h0 : rm.val M w (sv pa0 pn0 pc0) gens []) (hb0 : RBox M w vg0 90 [(iv b0.1), (sv va0x1 vn0x1 vc0x1), (iv b0.2.2.1), (sv va0x3 vn0x3 vc0x3), (.map (some vn0x4))]) (hl0x1 : rp.val M w (sv va0x1 vn0x1 vc0x1) b0.2.1 []) (hl0x3 : rm.val M w (sv va0x3 vn0x3 vc0x3) b0.2.2.2.1 []) (hl0x4 : (RT.mr (Value.int .i64)).val M w (.map (some vn0x4)) b0.2.2.2.2 []) (hM : Hm w M) {r : tM} (hs : yj gens b0 = some r) :
    Gives Tryz.prog 62 [(pq vg0 0), (sv pa0 pn0 pc0)] w (fun v w' => ∃ (ra0 : OA) (rn0 rc0 : Nat) (rf0 : List Nat), v = (sv ra0 rn0 rc0) ∧ Chg [] w w' ∧ (RT.os 34 (RT.on 3 ri)).val M w' (sv ra0 rn0 rc0) r rf0 ∧ Own (Nw w []) (fun _ => True) w' (rf0 ++ [])) := by
 refine zr Tryz.func62 rfl Tryz.ntmps62 (nl rfl) ?_
 have hO := Own.start (N := Nw w []) hM Nw.fut
 have hC := Chg.refl [] w
 unfold yj at hs
 refine wp_k (K := (yi M w r)) (by rintro _ _ ⟨σ, ra0, rn0, rc0, rf0, rfl, hrest⟩; exact Za Tryz.results62 (zB rfl) ⟨ra0, rn0, rc0, rf0, rfl, hrest⟩) (c_sr (ax rfl (zb (c_sr (mp rfl (za _ (Zs rfl) (za (pq vg0 3) (zk rfl YD) (za _ (ld rfl Ag45 Sz45 hb0.1 rfl) (za _ (zn Sl45 (zt hl0x3) rfl) ?_)))))))))
 obtain ⟨y7, h3, hs⟩ := bind_some hs
 obtain ⟨a2, a3, a4, h4, h5, h6, c9, h7, e8⟩ := YX (M := M) (w := w) (r := (RT.on 3 ri)) Rw45 h3 (fun _ _ => on_nil)
 refine za (w' := h4) (sv a2 a3 a4) (yC rfl rfl h6) ?_
 obtain ⟨h0, hl0x1, hl0x3, hl0x4, hb0, hC⟩ := xt6 c9 h0 hl0x1 hl0x3 hl0x4 hb0 hC
 have hO := hO.new c9 h7 (zu e8) e8.fpl
 refine ax rfl (zb (zd (c_sr (ms rfl (za _ (zn Sl45 (zt h0) rfl) (mi rfl (zb ?_)))))))
 obtain ⟨o56, h8, hs⟩ := bind_some hs
 refine wp_block (zT (id := 0) (gens.length : Int) (I := fun k54 s52 a a5 => ∃ (σ : Nv) (c3 : List Nat), a = fr 81 (ovl σ [(0, (pq vg0 0)), (5, (sv a2 a3 a4)), (21, (sv pa0 pn0 pc0)), (22, (iv (gens.length : Int))), (23, (iv k54))]) ∧ Chg [] w a5 ∧ Own (Nw w []) M a5 (c3 ++ []) ∧ rm.val M a5 (sv pa0 pn0 pc0) gens [] ∧ rp.val M a5 (sv va0x1 vn0x1 vc0x1) b0.2.1 [] ∧ rm.val M a5 (sv va0x3 vn0x3 vc0x3) b0.2.2.2.1 [] ∧ (RT.mr (Value.int .i64)).val M a5 (.map (some vn0x4)) b0.2.2.2.2 [] ∧ RBox M a5 vg0 90 [(iv b0.1), (sv va0x1 vn0x1 vc0x1), (iv b0.2.2.1), (sv va0x3 vn0x3 vc0x3), (.map (some vn0x4))] ∧ (RT.os 34 (RT.on 3 ri)).val M a5 (sv a2 a3 a4) s52 c3) (J := fun s52 a a5 => ∃ (σ : Nv) (d4 : List Nat), a = fr 81 (ovl σ [(0, (pq vg0 0)), (5, (sv a2 a3 a4))]) ∧ Chg [] w a5 ∧ Own (Nw w []) M a5 (d4 ++ []) ∧ rm.val M a5 (sv pa0 pn0 pc0) gens [] ∧ rp.val M a5 (sv va0x1 vn0x1 vc0x1) b0.2.1 [] ∧ rm.val M a5 (sv va0x3 vn0x3 vc0x3) b0.2.2.2.1 [] ∧ (RT.mr (Value.int .i64)).val M a5 (.map (some vn0x4)) b0.2.2.2.2 [] ∧ RBox M a5 vg0 90 [(iv b0.1), (sv va0x1 vn0x1 vc0x1), (iv b0.2.2.1), (sv va0x3 vn0x3 vc0x3), (.map (some vn0x4))] ∧ (RT.os 34 (RT.on 3 ri)).val M a5 (sv a2 a3 a4) s52 d4) (K := (yi M w)) ?_ ?_ 0 y7 o56 _ _ ?_ h8 ?_)
 ·rintro k54 s52 a a5 ⟨σ, c3, rfl, hC, hO, h0, hl0x1, hl0x3, hl0x4, hb0, a9⟩ hlt
  refine c_sr (za _ (zw rfl rfl) (zb (zd (zi (df hlt) (wp_exit ?_)))))
  exact ⟨rfl, _, c3, fr_m 81 rfl, hC, hO, h0, hl0x1, hl0x3, hl0x4, hb0, a9⟩
 ·rintro k54 s52 o56 a a5 ⟨σ, c3, rfl, hC, hO, h0, hl0x1, hl0x3, hl0x4, hb0, a9⟩ hlt hw hs
  refine c_sr (za _ (zw rfl rfl) (zb (zd (zh (dt hlt) (wp_skip (zd (wp_block (c_sr (mi rfl ?_)))))))))
  obtain ⟨x60, h9, hs⟩ := bind_some hs
  obtain ⟨i0, i1, i2, i3⟩ := zK Sl45 Sz34 h0 h9
  refine za _ (ip i2 rfl rfl) ?_
  obtain ⟨o6, i4, d5⟩ := Zc Ag34 Sz34 (fun _ => rfl) i3
  obtain ⟨e9, f0, f1, rfl⟩ := yl d5
  refine za (sv e9 f0 f1) (zo rfl (i4 _ (Chg.refl _ _))) (ai rfl (ax rfl (zb (zd (zQ [] Mx rfl ?_)))))
  have b9 := Chg.drew a5
  generalize World.drew a5 = i5 at b9 ⊢
  obtain ⟨h0, hl0x1, hl0x3, hl0x4, hb0, a9, d5, hC⟩ := xt8 b9 h0 hl0x1 hl0x3 hl0x4 hb0 a9 d5 hC
  have hO := hO.ext b9
  have hS := Chg.refl [] i5
  refine xmp 0 rfl rfl hS (xq 1 _ rfl (Zs rfl) hS (xq 2 (pq vg0 4) rfl (zk rfl Va) hS (xl 3 rfl (ldx rfl Ag88 Sz88 hb0.1 rfl) hS (xms 4 rfl rfl hS (zI (i := 5) (by kernel_rfl) ?_)))))
  obtain ⟨r70, i6, hs⟩ := bind_some hs
  refine zL (b := false) rfl Bd60 rfl (xc (M := M) x60 d5 hO.fut i6) rfl (by rintro _ _ _ ⟨rfl, b5⟩; exact hS.ext b5) ?_
  rintro _ i7 ⟨rfl, b5⟩
  obtain ⟨h0, hl0x1, hl0x3, hl0x4, hb0, a9, d5, hC⟩ := xt8 b5 h0 hl0x1 hl0x3 hl0x4 hb0 a9 d5 hC
  obtain ⟨hO, hS⟩ := xt2 b5 hO hS
  refine zI (i := 6) (by kernel_rfl) (zR (b := false) (iv ((mget b0.2.2.2.2 r70).getD 0)) rfl (zbV (enc := (Value.int .i64)) Tryz.underlying88 Tryz.underlying9 Zv3 (mr_at hl0x4) rfl rfl) rfl (fun _ => hS) (xq 7 (iv ((mget b0.2.2.2.2 r70).getD 0)) rfl (zA rfl) hS (xe ?_)))
  clear hS
  refine c_sr (ms rfl (mi rfl ?_))
  obtain ⟨x71, i9, hs⟩ := bind_some hs
  obtain ⟨j0, o7, o8, o9, j1, j2, j3⟩ := zS Sl45 Sz34 a9 i9
  have j4 := ZG (Frz.onn Frz.int) j2 j3
  refine za _ (ip j1 rfl rfl) ?_
  obtain ⟨p0, j5, hrow73, g0⟩ := ZR Ag34 Sz34 rfl rfl j4
  obtain ⟨j6, j7, j8, rfl, g0, j9⟩ := vx g0
  refine za (sv j6 j7 j8) (zo rfl (j5 _ (Chg.refl _ _))) (za (.bool (List.isEmpty x71)) (y_nil Tryz.underlying34 rfl rfl j9) (zb ?_))
  rcases zf hs with ⟨f2, hs⟩ | ⟨f2, hs⟩
  ·refine zh (cb f2) (ze (ms rfl (mi rfl (mi rfl ?_))))
   obtain ⟨g1, d6, k0, g2, c4, g3⟩ := zg i7 [(iv k54)] 3
   refine za (w' := g1) (sv (some ⟨d6, 0, none⟩) 1 1) (zz rfl (by rw [k0, g2]; kernel_rfl)) ?_
   obtain ⟨h0, hl0x1, hl0x3, hl0x4, hb0, a9, hC⟩ := xt7 c4 h0 hl0x1 hl0x3 hl0x4 hb0 a9 hC
   have hO := hO.new1 c4 g2 g3.lt
   have e1 := os1 (M := M) g3
   obtain ⟨x78, k1, hs⟩ := bind_some hs
   obtain ⟨g4, p1, g5, k2, k3, k4, k5⟩ := zS Sl45 Sz34 a9 k1
   have p2 := ZG (Frz.onn Frz.int) k4 k5
   refine za _ (ip k3 rfl rfl) ?_
   obtain ⟨u81, k6, hs⟩ := bind_some hs
   have hO := hO.fr1
   obtain ⟨k7, k8, k9, d0, l0, f3⟩ := yH (P := Tryz.prog) (c' := [(sv (some ⟨d6, 0, none⟩) 1 1)]) g5 a9 k2 (fun g hg => hO.inM g (zC a9 g (by simpa using hg))) (zbd e1 (os_nn e1 k6)) (hO.drop.perm (R := [d6] ++ []) (by simp)).nd (fun g hg hq => hO.apart g hq (by simp only [List.mem_append, List.not_mem_nil, false_or, or_false] at hg ⊢; simp [hg])) (fun _ h => .inl h)
   have d7 : ∀ q ∈ [g4], q ∈ c3 := fun q hq => zC a9 q (by rw [g5]; exact hq)
   refine Zh (w' := k7) (zY rfl rfl (k9 _ _ rfl Sz34)) ?_
   have hO := hO.fr1.fr1
   have h0 := h0.mt d0 hO d7
   have hl0x1 := hl0x1.mt d0 hO d7
   have hl0x3 := hl0x3.mt d0 hO d7
   have hl0x4 := hl0x4.mt d0 hO d7
   have hb0 := hb0.mut d0 (fun q hq => hO.inM q (d7 q hq))
   have hC := hC.st d0 hO d7
   have hO := (hO.perm (R := c3 ++ ([d6] ++ [])) (by simp)).eat d0 (fun q hq => (l0 q hq).elim .inl (fun h => .inr (.inl h))) (zu f3) f3.fpl
   refine zb (ze (za _ (yad rfl rfl) (mi rfl (zb ?_))))
   cases hs
   exact ⟨_, k8, zG 81 ⟨rfl, rfl, rfl, rfl, congrArg (Value.int .i64) hw, trivial⟩, hC, hO, h0, hl0x1, hl0x3, hl0x4, hb0, f3⟩
  refine zi (cb f2) (wp_skip (ze (za _ (yad rfl rfl) (mi rfl (zb ?_)))))
  cases hs
  exact ⟨_, c3, zG 81 ⟨rfl, rfl, rfl, rfl, congrArg (Value.int .i64) hw, trivial⟩, hC, hO, h0, hl0x1, hl0x3, hl0x4, hb0, a9⟩
 ·skip
  exact ⟨_, h5, fr_m 81 rfl, hC, hO, h0, hl0x1, hl0x3, hl0x4, hb0, e8⟩
 cases o56 with
 | nx _ => exact True.intro
 | rt r_ =>
  have hs := zq hs
  intro d1 e0 hK
  cases hs
  exact hK
 | br s52 =>
  have hs := zp hs
  rintro d1 a5 ⟨σ, d4, rfl, hC, hO, h0, hl0x1, hl0x3, hl0x4, hb0, f4⟩
  refine c_sr (mp rfl ?_)
  obtain ⟨r83, l1, hs⟩ := bind_some hs
  refine zy Bd31 rfl (Yw (M := M) (b0.1, b0.2.1, b0.2.2.1, b0.2.2.2.1, b0.2.2.2.2) (show RBox M _ vg0 90 [(iv b0.1), (sv va0x1 vn0x1 vc0x1), (iv b0.2.2.1), (sv va0x3 vn0x3 vc0x3), (.map (some vn0x4))] from hb0) hl0x1 hl0x3 hl0x4 hO.fut l1) ?_
  rintro _ p3 ⟨b1, b2, b3, a8, rfl, c5, a1, l2⟩
  have hO := hO.perm (R := [] ++ (d4 ++ [])) (by simp)
  obtain ⟨h0, hl0x1, hl0x3, hl0x4, hb0, f4, hC⟩ := xt7 c5 h0 hl0x1 hl0x3 hl0x4 hb0 f4 hC
  have hO := Own.join hO c5 l2
  have hO := hO.perm (R := a8 ++ (d4 ++ [])) (by simp)
  refine ax rfl (zb (zd (c_sr (ab rfl (zb ?_)))))
  obtain ⟨o314, l3, hs⟩ := bind_some hs
  refine wp_block (Zy (id := 2) (I := fun s310 a a7 => ∃ (σ : Nv) (d9 : List Nat), a = fr 81 (ovl σ [(0, (pq vg0 0)), (5, (sv a2 a3 a4)), (9, (sv b1 b2 b3)), (10, (.bool s310.1))]) ∧ Chg [] w a7 ∧ Own (Nw w []) M a7 (a8 ++ (d9 ++ [])) ∧ rp.val M a7 (sv va0x1 vn0x1 vc0x1) b0.2.1 [] ∧ rm.val M a7 (sv va0x3 vn0x3 vc0x3) b0.2.2.2.1 [] ∧ (RT.mr (Value.int .i64)).val M a7 (.map (some vn0x4)) b0.2.2.2.2 [] ∧ RBox M a7 vg0 90 [(iv b0.1), (sv va0x1 vn0x1 vc0x1), (iv b0.2.2.1), (sv va0x3 vn0x3 vc0x3), (.map (some vn0x4))] ∧ (RT.os 34 (RT.on 3 ri)).val M a7 (sv a2 a3 a4) s310.2 d9 ∧ (RT.os 34 (RT.os 3 ri)).val M a7 (sv b1 b2 b3) r83 a8) (J := fun s310 a a7 => ∃ (σ : Nv) (e2 : List Nat), a = fr 81 (ovl σ [(5, (sv a2 a3 a4))]) ∧ Chg [] w a7 ∧ Own (Nw w []) M a7 (a8 ++ (e2 ++ [])) ∧ rp.val M a7 (sv va0x1 vn0x1 vc0x1) b0.2.1 [] ∧ rm.val M a7 (sv va0x3 vn0x3 vc0x3) b0.2.2.2.1 [] ∧ (RT.mr (Value.int .i64)).val M a7 (.map (some vn0x4)) b0.2.2.2.2 [] ∧ RBox M a7 vg0 90 [(iv b0.1), (sv va0x1 vn0x1 vc0x1), (iv b0.2.2.1), (sv va0x3 vn0x3 vc0x3), (.map (some vn0x4))] ∧ (RT.os 34 (RT.on 3 ri)).val M a7 (sv a2 a3 a4) s310.2 e2 ∧ (RT.os 34 (RT.os 3 ri)).val M a7 (sv b1 b2 b3) r83 a8) (K := (yi M w)) ?_ FU (true, s52) o314 _ _ ?_ l3 ?_)
  ·rintro s310 o314 a a7 ⟨σ, d9, rfl, hC, hO, hl0x1, hl0x3, hl0x4, hb0, g6, a1⟩ hs
   refine zd (c_sr (mb rfl (zb ?_)))
   rcases zf hs with ⟨f5, hs⟩ | ⟨f5, hs⟩
   ·refine zh (cb f5) (wp_skip (wp_block (c_sr (ab rfl (zb (c_sr (mp rfl (za _ (Zs rfl) (za (pq vg0 0) (zk rfl Vr) (za (pq vg0 1) (zk rfl Zq) (za _ (ld rfl Ag28 Sz28 hb0.1 rfl) (za _ (zn Sl28 (zt hl0x1) rfl) (mi rfl (zb ?_))))))))))))))
    obtain ⟨o392, l4, hs⟩ := bind_some hs
    refine wp_block (zT (id := 4) (b0.2.1.length : Int) (I := fun k390 s388 a a6 => ∃ (σ : Nv) (d8 : List Nat), a = fr 81 (ovl σ [(0, (pq vg0 0)), (5, (sv a2 a3 a4)), (9, (sv b1 b2 b3)), (10, (.bool s388.1)), (53, (sv va0x1 vn0x1 vc0x1)), (54, (iv (b0.2.1.length : Int))), (55, (iv k390))]) ∧ Chg [] w a6 ∧ Own (Nw w []) M a6 (a8 ++ (d8 ++ [])) ∧ rp.val M a6 (sv va0x1 vn0x1 vc0x1) b0.2.1 [] ∧ rm.val M a6 (sv va0x3 vn0x3 vc0x3) b0.2.2.2.1 [] ∧ (RT.mr (Value.int .i64)).val M a6 (.map (some vn0x4)) b0.2.2.2.2 [] ∧ RBox M a6 vg0 90 [(iv b0.1), (sv va0x1 vn0x1 vc0x1), (iv b0.2.2.1), (sv va0x3 vn0x3 vc0x3), (.map (some vn0x4))] ∧ (RT.os 34 (RT.on 3 ri)).val M a6 (sv a2 a3 a4) s388.2 d8 ∧ (RT.os 34 (RT.os 3 ri)).val M a6 (sv b1 b2 b3) r83 a8) (J := fun s388 a a6 => ∃ (σ : Nv) (e3 : List Nat), a = fr 81 (ovl σ [(0, (pq vg0 0)), (5, (sv a2 a3 a4)), (9, (sv b1 b2 b3)), (10, (.bool s388.1))]) ∧ Chg [] w a6 ∧ Own (Nw w []) M a6 (a8 ++ (e3 ++ [])) ∧ rp.val M a6 (sv va0x1 vn0x1 vc0x1) b0.2.1 [] ∧ rm.val M a6 (sv va0x3 vn0x3 vc0x3) b0.2.2.2.1 [] ∧ (RT.mr (Value.int .i64)).val M a6 (.map (some vn0x4)) b0.2.2.2.2 [] ∧ RBox M a6 vg0 90 [(iv b0.1), (sv va0x1 vn0x1 vc0x1), (iv b0.2.2.1), (sv va0x3 vn0x3 vc0x3), (.map (some vn0x4))] ∧ (RT.os 34 (RT.on 3 ri)).val M a6 (sv a2 a3 a4) s388.2 e3 ∧ (RT.os 34 (RT.os 3 ri)).val M a6 (sv b1 b2 b3) r83 a8) (K := (yi M w)) ?_ ?_ 0 (false, s310.2) o392 _ _ ?_ l4 ?_)
    ·rintro k390 s388 a a6 ⟨σ, d8, rfl, hC, hO, hl0x1, hl0x3, hl0x4, hb0, d2, a1⟩ hlt
     refine c_sr (za _ (zw rfl rfl) (zb (zd (zi (df hlt) (wp_exit ?_)))))
     have hO := hO.fr1.fr1
     exact ⟨rfl, _, d8, fr_m 81 rfl, hC, hO, hl0x1, hl0x3, hl0x4, hb0, d2, a1⟩
    ·rintro k390 s388 o392 a a6 ⟨σ, d8, rfl, hC, hO, hl0x1, hl0x3, hl0x4, hb0, d2, a1⟩ hlt hw hs
     refine c_sr (za _ (zw rfl rfl) (zb (zd (zh (dt hlt) (wp_skip (zd (wp_block (c_sr (mi rfl ?_)))))))))
     obtain ⟨x396, l5, hs⟩ := bind_some hs
     obtain ⟨l6, l7, l8, f6⟩ := zK Sl28 Sz77 hl0x1 l5
     refine za _ (ip l8 rfl rfl) ?_
     obtain ⟨p4, l9, m0⟩ := Zc Ag77 Sz77 (by intro h; cases h) f6
     obtain ⟨p5, rfl, m1⟩ := m0
     obtain ⟨p6, p7, rfl, m2, m3⟩ := Yn m1
     obtain rfl := Yx m2
     obtain ⟨c6, c7, c8, rfl, b4⟩ := YV m3
     refine za (.agg #[(iv x396.1), (sv c6 c7 c8)]) (zo rfl (l9 _ (Chg.refl _ _))) ?_
     obtain ⟨m4, b8, m5, g7, c0, g8⟩ := zg a6 [(iv 0), (sv none 0 0)] 77
     refine za (w' := m4) (pq b8 0) (YF (by rw [m5, g7]; kernel_rfl)) ?_
     obtain ⟨hl0x1, hl0x3, hl0x4, hb0, d2, a1, b4, f6⟩ := xt8 c0 hl0x1 hl0x3 hl0x4 hb0 d2 a1 b4 f6
     have hC := hC.ext c0
     have hO := hO.new1 c0 g7 g8.lt
     refine ai rfl ?_
     obtain ⟨g9, m6, c2, b6⟩ := Zx (P := Tryz.prog) g8 [] [(iv 0), (sv none 0 0)] [] [(iv x396.1), (sv c6 c7 c8)] rfl rfl (oc rfl)
     refine Zh (w' := g9) (zY rfl rfl (m6 _ _ rfl Sz77)) ?_
     have hl0x1 := hl0x1.mt c2 hO zl
     have hl0x3 := hl0x3.mt c2 hO zl
     have hl0x4 := hl0x4.mt c2 hO zl
     have hb0 := hb0.mut c2 (fun q hq => hO.inM q ((fun _ h => h) q hq))
     have d2 := d2.ma c2 hO zl (fun _ e => (zj (zD (e))))
     have a1 := a1.ma c2 hO zl (fun _ e => (zD (e)))
     have b4 := b4.mt c2 hO zl
     have hC := hC.st c2 hO zl
     have hO := hO.ext c2
     have b6 : BoxV g9 b8 77 [(iv x396.1), (sv c6 c7 c8)] := b6
     refine zb (c_sr (ms rfl (mi rfl ?_)))
     obtain ⟨x402, m7, hs⟩ := bind_some hs
     obtain ⟨m8, p8, p9, q0, m9, n0, n1⟩ := zS Sl45 Sz34 a1 m7
     have n2 := ZG (Frz.os Frz.int) n0 n1
     refine za _ (ip m9 rfl rfl) ?_
     obtain ⟨q1, n3, hrow404, b7⟩ := ZR Ag34 Sz34 rfl rfl n2
     obtain ⟨e4, e5, e6, rfl⟩ := yl b7
     refine za (sv e4 e5 e6) (zo rfl (n3 _ (Chg.refl _ _))) (za _ (zn Sl34 (zt b7) rfl) (mi rfl (zb ?_)))
     obtain ⟨o421, n4, hs⟩ := bind_some hs
     refine wp_block (zT (id := 6) (x402.length : Int) (I := fun k419 s417 a a0 => ∃ (σ : Nv) (d3 : List Nat), a = fr 81 (ovl σ [(0, (pq vg0 0)), (5, (sv a2 a3 a4)), (9, (sv b1 b2 b3)), (10, (.bool s417.1)), (11, (iv k390)), (12, (pq b8 0)), (53, (sv va0x1 vn0x1 vc0x1)), (54, (iv (b0.2.1.length : Int))), (55, (iv k390)), (63, (sv e4 e5 e6)), (64, (iv (x402.length : Int))), (65, (iv k419))]) ∧ Chg [] w a0 ∧ Own (Nw w []) M a0 ([b8] ++ (a8 ++ (d3 ++ []))) ∧ rp.val M a0 (sv va0x1 vn0x1 vc0x1) b0.2.1 [] ∧ rm.val M a0 (sv va0x3 vn0x3 vc0x3) b0.2.2.2.1 [] ∧ (RT.mr (Value.int .i64)).val M a0 (.map (some vn0x4)) b0.2.2.2.2 [] ∧ RBox M a0 vg0 90 [(iv b0.1), (sv va0x1 vn0x1 vc0x1), (iv b0.2.2.1), (sv va0x3 vn0x3 vc0x3), (.map (some vn0x4))] ∧ (RT.os 34 (RT.on 3 ri)).val M a0 (sv a2 a3 a4) s417.2 d3 ∧ (RT.os 34 (RT.os 3 ri)).val M a0 (sv b1 b2 b3) r83 a8 ∧ rl.val M a0 (sv c6 c7 c8) x396.2 [] ∧ BoxV a0 b8 77 [(iv x396.1), (sv c6 c7 c8)] ∧ rl.val (Less M a8) a0 (sv e4 e5 e6) x402 []) (J := fun s417 a a0 => ∃ (σ : Nv) (e7 : List Nat), a = fr 81 (ovl σ [(0, (pq vg0 0)), (5, (sv a2 a3 a4)), (9, (sv b1 b2 b3)), (10, (.bool s417.1)), (53, (sv va0x1 vn0x1 vc0x1)), (54, (iv (b0.2.1.length : Int))), (55, (iv k390))]) ∧ Chg [] w a0 ∧ Own (Nw w []) M a0 ([b8] ++ (a8 ++ (e7 ++ []))) ∧ rp.val M a0 (sv va0x1 vn0x1 vc0x1) b0.2.1 [] ∧ rm.val M a0 (sv va0x3 vn0x3 vc0x3) b0.2.2.2.1 [] ∧ (RT.mr (Value.int .i64)).val M a0 (.map (some vn0x4)) b0.2.2.2.2 [] ∧ RBox M a0 vg0 90 [(iv b0.1), (sv va0x1 vn0x1 vc0x1), (iv b0.2.2.1), (sv va0x3 vn0x3 vc0x3), (.map (some vn0x4))] ∧ (RT.os 34 (RT.on 3 ri)).val M a0 (sv a2 a3 a4) s417.2 e7 ∧ (RT.os 34 (RT.os 3 ri)).val M a0 (sv b1 b2 b3) r83 a8 ∧ rl.val M a0 (sv c6 c7 c8) x396.2 [] ∧ BoxV a0 b8 77 [(iv x396.1), (sv c6 c7 c8)] ∧ rl.val (Less M a8) a0 (sv e4 e5 e6) x402 []) (K := (yi M w)) ?_ ?_ 0 (s388.1, s388.2) o421 _ _ ?_ n4 ?_)
     ·rintro k419 s417 a a0 ⟨σ, d3, rfl, hC, hO, hl0x1, hl0x3, hl0x4, hb0, f7, a1, b4, b6, b7⟩ hlt
      refine c_sr (za _ (zw rfl rfl) (zb (zd (zi (df hlt) (wp_exit ?_)))))
      have hO := hO.fr2.fr2.fr2
      exact ⟨rfl, _, d3, fr_m 81 rfl, hC, hO, hl0x1, hl0x3, hl0x4, hb0, f7, a1, b4, b6, b7⟩
     ·rintro k419 s417 o421 a a0 ⟨σ, d3, rfl, hC, hO, hl0x1, hl0x3, hl0x4, hb0, f7, a1, b4, b6, b7⟩ hlt hw hs
      refine c_sr (za _ (zw rfl rfl) (zb (zd (zh (dt hlt) (wp_skip (zd (wp_block (c_sr (mi rfl ?_)))))))))
      obtain ⟨x425, n5, hs⟩ := bind_some hs
      obtain ⟨n6, n7, n8, n9⟩ := zK Sl34 Sz3 b7 n5
      refine za _ (ip n8 rfl rfl) (za (iv x425) (zo rfl ((zm Ag3 Sz3 n9) _ (Chg.refl _ _))) (ai rfl (ai rfl (zb (c_sr (mp rfl (ms rfl (mi rfl (za (pq b8 0) (zk rfl ZP) (za _ (ld rfl Ag3 Sz3 b6 rfl) (mi rfl (mi rfl ?_))))))))))))
      have hO := hO.fr2
      have o0 := hO
      have h1 := Own.lend (F := (d3 ++ [])) (R := [b8] ++ (a8 ++ [])) (Own.perm (o0) (by simp))
      obtain ⟨r428, o1, hs⟩ := bind_some hs
      refine zy Bd93 rfl (vo (M := M) s417.2 k390 x396.1 k419 x425 (b0.1, b0.2.1, b0.2.2.1, b0.2.2.2.1, b0.2.2.2.2) f7 (show RBox M _ vg0 90 [(iv b0.1), (sv va0x1 vn0x1 vc0x1), (iv b0.2.2.1), (sv va0x3 vn0x3 vc0x3), (.map (some vn0x4))] from hb0) hl0x1 hl0x3 hl0x4 h1 h1.fut o1) ?_
      rintro _ q2 ⟨f8, rfl, c1, h2, o2⟩
      have hO := hO.perm (R := (d3 ++ []) ++ ([b8] ++ (a8 ++ []))) (by simp)
      have hl0x1 := hl0x1.mt c1 hO zl
      have hl0x3 := hl0x3.mt c1 hO zl
      have hl0x4 := hl0x4.mt c1 hO zl
      have hb0 := hb0.mut c1 (fun q hq => hO.inM q ((fun _ h => h) q hq))
      have a1 := a1.ma c1 hO zl (fun _ e => (zj (zD (e))))
      have b4 := b4.mt c1 hO zl
      have b6 := b6.ap c1 hO zl mS
      have b7 := b7.mut c1 (fun g hg => ⟨hO.inM g ((fun _ h => h) g hg), fun e => hO.apart g ((fun _ h => h) g hg) (zj (zD (e)))⟩) (fun _ _ h => nomatch h)
      have hC := hC.st c1 hO zl
      have hO := Own.join hO c1 o2
      have hO := hO.perm (R := f8 ++ ([b8] ++ (a8 ++ []))) (by simp)
      refine zb ?_
      rcases zf hs with ⟨f9, hs⟩ | ⟨f9, hs⟩
      ·refine zh (cb f9) (ze (ab rfl (zb (ze (za _ (yad rfl rfl) (mi rfl (zb ?_)))))))
       cases hs
       have hO := hO.fr2.fr2
       exact ⟨_, f8, zG 81 ⟨rfl, rfl, rfl, rfl, rfl, rfl, rfl, rfl, rfl, rfl, rfl, congrArg (Value.int .i64) hw, trivial⟩, hC, hO, hl0x1, hl0x3, hl0x4, hb0, h2, a1, b4, b6, b7⟩
      refine zi (cb f9) (wp_skip (ze (za _ (yad rfl rfl) (mi rfl (zb ?_)))))
      cases hs
      have hO := hO.fr2.fr2
      exact ⟨_, f8, zG 81 ⟨rfl, rfl, rfl, rfl, rfl, rfl, rfl, rfl, rfl, rfl, rfl, congrArg (Value.int .i64) hw, trivial⟩, hC, hO, hl0x1, hl0x3, hl0x4, hb0, h2, a1, b4, b6, b7⟩
     ·skip
      have hO := hO.fr2.fr2.fr2
      exact ⟨_, d8, fr_m 81 rfl, hC, hO, hl0x1, hl0x3, hl0x4, hb0, d2, a1, b4, b6, b7⟩
     cases o421 with
     | nx _ => exact True.intro
     | rt r_ =>
      have hs := zq hs
      intro d1 e0 hK
      cases hs
      exact hK
     | br s417 =>
      have hs := zp hs
      rintro d1 a0 ⟨σ, e7, rfl, hC, hO, hl0x1, hl0x3, hl0x4, hb0, o3, a1, b4, b6, b7⟩
      refine ze (za _ (yad rfl rfl) (mi rfl (zb ?_)))
      cases hs
      have hO := hO.drop.fr1.fr1
      exact ⟨_, e7, zG 81 ⟨rfl, rfl, rfl, rfl, rfl, rfl, congrArg (Value.int .i64) hw, trivial⟩, hC, hO, hl0x1, hl0x3, hl0x4, hb0, o3, a1⟩
    ·skip
     have hO := hO.fr1.fr1
     exact ⟨_, d9, fr_m 81 rfl, hC, hO, hl0x1, hl0x3, hl0x4, hb0, g6, a1⟩
    cases o392 with
    | nx _ => exact True.intro
    | rt r_ =>
     have hs := zq hs
     intro d1 e0 hK
     cases hs
     exact hK
    | br s388 =>
     have hs := zp hs
     rintro d1 a6 ⟨σ, e3, rfl, hC, hO, hl0x1, hl0x3, hl0x4, hb0, o4, a1⟩
     cases hs
     have hO := hO.fr1.fr1
     exact ⟨_, e3, fr_m 81 rfl, hC, hO, hl0x1, hl0x3, hl0x4, hb0, o4, a1⟩
   refine zi (cb f5) (wp_exit ?_)
   cases hs
   have hO := hO.fr1.fr1
   exact ⟨rfl, _, d9, fr_m 81 rfl, hC, hO, hl0x1, hl0x3, hl0x4, hb0, g6, a1⟩
  ·skip
   have hO := hO.fr1.fr1
   exact ⟨_, d4, fr_m 81 rfl, hC, hO, hl0x1, hl0x3, hl0x4, hb0, f4, a1⟩
  cases o314 with
  | nx _ => exact True.intro
  | rt r_ =>
   have hs := zq hs
   intro d1 e0 hK
   cases hs
   exact hK
  | br s310 =>
   have hs := zp hs
   rintro d1 a7 ⟨σ, e2, rfl, hC, hO, hl0x1, hl0x3, hl0x4, hb0, o5, a1⟩
   refine c_sr (ms rfl (ax rfl (zb (wp_ret ?_))))
   cases hs
   have hO := hO.drop
   exact ⟨_, a2, a3, a4, e2, fr_m 81 rfl, hC, o5, hO.top⟩

theorem Ag57 : AggT Tryz.prog 57 false := fun _ => by kernel_rfl

theorem Bd62 : zF Tryz.prog 62 := zJ Tryz.func62 (by kernel_rfl) rfl

def XM (M : Nat → Prop) (w0 : World) (r : tM × Bool) (a : Act) (w : World) : Prop :=
  ∃ (σ : Nv) (ra0 : OA) (rn0 rc0 : Nat) (rf0 : List Nat), a = fr 26 (ovl σ [(2, (sv ra0 rn0 rc0)), (3, (.bool r.2))]) ∧ Chg [] w0 w ∧ (RT.os 34 (RT.os 3 ri)).val M w (sv ra0 rn0 rc0) r.1 rf0 ∧ Own (Nw w0 []) (fun _ => True) w (rf0 ++ [])
def Yd (b0 : Int × (List (List Int))) (b1 : Int × (List (Int × (List Int))) × Int × (List (List Int)) × (List (ByteArray × Int))) : Option ((List (List Int)) × Bool) :=
  (yj b0.2 (b1.1, b1.2.1, b1.2.2.1, b1.2.2.2.1, b1.2.2.2.2)).bind fun r13 =>
  (forR (S := Unit) (R := (List (List Int)) × Bool) (fun _ x22 s19 =>
  (bif (List.isEmpty x22) then some (.rt ([], false)) else some (.nx ()))) 0 r13 ()).bind fun o23 => after o23 (fun r_ => some r_) (fun s19 =>
  some (r13, true))
theorem vi {M : Nat → Prop} {w : World} {vg0 : Nat} {vg1 : Nat} {va0x2 : OA} {vn0x2 vc0x2 : Nat} {va1x1 : OA} {vn1x1 vc1x1 : Nat} {va1x3 : OA} {vn1x3 vc1x3 : Nat} {vn1x4 : Nat} (b0 : Int × tM) (b1 : Int × (List (Int × (List Int))) × Int × tM × (List (ByteArray × Int))) (hb0 : RBox M w vg0 59 [(pq vg1 0), (iv b0.1), (sv va0x2 vn0x2 vc0x2)]) (hl0x2 : rm.val M w (sv va0x2 vn0x2 vc0x2) b0.2 []) (hb1 : RBox M w vg1 90 [(iv b1.1), (sv va1x1 vn1x1 vc1x1), (iv b1.2.2.1), (sv va1x3 vn1x3 vc1x3), (.map (some vn1x4))]) (hl1x1 : rp.val M w (sv va1x1 vn1x1 vc1x1) b1.2.1 []) (hl1x3 : rm.val M w (sv va1x3 vn1x3 vc1x3) b1.2.2.2.1 []) (hl1x4 : (RT.mr (Value.int .i64)).val M w (.map (some vn1x4)) b1.2.2.2.2 []) (hM : Hm w M) {r : tM × Bool} (hs : Yd b0 b1 = some r) :
    Gives Tryz.prog 30 [(pq vg0 0)] w (fun v w' => ∃ (ra0 : OA) (rn0 rc0 : Nat) (rf0 : List Nat), v = (.tuple #[(sv ra0 rn0 rc0), (.bool r.2)]) ∧ Chg [] w w' ∧ (RT.os 34 (RT.os 3 ri)).val M w' (sv ra0 rn0 rc0) r.1 rf0 ∧ Own (Nw w []) (fun _ => True) w' (rf0 ++ [])) := by
 refine zr Tryz.func30 rfl Tryz.ntmps30 (nl rfl) ?_
 have hO := Own.start (N := Nw w []) hM Nw.fut
 have hC := Chg.refl [] w
 unfold Yd at hs
 refine wp_k (K := (XM M w r)) (by rintro _ _ ⟨σ, ra0, rn0, rc0, rf0, rfl, hrest⟩; exact wb Tryz.results30 (zB rfl) (zB rfl) ⟨ra0, rn0, rc0, rf0, rfl, hrest⟩) (c_sr (ax rfl (ab rfl (zb (zd (zQ [8] Mx rfl ?_))))))
 have a6 := Chg.drew w
 generalize World.drew w = b7 at a6 ⊢
 obtain ⟨hl0x2, hb0, hl1x1, hl1x3, hl1x4, hb1, hC, hO⟩ := xt8 a6 hl0x2 hb0 hl1x1 hl1x3 hl1x4 hb1 hC hO
 have hS := Chg.refl [] b7
 refine xmp 0 rfl rfl hS (xq 1 _ rfl (Zs rfl) hS (xq 2 (pq vg0 0) rfl (zk rfl vq) hS (xl 3 rfl (ldx rfl Ag57 Sz57 hb0.1 rfl) hS (xmp 4 rfl rfl hS (xq 5 _ rfl (Zs rfl) hS (xq 6 (pq vg0 2) rfl (zk rfl uN) hS (xl 7 rfl (ldx rfl Ag45 Sz45 hb0.1 rfl) hS (zI (i := 8) (by kernel_rfl) ?_))))))))
 obtain ⟨r13, b8, hs⟩ := bind_some hs
 refine zL (b := true) rfl Bd62 rfl (wC (M := M) b0.2 (b1.1, b1.2.1, b1.2.2.1, b1.2.2.2.1, b1.2.2.2.2) hl0x2 (show RBox M _ vg1 90 [(iv b1.1), (sv va1x1 vn1x1 vc1x1), (iv b1.2.2.1), (sv va1x3 vn1x3 vc1x3), (.map (some vn1x4))] from hb1) hl1x1 hl1x3 hl1x4 hO.fut b8) rfl (fun h => nomatch h) ?_
 rintro _ d0 ⟨a1, a2, a3, a8, rfl, a7, a0, b9⟩
 have hO := hO.perm (R := [] ++ []) (by simp)
 obtain ⟨hl0x2, hb0, hl1x1, hl1x3, hl1x4, hb1, hC⟩ := xt7 a7 hl0x2 hb0 hl1x1 hl1x3 hl1x4 hb1 hC
 have hO := Own.join hO a7 b9
 have hO := hO.perm (R := a8 ++ []) (by simp)
 refine x_p 9 (sv a1 a2 a3) rfl (by kernel_rfl) (fun _ => zA rfl) (fun h => nomatch h) (xe ?_)
 clear hS
 refine zd (c_sr (ms rfl (za _ (zn Sl45 (ZH a0) rfl) (mi rfl (zb ?_)))))
 obtain ⟨o23, c0, hs⟩ := bind_some hs
 refine wp_block (YE (id := 0) (I := fun i_ xs_ s19 a a4 => ∃ a5 : Nat, i_ = (a5 : Int) ∧ List.drop a5 r13 = xs_ ∧ (∃ (σ : Nv), a = fr 26 (ovl σ [(4, (sv a1 a2 a3)), (16, (sv a1 a2 a3)), (17, (iv (r13.length : Int))), (18, (iv (a5 : Int)))]) ∧ Chg [] w a4 ∧ Own (Nw w []) M a4 (a8 ++ []) ∧ (RT.os 34 (RT.on 3 ri)).val M a4 (sv a1 a2 a3) r13 a8)) (J := fun s19 a a4 => ∃ (σ : Nv), a = fr 26 (ovl σ [(4, (sv a1 a2 a3))]) ∧ Chg [] w a4 ∧ Own (Nw w []) M a4 (a8 ++ []) ∧ (RT.os 34 (RT.on 3 ri)).val M a4 (sv a1 a2 a3) r13 a8) (K := (XM M w)) ?_ ?_ r13 0 () o23 _ _ ?_ c0 ?_)
 ·rintro _ s19 a a4 ⟨a5, rfl, hd, σ, rfl, hC, hO, a0⟩
  have hlt := ZI hd
  refine c_sr (za _ (zw rfl rfl) (zb (zd (zi (df hlt) (wp_exit ?_)))))
  exact ⟨rfl, _, fr_m 26 rfl, hC, hO, a0⟩
 ·rintro _ x22 xs_ s19 o23 a a4 ⟨a5, rfl, hd, σ, rfl, hC, hO, a0⟩ hs
  have hlt := ZB hd
  have c1 := Zt hd
  refine c_sr (za _ (zw rfl rfl) (zb (zd (zh (dt hlt) (wp_skip (zd (wp_block (c_sr ?_))))))))
  obtain ⟨c2, d1, d2, d3, c3, c4, c5⟩ := zS Sl45 Sz34 a0 c1
  have c6 := ZG (Frz.onn Frz.int) c4 c5
  refine za _ (ip c3 rfl rfl) ?_
  obtain ⟨d4, c7, hrow26, b5⟩ := ZR Ag34 Sz34 rfl rfl c6
  obtain ⟨a9, b2, b3, rfl, b5, c8⟩ := vx b5
  refine za (sv a9 b2 b3) (zo rfl (c7 _ (Chg.refl _ _))) (ax rfl (zb (c_sr (ms rfl (za (.bool (List.isEmpty x22)) (y_nil Tryz.underlying34 rfl rfl c8) (zb ?_))))))
  rcases zf hs with ⟨b4, hs⟩ | ⟨b4, hs⟩
  ·refine zh (cb b4) (c_sr (ax rfl (ab rfl (zb (wp_ret ?_)))))
   cases hs
   have hO := hO.drop.nil
   exact ⟨_, none, 0, 0, [], fr_m 26 rfl, hC, xJ, hO.top⟩
  refine zi (cb b4) (wp_skip (ze (za _ (yad rfl rfl) (mi rfl (zb ?_)))))
  cases hs
  exact ⟨_, rfl, Zk hd, _, zG 26 ⟨rfl, rfl, rfl, congrArg (Value.int .i64) (Yc hlt (Int.natCast_nonneg _) (zbX a0)), trivial⟩, hC, hO, a0⟩
 ·skip
  exact ⟨0, rfl, rfl, _, fr_m 26 rfl, hC, hO, a0⟩
 cases o23 with
 | nx _ => exact True.intro
 | rt r_ =>
  have hs := zq hs
  intro c9 b6 hK
  cases hs
  exact hK
 | br s19 =>
  have hs := zp hs
  rintro c9 a4 ⟨σ, rfl, hC, hO, a0⟩
  refine c_sr (ms rfl (ax rfl (ab rfl (zb (wp_ret ?_)))))
  have a0 := on_weak a0
  cases hs
  exact ⟨_, a1, a2, a3, a8, fr_m 26 rfl, hC, a0, hO.top⟩

def Wd (M : Nat → Prop) (w0 : World) (r : Int) (a : Act) (w : World) : Prop :=
  ∃ (σ : Nv) , a = fr 78 (ovl σ [(6, (iv r))]) ∧ Chg [] w0 w
def Xl (a_ : Int × (List (Int × (List Int)))) (t : List Int) (values : List Int) : Option (Int) :=
  (mkc 0 (t.length : Int)).bind fun u6 =>
  (iter (S := (List Int) × Int) (R := Int) (fun s50 =>
  (bif (decide (0 ≤ s50.2)) then (idx t s50.2).bind fun x61 =>
  (bif (decide (0 ≤ x61)) then (idx values x61).bind fun x64 =>
  (app s50.1 ([x64])).bind fun y69 =>
  some (.nx (y69, w64 (s50.2 - 1))) else (idx a_.2 (w64 ((-1) - x61))).bind fun x71 =>
  (forC (S := Int) (R := Int) (fun k82 s80 =>
  (idx s50.1 (w64 ((w64 ((s50.1.length : Int) - 1)) - k82))).bind fun x87 =>
  some (.nx (w64 ((w64 (s80 * a_.1)) + x87)))) 0 x71.1 0).bind fun o84 => after o84 (fun r_ => some (.rt r_)) (fun s80 =>
  (slc s50.1 0 (w64 ((s50.1.length : Int) - x71.1))).bind fun y91 =>
  (idx x71.2 s80).bind fun x93 =>
  (app y91 ([x93])).bind fun y98 =>
  some (.nx (y98, w64 (s50.2 - 1))))) else some (.br (s50.1, s50.2)))) FU ((List.replicate (Int.toNat 0) (0 : Int)), w64 ((t.length : Int) - 1))).bind fun o54 => after o54 (fun r_ => some r_) (fun s50 =>
  (idx s50.1 0).bind fun x100 =>
  some x100)
theorem zaK {M : Nat → Prop} {w : World} {pa0 : OA} {pn0 pc0 : Nat} {pa1 : OA} {pn1 pc1 : Nat} {pa2 : OA} {pn2 pc2 : Nat} (a_ : tA) (t : List Int) (values : List Int) (h0 : rp.val M w (sv pa0 pn0 pc0) a_.2 []) (h1 : rl.val M w (sv pa1 pn1 pc1) t []) (h2 : rl.val M w (sv pa2 pn2 pc2) values []) (hM : Hm w M) {r : Int} (hs : Xl a_ t values = some r) :
    Gives Tryz.prog 64 [(.agg #[(iv a_.1), (sv pa0 pn0 pc0)]), (sv pa1 pn1 pc1), (sv pa2 pn2 pc2)] w (fun v w' => v = (iv r) ∧ Chg [] w w') := by
 refine zr Tryz.func64 rfl Tryz.ntmps64 (nl rfl) ?_
 have hO := Own.start (N := Nw w []) hM Nw.fut
 have hC := Chg.refl [] w
 unfold Xl at hs
 refine wp_k (K := (Wd M w r)) (by rintro _ _ ⟨σ, rfl, hrest⟩; exact Za Tryz.results64 (zB rfl) ⟨rfl, hrest⟩) (c_sr ?_)
 obtain ⟨f5, a6, g7, f6, c5, a0⟩ := zg w [(iv a_.1), (sv pa0 pn0 pc0)] 30
 refine za (w' := f5) (pq a6 0) (Zj rfl (by rw [g7, f6]; kernel_rfl)) ?_
 obtain ⟨h0, h1, h2, hC⟩ := xt4 c5 h0 h1 h2 hC
 have hO := hO.new1 c5 f6 a0.lt
 refine ai rfl (zb (c_sr (ms rfl (za _ (zn Sl34 (zt h1) rfl) ?_))))
 obtain ⟨u6, g8, hs⟩ := bind_some hs
 obtain ⟨d1, d2, d3, g9, h3, h4, c3, h5, d4⟩ := zci (M := M) (w := f5) (r := ri) (x := (0 : Int)) Rw34 g8 (fun _ _ => ⟨rfl, rfl⟩)
 refine za (w' := g9) (sv d1 d2 d3) (yC rfl rfl h4) ?_
 obtain ⟨h0, h1, h2, a0, hC⟩ := xt5 c3 h0 h1 h2 a0 hC
 have hO := hO.new c3 h5 (zu d4) d4.fpl
 refine ax rfl (zb (zd (c_sr (ms rfl (za _ (zn Sl34 (zt h1) rfl) (za _ (ysu rfl rfl) (ai rfl (zb ?_))))))))
 obtain ⟨o54, h6, hs⟩ := bind_some hs
 refine wp_block (Zy (id := 0) (I := fun s50 a a4 => ∃ (σ : Nv) (a7 : OA) (a9 : Nat) (a8 : Nat) (b8 : List Nat), a = fr 78 (ovl σ [(1, (sv pa1 pn1 pc1)), (2, (sv pa2 pn2 pc2)), (3, (pq a6 0)), (7, (sv a7 a9 a8)), (8, (iv s50.2))]) ∧ Chg [] w a4 ∧ Own (Nw w []) M a4 (b8 ++ ([a6] ++ [])) ∧ rp.val M a4 (sv pa0 pn0 pc0) a_.2 [] ∧ rl.val M a4 (sv pa1 pn1 pc1) t [] ∧ rl.val M a4 (sv pa2 pn2 pc2) values [] ∧ BoxV a4 a6 30 [(iv a_.1), (sv pa0 pn0 pc0)] ∧ (RT.os 3 ri).val M a4 (sv a7 a9 a8) s50.1 b8) (J := fun s50 a a4 => ∃ (σ : Nv) (c7 : OA) (c8 : Nat) (c9 : Nat) (d5 : List Nat), a = fr 78 (ovl σ [(7, (sv c7 c8 c9))]) ∧ Chg [] w a4 ∧ Own (Nw w []) M a4 (d5 ++ ([a6] ++ [])) ∧ rp.val M a4 (sv pa0 pn0 pc0) a_.2 [] ∧ rl.val M a4 (sv pa1 pn1 pc1) t [] ∧ rl.val M a4 (sv pa2 pn2 pc2) values [] ∧ BoxV a4 a6 30 [(iv a_.1), (sv pa0 pn0 pc0)] ∧ (RT.os 3 ri).val M a4 (sv c7 c8 c9) s50.1 d5) (K := (Wd M w)) ?_ FU ((List.replicate (Int.toNat 0) (0 : Int)), w64 ((t.length : Int) - 1)) o54 _ _ ?_ h6 ?_)
 ·rintro s50 o54 a a4 ⟨σ, a7, a9, a8, b8, rfl, hC, hO, h0, h1, h2, a0, a2⟩ hs
  refine zd (c_sr (mi rfl (za _ (Xs rfl rfl) (zb ?_))))
  rcases zf hs with ⟨d6, hs⟩ | ⟨d6, hs⟩
  ·refine zh (cb d6) (wp_skip (zd (wp_block (c_sr (ms rfl (mi rfl ?_))))))
   obtain ⟨x61, h7, hs⟩ := bind_some hs
   obtain ⟨h8, h9, i0, i1⟩ := zK Sl34 Sz3 h1 h7
   refine za _ (ip i0 rfl rfl) (za (iv x61) (zo rfl ((zm Ag3 Sz3 i1) _ (Chg.refl _ _))) (ai rfl (zb (zd (c_sr (mi rfl (za _ (Xs rfl rfl) (zb ?_))))))))
   rcases zf hs with ⟨d7, hs⟩ | ⟨d7, hs⟩
   ·refine zh (cb d7) (c_sr (ms rfl (ms rfl (mi rfl ?_))))
    obtain ⟨x64, i2, hs⟩ := bind_some hs
    obtain ⟨i3, i4, i5, d8⟩ := zK Sl34 Sz3 h2 i2
    refine za _ (ip i5 rfl rfl) (za (iv x64) (zo rfl ((zm Ag3 Sz3 d8) _ (Chg.refl _ _))) ?_)
    obtain ⟨f7, d9, i6, f8, b9, f9⟩ := zg a4 [(iv x64)] 3
    refine za (w' := f7) (sv (some ⟨d9, 0, none⟩) 1 1) (zz rfl (by rw [i6, f8]; kernel_rfl)) ?_
    obtain ⟨h0, h1, h2, a0, a2, d8, hC⟩ := xt7 b9 h0 h1 h2 a0 a2 d8 hC
    have hO := hO.new1 b9 f8 f9.lt
    have e0 := os1 (M := M) f9
    obtain ⟨y69, i7, hs⟩ := bind_some hs
    have hO := hO.fr1
    obtain ⟨e1, e2, e3, i9, j0, j1, c4, j2, e4⟩ := ya Rw34 i7 a2 e0 hO.inM (fun g hg hq => hO.apart g hq (zD hg))
    have c6 := zC a2
    refine za (w' := i9) (sv e1 e2 e3) (zN rfl rfl (j1 _)) ?_
    have hO := hO.fr1.fr1
    have h0 := h0.mt c4 hO c6
    have h1 := h1.mt c4 hO c6
    have h2 := h2.mt c4 hO c6
    have a0 := a0.ap c4 hO c6 (zj mS)
    have hC := hC.st c4 hO c6
    have hO := hO.eat c4 j2 (zu e4) e4.fpl
    refine ax rfl (zb (wp_exit (ze (mi rfl (za _ (ysu rfl rfl) (ai rfl (zb ?_)))))))
    cases hs
    have hO := hO.fr1.fr1
    exact ⟨_, e1, e2, e3, j0, fr_m 78 rfl, hC, hO, h0, h1, h2, a0, e4⟩
   refine zi (cb d7) (wp_skip (c_sr (za (pq a6 1) (zk rfl Zq) (za _ (ld rfl Ag28 Sz28 a0 rfl) (mi rfl (za _ (ysu rfl rfl) ?_))))))
   obtain ⟨x71, j3, hs⟩ := bind_some hs
   obtain ⟨j4, j5, j6, e5⟩ := zK Sl28 Sz77 h0 j3
   refine za _ (ip j6 rfl rfl) ?_
   obtain ⟨m9, j7, j8⟩ := Zc Ag77 Sz77 (by intro h; cases h) e5
   obtain ⟨n0, rfl, j9⟩ := j8
   obtain ⟨n1, n2, rfl, k0, k1⟩ := Yn j9
   obtain rfl := Yx k0
   obtain ⟨b0, b1, b2, rfl, a5⟩ := YV k1
   refine za (.agg #[(iv x71.1), (sv b0 b1 b2)]) (zo rfl (j7 _ (Chg.refl _ _))) ?_
   obtain ⟨k2, b3, k3, g0, b7, g1⟩ := zg a4 [(iv 0), (sv none 0 0)] 77
   refine za (w' := k2) (pq b3 0) (YF (by rw [k3, g0]; kernel_rfl)) ?_
   obtain ⟨h0, h1, h2, a0, a2, a5, e5, hC⟩ := xt8 b7 h0 h1 h2 a0 a2 a5 e5 hC
   have hO := hO.new1 b7 g0 g1.lt
   obtain ⟨g2, k4, c0, a3⟩ := Zx (P := Tryz.prog) g1 [] [(iv 0), (sv none 0 0)] [] [(iv x71.1), (sv b0 b1 b2)] rfl rfl (oc rfl)
   refine Zh (w' := g2) (zY rfl rfl (k4 _ _ rfl Sz77)) ?_
   have h0 := h0.mt c0 hO zl
   have h1 := h1.mt c0 hO zl
   have h2 := h2.mt c0 hO zl
   have a0 := a0.ap c0 hO zl (zj mS)
   have a2 := a2.ma c0 hO zl (fun _ e => (zD (e)))
   have a5 := a5.mt c0 hO zl
   have hC := hC.st c0 hO zl
   have hO := hO.ext c0
   have a3 : BoxV g2 b3 77 [(iv x71.1), (sv b0 b1 b2)] := a3
   refine zb (c_sr (ai rfl (zb (zd (c_sr (ai rfl (zb ?_)))))))
   obtain ⟨o84, k5, hs⟩ := bind_some hs
   refine wp_block (zT (id := 2) x71.1 (I := fun k82 s80 a a1 => ∃ (σ : Nv), a = fr 78 (ovl σ [(1, (sv pa1 pn1 pc1)), (2, (sv pa2 pn2 pc2)), (3, (pq a6 0)), (7, (sv a7 a9 a8)), (8, (iv s50.2)), (10, (pq b3 0)), (11, (iv s80)), (12, (iv k82))]) ∧ Chg [] w a1 ∧ Own (Nw w []) M a1 ([b3] ++ (b8 ++ ([a6] ++ []))) ∧ rp.val M a1 (sv pa0 pn0 pc0) a_.2 [] ∧ rl.val M a1 (sv pa1 pn1 pc1) t [] ∧ rl.val M a1 (sv pa2 pn2 pc2) values [] ∧ BoxV a1 a6 30 [(iv a_.1), (sv pa0 pn0 pc0)] ∧ (RT.os 3 ri).val M a1 (sv a7 a9 a8) s50.1 b8 ∧ rl.val M a1 (sv b0 b1 b2) x71.2 [] ∧ BoxV a1 b3 77 [(iv x71.1), (sv b0 b1 b2)]) (J := fun s80 a a1 => ∃ (σ : Nv), a = fr 78 (ovl σ [(1, (sv pa1 pn1 pc1)), (2, (sv pa2 pn2 pc2)), (3, (pq a6 0)), (7, (sv a7 a9 a8)), (8, (iv s50.2)), (10, (pq b3 0)), (11, (iv s80))]) ∧ Chg [] w a1 ∧ Own (Nw w []) M a1 ([b3] ++ (b8 ++ ([a6] ++ []))) ∧ rp.val M a1 (sv pa0 pn0 pc0) a_.2 [] ∧ rl.val M a1 (sv pa1 pn1 pc1) t [] ∧ rl.val M a1 (sv pa2 pn2 pc2) values [] ∧ BoxV a1 a6 30 [(iv a_.1), (sv pa0 pn0 pc0)] ∧ (RT.os 3 ri).val M a1 (sv a7 a9 a8) s50.1 b8 ∧ rl.val M a1 (sv b0 b1 b2) x71.2 [] ∧ BoxV a1 b3 77 [(iv x71.1), (sv b0 b1 b2)]) (K := (Wd M w)) ?_ ?_ 0 0 o84 _ _ ?_ k5 ?_)
   ·rintro k82 s80 a a1 ⟨σ, rfl, hC, hO, h0, h1, h2, a0, a2, a5, a3⟩ hlt
    refine zd (c_sr (mi rfl (za (pq b3 0) (zk rfl ZP) (za _ (ld rfl Ag3 Sz3 a3 rfl) (za _ (zw rfl rfl) (zb (zi (df hlt) (wp_exit ?_))))))))
    have hO := hO.fr2.fr2.fr2
    exact ⟨rfl, _, fr_m 78 rfl, hC, hO, h0, h1, h2, a0, a2, a5, a3⟩
   ·rintro k82 s80 o84 a a1 ⟨σ, rfl, hC, hO, h0, h1, h2, a0, a2, a5, a3⟩ hlt hw hs
    refine zd (c_sr (mi rfl (za (pq b3 0) (zk rfl ZP) (za _ (ld rfl Ag3 Sz3 a3 rfl) (za _ (zw rfl rfl) (zb (zh (dt hlt) (wp_skip (zd (wp_block (zQ [] Mx rfl ?_)))))))))))
    have b5 := Chg.drew a1
    generalize World.drew a1 = k6 at b5 ⊢
    obtain ⟨h0, h1, h2, a0, a2, a5, a3, hC⟩ := xt8 b5 h0 h1 h2 a0 a2 a5 a3 hC
    have hO := hO.ext b5
    have hS := Chg.refl [] k6
    refine xmi 0 rfl rfl hS (xq 1 (pq a6 0) rfl (zk rfl yO) hS (xl 2 rfl (ldx rfl Ag3 Sz3 a0 rfl) hS (xq 3 _ rfl (ymu rfl rfl) hS (xms 4 rfl rfl hS (xms 5 rfl rfl hS (xq 6 _ rfl (zn Sl34 (ZH a2) rfl) hS (xq 7 _ rfl (ysu rfl rfl) hS (xmi 8 rfl rfl hS (xq 9 _ rfl (ysu rfl rfl) hS ?_)))))))))
    obtain ⟨x87, k7, hs⟩ := bind_some hs
    obtain ⟨k8, n3, n4, n5, k9, l0, n6⟩ := zS Sl34 Sz3 a2 k7
    refine xq 10 _ rfl (ip k9 rfl rfl) hS (x_l 11 (iv x87) rfl (by kernel_rfl) (fun w' hw' => zo rfl ((zm Ag3 Sz3 l0) w' hw')) hS (xq 12 _ rfl (yad rfl rfl) hS (xq 13 (iv (w64 ((w64 (s80 * a_.1)) + x87))) rfl (zA rfl) hS (xe ?_))))
    clear hS
    refine ze (mi rfl (za _ (yad rfl rfl) (ai rfl (zb ?_))))
    cases hs
    have hO := hO.fr2.fr2.fr2
    exact ⟨_, zG 78 ⟨rfl, rfl, rfl, rfl, rfl, rfl, rfl, congrArg (Value.int .i64) hw, trivial⟩, hC, hO, h0, h1, h2, a0, a2, a5, a3⟩
   ·skip
    have hO := hO.fr2.fr2.fr2
    exact ⟨_, fr_m 78 rfl, hC, hO, h0, h1, h2, a0, a2, a5, a3⟩
   cases o84 with
   | nx _ => exact True.intro
   | rt r_ =>
    have hs := zq hs
    intro e6 f4 hK
    cases hs
    exact hK
   | br s80 =>
    have hs := zp hs
    rintro e6 a1 ⟨σ, rfl, hC, hO, h0, h1, h2, a0, a2, a5, a3⟩
    refine zQ [13] Mx rfl ?_
    have b6 := Chg.drew a1
    generalize World.drew a1 = g3 at b6 ⊢
    obtain ⟨h0, h1, h2, a0, a2, a5, a3, hC⟩ := xt8 b6 h0 h1 h2 a0 a2 a5 a3 hC
    have hO := hO.ext b6
    have hS := Chg.refl [] g3
    refine xms 0 rfl rfl hS (xms 1 rfl rfl hS (xq 2 _ rfl (zn Sl34 (ZH a2) rfl) hS (xq 3 (pq b3 0) rfl (zk rfl ZP) hS (xl 4 rfl (ldx rfl Ag3 Sz3 a3 rfl) hS (xq 5 _ rfl (ysu rfl rfl) hS ?_)))))
    obtain ⟨y91, l1, hs⟩ := bind_some hs
    obtain ⟨l2, d0, l3⟩ := os_pre Nf.int Tryz.underlying34 Sz3 a2 l1
    refine xq 6 (sv a7 l2 a8) rfl (ue rfl rfl rfl (l3 _)) hS (xq 7 (pq b3 1) rfl (zk rfl xA) hS (xl 8 rfl (ldx rfl Ag34 Sz34 a3 rfl) hS (xmi 9 rfl rfl hS ?_)))
    obtain ⟨x93, l4, hs⟩ := bind_some hs
    obtain ⟨l5, l6, l7, e7⟩ := zK Sl34 Sz3 a5 l4
    refine xq 10 _ rfl (ip l7 rfl rfl) hS (x_l 11 (iv x93) rfl (by kernel_rfl) (fun w' hw' => zo rfl ((zm Ag3 Sz3 e7) w' hw')) hS (zI (i := 12) (by kernel_rfl) ?_))
    obtain ⟨g4, e8, l8, g5, b4, g6⟩ := zg g3 [(iv x93)] 3
    refine zR (w' := g4) (b := false) (sv (some ⟨e8, 0, none⟩) 1 1) rfl (zz rfl (by rw [l8, g5]; kernel_rfl)) rfl (fun _ => hS.ext b4) ?_
    obtain ⟨h0, h1, h2, a0, a5, a3, d0, e7⟩ := xt8 b4 h0 h1 h2 a0 a5 a3 d0 e7
    have hC := hC.ext b4
    have hO := hO.new1 b4 g5 g6.lt
    have e9 := os1 (M := M) g6
    have hS := hS.ext b4
    refine zI (i := 13) (by kernel_rfl) ?_
    obtain ⟨y98, l9, hs⟩ := bind_some hs
    have hO := hO.fr2
    obtain ⟨f0, f1, f2, m0, m1, m2, c1, m3, f3⟩ := ya Rw34 l9 d0 e9 hO.inM (fun g hg hq => hO.apart g hq (zD hg))
    have c2 := zC d0
    refine zR (w' := m0) (b := true) (sv f0 f1 f2) rfl (zN rfl rfl (m2 _)) rfl (fun h => nomatch h) ?_
    have hO := hO.fr1.fr1
    have h0 := h0.mt c1 hO c2
    have h1 := h1.mt c1 hO c2
    have h2 := h2.mt c1 hO c2
    have a0 := a0.ap c1 hO c2 (zj (zj mS))
    have a5 := a5.mt c1 hO c2
    have a3 := a3.ap c1 hO c2 (zj mS)
    have hC := hC.st c1 hO c2
    have hO := hO.eat c1 m3 (zu f3) f3.fpl
    refine x_p 14 (sv f0 f1 f2) rfl (by kernel_rfl) (fun _ => zA rfl) (fun h => nomatch h) (xe ?_)
    clear hS
    refine ze (mi rfl (za _ (ysu rfl rfl) (ai rfl (zb ?_))))
    cases hs
    have hO := hO.fr1.drop.fr1.fr1
    exact ⟨_, f0, f1, f2, m1, fr_m 78 rfl, hC, hO, h0, h1, h2, a0, f3⟩
  refine zi (cb d6) (wp_exit ?_)
  cases hs
  have hO := hO.fr1.fr1
  exact ⟨rfl, _, a7, a9, a8, b8, fr_m 78 rfl, hC, hO, h0, h1, h2, a0, a2⟩
 ·skip
  have hO := hO.fr1.fr1
  exact ⟨_, d1, d2, d3, h3, fr_m 78 rfl, hC, hO, h0, h1, h2, a0, d4⟩
 cases o54 with
 | nx _ => exact True.intro
 | rt r_ =>
  have hs := zq hs
  intro e6 f4 hK
  cases hs
  exact hK
 | br s50 =>
  have hs := zp hs
  rintro e6 a4 ⟨σ, c7, c8, c9, d5, rfl, hC, hO, h0, h1, h2, a0, m4⟩
  refine c_sr (ms rfl ?_)
  obtain ⟨x100, m5, hs⟩ := bind_some hs
  obtain ⟨m6, n7, n8, n9, m7, m8, o0⟩ := zS Sl34 Sz3 m4 m5
  refine za _ (ip m7 rfl rfl) (za (iv x100) (zo rfl ((zm Ag3 Sz3 m8) _ (Chg.refl _ _))) (ai rfl (zb (wp_ret ?_))))
  cases hs
  exact ⟨_, fr_m 78 rfl, hC⟩

def xE (M : Nat → Prop) (w0 : World) (r : (List Int)) (a : Act) (w : World) : Prop :=
  ∃ (σ : Nv) (ra0 : OA) (rn0 rc0 : Nat) (rf0 : List Nat), a = fr 31 (ovl σ [(2, (sv ra0 rn0 rc0))]) ∧ Chg [] w0 w ∧ (RT.os 3 ri).val M w (sv ra0 rn0 rc0) r rf0 ∧ Own (Nw w0 []) (fun _ => True) w (rf0 ++ [])
def yc (b0 : Int × (List (List Int))) (b1 : Int × (List (Int × (List Int))) × Int × (List (List Int)) × (List (ByteArray × Int))) : Option ((List Int)) :=
  (forR (S := (List Int)) (R := (List Int)) (fun _ x25 s22 =>
  (ZC x25).bind fun r37 =>
  (app s22 ([((mget b1.2.2.2.2 r37).getD 0)])).bind fun y41 =>
  some (.nx y41)) 0 b0.2 ([])).bind fun o26 => after o26 (fun r_ => some r_) (fun s22 =>
  some s22)
theorem wq {M : Nat → Prop} {w : World} {vg0 : Nat} {vg1 : Nat} {va0x2 : OA} {vn0x2 vc0x2 : Nat} {va1x1 : OA} {vn1x1 vc1x1 : Nat} {va1x3 : OA} {vn1x3 vc1x3 : Nat} {vn1x4 : Nat} (b0 : Int × tM) (b1 : Int × (List (Int × (List Int))) × Int × tM × (List (ByteArray × Int))) (hb0 : RBox M w vg0 59 [(pq vg1 0), (iv b0.1), (sv va0x2 vn0x2 vc0x2)]) (hl0x2 : rm.val M w (sv va0x2 vn0x2 vc0x2) b0.2 []) (hb1 : RBox M w vg1 90 [(iv b1.1), (sv va1x1 vn1x1 vc1x1), (iv b1.2.2.1), (sv va1x3 vn1x3 vc1x3), (.map (some vn1x4))]) (hl1x1 : rp.val M w (sv va1x1 vn1x1 vc1x1) b1.2.1 []) (hl1x3 : rm.val M w (sv va1x3 vn1x3 vc1x3) b1.2.2.2.1 []) (hl1x4 : (RT.mr (Value.int .i64)).val M w (.map (some vn1x4)) b1.2.2.2.2 []) (hM : Hm w M) {r : (List Int)} (hs : yc b0 b1 = some r) :
    Gives Tryz.prog 65 [(pq vg0 0)] w (fun v w' => ∃ (ra0 : OA) (rn0 rc0 : Nat) (rf0 : List Nat), v = (sv ra0 rn0 rc0) ∧ Chg [] w w' ∧ (RT.os 3 ri).val M w' (sv ra0 rn0 rc0) r rf0 ∧ Own (Nw w []) (fun _ => True) w' (rf0 ++ [])) := by
 refine zr Tryz.func65 rfl Tryz.ntmps65 (nl rfl) ?_
 have hO := Own.start (N := Nw w []) hM Nw.fut
 have hC := Chg.refl [] w
 unfold yc at hs
 refine wp_k (K := (xE M w r)) (by rintro _ _ ⟨σ, ra0, rn0, rc0, rf0, rfl, hrest⟩; exact Za Tryz.results65 (zB rfl) ⟨ra0, rn0, rc0, rf0, rfl, hrest⟩) (c_sr (ax rfl (zb (c_sr ?_))))
 obtain ⟨d1, b2, d8, d2, a8, d3⟩ := zg w [] 3
 refine za (w' := d1) (sv (some ⟨b2, 0, none⟩) 0 0) (zz rfl (by rw [d8, d2]; kernel_rfl)) ?_
 obtain ⟨hl0x2, hb0, hl1x1, hl1x3, hl1x4, hb1, hC⟩ := xt7 a8 hl0x2 hb0 hl1x1 hl1x3 hl1x4 hb1 hC
 have hO := hO.new1 a8 d2 d3.lt
 have c1 := os0 (r := ri) (M := M) d3
 refine ax rfl (zb (zd (c_sr (mp rfl (za _ (Zs rfl) (za (pq vg0 2) (zk rfl uN) (za _ (ld rfl Ag45 Sz45 hb0.1 rfl) (za _ (zn Sl45 (zt hl0x2) rfl) (mi rfl (zb ?_))))))))))
 obtain ⟨o26, d9, hs⟩ := bind_some hs
 refine wp_block (YE (id := 0) (I := fun i_ xs_ s22 a a0 => ∃ a6 : Nat, i_ = (a6 : Int) ∧ List.drop a6 b0.2 = xs_ ∧ (∃ (σ : Nv) (b3 : OA) (b4 : Nat) (b5 : Nat) (b9 : List Nat), a = fr 31 (ovl σ [(0, (pq vg0 0)), (3, (sv b3 b4 b5)), (10, (sv va0x2 vn0x2 vc0x2)), (11, (iv (b0.2.length : Int))), (12, (iv (a6 : Int)))]) ∧ Chg [] w a0 ∧ Own (Nw w []) M a0 (b9 ++ []) ∧ rm.val M a0 (sv va0x2 vn0x2 vc0x2) b0.2 [] ∧ RBox M a0 vg0 59 [(pq vg1 0), (iv b0.1), (sv va0x2 vn0x2 vc0x2)] ∧ rp.val M a0 (sv va1x1 vn1x1 vc1x1) b1.2.1 [] ∧ rm.val M a0 (sv va1x3 vn1x3 vc1x3) b1.2.2.2.1 [] ∧ (RT.mr (Value.int .i64)).val M a0 (.map (some vn1x4)) b1.2.2.2.2 [] ∧ RBox M a0 vg1 90 [(iv b1.1), (sv va1x1 vn1x1 vc1x1), (iv b1.2.2.1), (sv va1x3 vn1x3 vc1x3), (.map (some vn1x4))] ∧ (RT.os 3 ri).val M a0 (sv b3 b4 b5) s22 b9)) (J := fun s22 a a0 => ∃ (σ : Nv) (b6 : OA) (b7 : Nat) (b8 : Nat) (c0 : List Nat), a = fr 31 (ovl σ [(3, (sv b6 b7 b8))]) ∧ Chg [] w a0 ∧ Own (Nw w []) M a0 (c0 ++ []) ∧ rm.val M a0 (sv va0x2 vn0x2 vc0x2) b0.2 [] ∧ RBox M a0 vg0 59 [(pq vg1 0), (iv b0.1), (sv va0x2 vn0x2 vc0x2)] ∧ rp.val M a0 (sv va1x1 vn1x1 vc1x1) b1.2.1 [] ∧ rm.val M a0 (sv va1x3 vn1x3 vc1x3) b1.2.2.2.1 [] ∧ (RT.mr (Value.int .i64)).val M a0 (.map (some vn1x4)) b1.2.2.2.2 [] ∧ RBox M a0 vg1 90 [(iv b1.1), (sv va1x1 vn1x1 vc1x1), (iv b1.2.2.1), (sv va1x3 vn1x3 vc1x3), (.map (some vn1x4))] ∧ (RT.os 3 ri).val M a0 (sv b6 b7 b8) s22 c0) (K := (xE M w)) ?_ ?_ b0.2 0 [] o26 _ _ ?_ d9 ?_)
 ·rintro _ s22 a a0 ⟨a6, rfl, hd, σ, b3, b4, b5, b9, rfl, hC, hO, hl0x2, hb0, hl1x1, hl1x3, hl1x4, hb1, a4⟩
  have hlt := ZI hd
  refine c_sr (za _ (zw rfl rfl) (zb (zd (zi (df hlt) (wp_exit ?_)))))
  exact ⟨rfl, _, b3, b4, b5, b9, fr_m 31 rfl, hC, hO, hl0x2, hb0, hl1x1, hl1x3, hl1x4, hb1, a4⟩
 ·rintro _ x25 xs_ s22 o26 a a0 ⟨a6, rfl, hd, σ, b3, b4, b5, b9, rfl, hC, hO, hl0x2, hb0, hl1x1, hl1x3, hl1x4, hb1, a4⟩ hs
  have hlt := ZB hd
  have e0 := Zt hd
  refine c_sr (za _ (zw rfl rfl) (zb (zd (zh (dt hlt) (wp_skip (zd (wp_block (c_sr ?_))))))))
  obtain ⟨e1, e2, e3, e4⟩ := zK Sl45 Sz34 hl0x2 e0
  refine za _ (ip e3 rfl rfl) ?_
  obtain ⟨f7, e5, a5⟩ := Zc Ag34 Sz34 (fun _ => rfl) e4
  obtain ⟨c2, c3, c4, rfl⟩ := yl a5
  refine za (sv c2 c3 c4) (zo rfl (e5 _ (Chg.refl _ _))) (ax rfl (zb (zQ [12] Mx rfl ?_)))
  have a3 := Chg.drew a0
  generalize World.drew a0 = e6 at a3 ⊢
  obtain ⟨hl0x2, hb0, hl1x1, hl1x3, hl1x4, hb1, a4, a5⟩ := xt8 a3 hl0x2 hb0 hl1x1 hl1x3 hl1x4 hb1 a4 a5
  obtain ⟨hC, hO⟩ := xt2 a3 hC hO
  have hS := Chg.refl [] e6
  refine xms 0 rfl rfl hS (xmp 1 rfl rfl hS (xq 2 _ rfl (Zs rfl) hS (xq 3 (pq vg0 0) rfl (zk rfl vq) hS (xl 4 rfl (ldx rfl Ag57 Sz57 hb0.1 rfl) hS (xq 5 _ rfl (Zs rfl) hS (xq 6 (pq vg1 4) rfl (zk rfl Va) hS (xl 7 rfl (ldx rfl Ag88 Sz88 hb1.1 rfl) hS (xms 8 rfl rfl hS (zI (i := 9) (by kernel_rfl) ?_)))))))))
  obtain ⟨r37, e7, hs⟩ := bind_some hs
  refine zL (b := false) rfl Bd60 rfl (xc (M := M) x25 a5 hO.fut e7) rfl (by rintro _ _ _ ⟨rfl, a1⟩; exact hS.ext a1) ?_
  rintro _ e8 ⟨rfl, a1⟩
  obtain ⟨hl0x2, hb0, hl1x1, hl1x3, hl1x4, hb1, a4, a5⟩ := xt8 a1 hl0x2 hb0 hl1x1 hl1x3 hl1x4 hb1 a4 a5
  obtain ⟨hC, hO, hS⟩ := xt3 a1 hC hO hS
  refine zI (i := 10) (by kernel_rfl) (zR (b := false) (iv ((mget b1.2.2.2.2 r37).getD 0)) rfl (zbV (enc := (Value.int .i64)) Tryz.underlying88 Tryz.underlying9 Zv3 (mr_at hl1x4) rfl rfl) rfl (fun _ => hS) (zI (i := 11) (by kernel_rfl) ?_))
  obtain ⟨d4, c5, e9, d5, a2, d6⟩ := zg e8 [(iv ((mget b1.2.2.2.2 r37).getD 0))] 3
  refine zR (w' := d4) (b := false) (sv (some ⟨c5, 0, none⟩) 1 1) rfl (zz rfl (by rw [e9, d5]; kernel_rfl)) rfl (fun _ => hS.ext a2) ?_
  obtain ⟨hl0x2, hb0, hl1x1, hl1x3, hl1x4, hb1, a4, a5⟩ := xt8 a2 hl0x2 hb0 hl1x1 hl1x3 hl1x4 hb1 a4 a5
  have hC := hC.ext a2
  have hO := hO.new1 a2 d5 d6.lt
  have c6 := os1 (M := M) d6
  have hS := hS.ext a2
  refine zI (i := 12) (by kernel_rfl) ?_
  obtain ⟨y41, f0, hs⟩ := bind_some hs
  have hO := hO.fr1
  obtain ⟨c7, c8, c9, f1, f2, f3, a7, f4, d0⟩ := ya Rw34 f0 a4 c6 hO.inM (fun g hg hq => hO.apart g hq (zD hg))
  have a9 := zC a4
  refine zR (w' := f1) (b := true) (sv c7 c8 c9) rfl (zN rfl rfl (f3 _)) rfl (fun h => nomatch h) ?_
  have hO := hO.fr1.fr1
  have hl0x2 := hl0x2.mt a7 hO a9
  have hb0 := hb0.mut a7 (fun q hq => hO.inM q (a9 q hq))
  have hl1x1 := hl1x1.mt a7 hO a9
  have hl1x3 := hl1x3.mt a7 hO a9
  have hl1x4 := hl1x4.mt a7 hO a9
  have hb1 := hb1.mut a7 (fun q hq => hO.inM q (a9 q hq))
  have a5 := a5.mt a7 hO a9
  have hC := hC.st a7 hO a9
  have hO := hO.eat a7 f4 (zu d0) d0.fpl
  refine x_p 13 (sv c7 c8 c9) rfl (by kernel_rfl) (fun _ => zA rfl) (fun h => nomatch h) (xe ?_)
  clear hS
  refine ze (za _ (yad rfl rfl) (mi rfl (zb ?_)))
  cases hs
  exact ⟨_, rfl, Zk hd, _, c7, c8, c9, f2, zG 31 ⟨rfl, rfl, rfl, rfl, congrArg (Value.int .i64) (Yc hlt (Int.natCast_nonneg _) (Xo hl0x2)), trivial⟩, hC, hO, hl0x2, hb0, hl1x1, hl1x3, hl1x4, hb1, d0⟩
 ·skip
  exact ⟨0, rfl, rfl, _, (some ⟨b2, 0, none⟩), 0, 0, [b2], fr_m 31 rfl, hC, hO, hl0x2, hb0, hl1x1, hl1x3, hl1x4, hb1, c1⟩
 cases o26 with
 | nx _ => exact True.intro
 | rt r_ =>
  have hs := zq hs
  intro f5 d7 hK
  cases hs
  exact hK
 | br s22 =>
  have hs := zp hs
  rintro f5 a0 ⟨σ, b6, b7, b8, c0, rfl, hC, hO, hl0x2, hb0, hl1x1, hl1x3, hl1x4, hb1, f6⟩
  refine c_sr (ms rfl (ax rfl (zb (wp_ret ?_))))
  cases hs
  exact ⟨_, b6, b7, b8, c0, fr_m 31 rfl, hC, f6, hO.top⟩

theorem Bd64 : zF Tryz.prog 64 := zJ Tryz.func64 (by kernel_rfl) rfl

theorem Bd65 : zF Tryz.prog 65 := zJ Tryz.func65 (by kernel_rfl) rfl

end Go.Proofs
