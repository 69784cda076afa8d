/- What functions of the program compute, as plain functions, and that a call gives just that. Conditions: those named in each theorem. -/
import Derived.Test.YtkbacbikbndakaaGZip
import Derived.Test.YtkbacbikbndakaaRows
set_option linter.unusedVariables false
namespace Go.Proofs
open Go.G Go.RowKit
set_option maxRecDepth 100000

theorem Sl43 : SlT Try.prog 43 3 := Try.underlying43

def VV (M : Nat → Prop) (w0 : World) (r : Int) (a : Act) (w : World) : Prop :=
  ∃ (σ : Nat → Value) , a = fr 12 (ovl σ [(4, (.int .i64 r))]) ∧ Chg [] w0 w
def Yl (a_ : List Int) (left : Int) : Option (Int) :=
  (bif (decide ((w64 (left - (a_.length : Int))) < 0)) then some (-1) else some (w64 (left - (a_.length : Int))))
set_option maxHeartbeats 4000000 in
theorem VT {M : Nat → Prop} {w : World} {pa0 : Option Addr} {pn0 pc0 : Nat} (a_ : List Int) (left : Int) (h0 : rl.val M w (.slice pa0 pn0 pc0) a_ ([])) (hM : ∀ g, w.heap.size ≤ g → M g) {r : Int} (hs : Yl a_ left = some r) :
    Gives Try.prog 51 [(.slice pa0 pn0 pc0), (iv left)] w (fun v w' => v = (iv r) ∧ Chg [] w w') := by
 refine zr Try.func51 rfl Try.ntmps51 (Nat.le_of_ble_eq_true rfl) ?_
 have hO := Own.start (N := Nw w []) hM Nw.fut
 have hC := Chg.refl [] w
 unfold Yl at hs
 refine wp_k (K := (VV M w r)) (by rintro _ _ ⟨σ, rfl, hrest⟩; exact Zh Try.results51 (zB rfl) ⟨rfl, hrest⟩) (c_sr (ai rfl (zb (c_sr (mi rfl (ms rfl (za _ (zn Sl43 (zu h0) rfl) (za _ (ysu rfl rfl) (ai rfl (zb (zd (c_sr (mi rfl (za _ (zx rfl rfl) (zb ?_)))))))))))))))
 rcases zf hs with ⟨a0, hs⟩ | ⟨a0, hs⟩
 ·refine zg (cb a0) (c_sr (ai rfl (zb (wp_ret ?_))))
  cases hs
  exact ⟨_, fr_m 12 rfl, hC⟩
 refine zh (cb a0) (wp_skip (c_sr (mi rfl (ai rfl (zb (wp_ret ?_))))))
 cases hs
 exact ⟨_, fr_m 12 rfl, hC⟩

theorem Fa86x1 : ∀ (a : Addr) (w : World), (Instr.fieldAt 86 (.pointer (some a)) 1).run Try.prog w = .ok (.pointer (some (a.add 1))) w := fun _ _ => by kernel_rfl

theorem Ag43 : AggT Try.prog 43 false := fun _ => by kernel_rfl

theorem Sz43 : SzT Try.prog 43 1 := ⟨_, rfl, rfl⟩

theorem Bd51 : zC Try.prog 51 := zI Try.func51 (by kernel_rfl) rfl

def UJ (M : Nat → Prop) (w0 : World) (r : Int) (a : Act) (w : World) : Prop :=
  ∃ (σ : Nat → Value) , a = fr 12 (ovl σ [(4, (.int .i64 r))]) ∧ Chg [] w0 w
def YY (a_ : Int × (List Int)) (left : Int) : Option (Int) :=
  (Yl a_.2 left).bind fun r4 =>
  (bif (decide (r4 < 0)) then some (-1) else some r4)
set_option maxHeartbeats 4000000 in
theorem zab {M : Nat → Prop} {w : World} {pa0 : Option Addr} {pn0 pc0 : Nat} (a_ : Int × (List Int)) (left : Int) (h0 : rl.val M w (.slice pa0 pn0 pc0) a_.2 ([])) (hM : ∀ g, w.heap.size ≤ g → M g) {r : Int} (hs : YY a_ left = some r) :
    Gives Try.prog 64 [(.agg #[(iv a_.1), (.slice pa0 pn0 pc0)]), (iv left)] w (fun v w' => v = (iv r) ∧ Chg [] w w') := by
 refine zr Try.func64 rfl Try.ntmps64 (Nat.le_of_ble_eq_true rfl) ?_
 have hO := Own.start (N := Nw w []) hM Nw.fut
 have hC := Chg.refl [] w
 unfold YY at hs
 refine wp_k (K := (UJ M w r)) (by rintro _ _ ⟨σ, rfl, hrest⟩; exact Zh Try.results64 (zB rfl) ⟨rfl, hrest⟩) (c_sr ?_)
 obtain ⟨a6, a4, a7, a5, a2, a0⟩ := zi w [(iv a_.1), (.slice pa0 pn0 pc0)] 86
 refine za (w' := a6) (pq a4 0) (ZW rfl (by rw [a7, a5]; kernel_rfl)) ?_
 obtain ⟨h0, hC⟩ := xt2 a2 h0 hC
 have hO := hO.new1 a2 a5 a0.lt
 refine ai rfl (zb (c_sr (za (pq a4 1) (zk rfl Fa86x1) (za _ (ld rfl Ag43 Sz43 a0 rfl) (mi rfl ?_)))))
 obtain ⟨r4, a8, hs⟩ := bind_some hs
 refine zy Bd51 rfl (VT (M := M) a_.2 left h0 hO.fut a8) ?_
 rintro _ b0 ⟨rfl, a1⟩
 obtain ⟨h0, a0, hC, hO⟩ := xt4 a1 h0 a0 hC hO
 refine ai rfl (zb ?_)
 have hO := hO.drop
 refine zd (c_sr (mi rfl (za _ (zx rfl rfl) (zb ?_))))
 rcases zf hs with ⟨a3, hs⟩ | ⟨a3, hs⟩
 ·refine zg (cb a3) (c_sr (ai rfl (zb (wp_ret ?_))))
  cases hs
  exact ⟨_, fr_m 12 rfl, hC⟩
 refine zh (cb a3) (wp_skip (c_sr (mi rfl (ai rfl (zb (wp_ret ?_))))))
 cases hs
 exact ⟨_, fr_m 12 rfl, hC⟩

theorem Sl22 : SlT Try.prog 22 86 := Try.underlying22

theorem Sz86 : SzT Try.prog 86 2 := ⟨_, rfl, rfl⟩

theorem Ag86 : AggT Try.prog 86 true := fun _ => by kernel_rfl

theorem Bd64 : zC Try.prog 64 := zI Try.func64 (by kernel_rfl) rfl

def Wx (M : Nat → Prop) (w0 : World) (r : Int) (a : Act) (w : World) : Prop :=
  ∃ (σ : Nat → Value) , a = fr 27 (ovl σ [(4, (.int .i64 r))]) ∧ Chg [] w0 w
def xK (a_ : List (Int × (List Int))) (left : Int) : Option (Int) :=
  (bif (decide ((w64 (left - (a_.length : Int))) < 0)) then some (-1) else (forC (S := Int) (R := Int) (fun k12 s10 =>
  (idx a_ k12).bind fun x16 =>
  (YY (x16.1, x16.2) s10).bind fun r21 =>
  (bif (decide (r21 < 0)) then some (.rt (-1)) else some (.nx r21))) 0 (a_.length : Int) (w64 (left - (a_.length : Int)))).bind fun o14 => after o14 (fun r_ => some r_) (fun s10 =>
  some s10))
set_option maxHeartbeats 4000000 in
theorem uC {M : Nat → Prop} {w : World} {pa0 : Option Addr} {pn0 pc0 : Nat} (a_ : List (Int × (List Int))) (left : Int) (h0 : (RT.rs (RT.pr ri rl)).val M w (.slice pa0 pn0 pc0) a_ ([])) (hM : ∀ g, w.heap.size ≤ g → M g) {r : Int} (hs : xK a_ left = some r) :
    Gives Try.prog 34 [(.slice pa0 pn0 pc0), (iv left)] w (fun v w' => v = (iv r) ∧ Chg [] w w') := by
 refine zr Try.func34 rfl Try.ntmps34 (Nat.le_of_ble_eq_true rfl) ?_
 have hO := Own.start (N := Nw w []) hM Nw.fut
 have hC := Chg.refl [] w
 unfold xK at hs
 refine wp_k (K := (Wx M w r)) (by rintro _ _ ⟨σ, rfl, hrest⟩; exact Zh Try.results34 (zB rfl) ⟨rfl, hrest⟩) (c_sr (ai rfl (zb (c_sr (mi rfl (ms rfl (za _ (zn Sl22 (zu h0) rfl) (za _ (ysu rfl rfl) (ai rfl (zb (zd (c_sr (mi rfl (za _ (zx rfl rfl) (zb ?_)))))))))))))))
 rcases zf hs with ⟨a2, hs⟩ | ⟨a2, hs⟩
 ·refine zg (cb a2) (c_sr (ai rfl (zb (wp_ret ?_))))
  cases hs
  exact ⟨_, fr_m 27 rfl, hC⟩
 refine zh (cb a2) (wp_skip (zd (c_sr (ai rfl (zb ?_)))))
 obtain ⟨o14, a7, hs⟩ := bind_some hs
 refine wp_block (zW (id := 0) (a_.length : Int) (I := fun k12 s10 a a0 => ∃ (σ : Nat → Value), a = fr 27 (ovl σ [(0, (.slice pa0 pn0 pc0)), (1, (iv s10)), (5, (iv k12))]) ∧ Chg [] w a0 ∧ Own (Nw w []) M a0 ([]) ∧ (RT.rs (RT.pr ri rl)).val M a0 (.slice pa0 pn0 pc0) a_ ([])) (J := fun s10 a a0 => ∃ (σ : Nat → Value), a = fr 27 (ovl σ [(1, (iv s10))]) ∧ Chg [] w a0 ∧ Own (Nw w []) M a0 ([]) ∧ (RT.rs (RT.pr ri rl)).val M a0 (.slice pa0 pn0 pc0) a_ ([])) (K := (Wx M w)) ?_ ?_ 0 (w64 (left - (a_.length : Int))) o14 _ _ ?_ a7 ?_)
 ·rintro k12 s10 a a0 ⟨σ, rfl, hC, hO, h0⟩ hlt
  refine zd (c_sr (mi rfl (ms rfl (za _ (zn Sl22 (zu h0) rfl) (za _ (zx rfl rfl) (zb (zh (cb (decide_eq_false hlt)) (wp_exit ?_))))))))
  exact ⟨rfl, _, fr_m 27 rfl, hC, hO, h0⟩
 ·rintro k12 s10 o14 a a0 ⟨σ, rfl, hC, hO, h0⟩ hlt hw hs
  refine zd (c_sr (mi rfl (ms rfl (za _ (zn Sl22 (zu h0) rfl) (za _ (zx rfl rfl) (zb (zg (cb (decide_eq_true hlt)) (wp_skip (zd (wp_block (c_sr (ms rfl (mi rfl ?_)))))))))))))
  obtain ⟨x16, a8, hs⟩ := bind_some hs
  obtain ⟨a9, b0, b1, a3⟩ := zN Sl22 Sz86 h0 a8
  refine za _ (b1 _ _ _ _ _ _ _ _ _ rfl rfl) ?_
  obtain ⟨c2, b2, b3⟩ := Zj Ag86 Sz86 (by intro h; cases h) a3
  obtain ⟨c3, rfl, b4⟩ := b3
  obtain ⟨c4, c5, rfl, b5, b6⟩ := Yz b4
  obtain rfl := YN b5
  obtain ⟨b7, b8, b9, rfl, a4⟩ := xp b6
  refine za (.agg #[(iv x16.1), (.slice b7 b8 b9)]) (zo rfl (b2 _ (Chg.refl _ _))) (mi rfl ?_)
  obtain ⟨r21, c0, hs⟩ := bind_some hs
  refine zy Bd64 rfl (zab (M := M) (x16.1, x16.2) s10 a4 hO.fut c0) ?_
  rintro _ c6 ⟨rfl, a1⟩
  obtain ⟨h0, a4, a3, hC, hO⟩ := xt5 a1 h0 a4 a3 hC hO
  refine ai rfl (zb (c_sr (mi rfl (za _ (zx rfl rfl) (zb ?_)))))
  rcases zf hs with ⟨a5, hs⟩ | ⟨a5, hs⟩
  ·refine zg (cb a5) (c_sr (ai rfl (zb (wp_ret ?_))))
   cases hs
   exact ⟨_, fr_m 27 rfl, hC⟩
  refine zh (cb a5) (wp_skip (ze (mi rfl (za _ (yad rfl rfl) (ai rfl (zb ?_))))))
  cases hs
  exact ⟨_, zD 27 ⟨rfl, rfl, congrArg (Value.int .i64) hw, trivial⟩, hC, hO, h0⟩
 ·skip
  exact ⟨_, fr_m 27 rfl, hC, hO, h0⟩
 cases o14 with
 | nx _ => exact True.intro
 | rt r_ =>
  have hs := zp hs
  intro c1 a6 hK
  cases hs
  exact hK
 | br s10 =>
  have hs := zq hs
  rintro c1 a0 ⟨σ, rfl, hC, hO, h0⟩
  refine c_sr (mi rfl (ai rfl (zb (wp_ret ?_))))
  cases hs
  exact ⟨_, fr_m 27 rfl, hC⟩

theorem Fa24x1 : ∀ (a : Addr) (w : World), (Instr.fieldAt 24 (.pointer (some a)) 1).run Try.prog w = .ok (.pointer (some (a.add 1))) w := fun _ _ => by kernel_rfl

theorem Ag22 : AggT Try.prog 22 false := fun _ => by kernel_rfl

theorem Sz22 : SzT Try.prog 22 1 := ⟨_, rfl, rfl⟩

theorem Bd34 : zC Try.prog 34 := zI Try.func34 (by kernel_rfl) rfl

def WQ (M : Nat → Prop) (w0 : World) (r : Int) (a : Act) (w : World) : Prop :=
  ∃ (σ : Nat → Value) , a = fr 12 (ovl σ [(4, (.int .i64 r))]) ∧ Chg [] w0 w
def ZS (a_ : Int × (List (Int × (List Int)))) (left : Int) : Option (Int) :=
  (xK a_.2 left).bind fun r4 =>
  (bif (decide (r4 < 0)) then some (-1) else some r4)
set_option maxHeartbeats 4000000 in
theorem va {M : Nat → Prop} {w : World} {pa0 : Option Addr} {pn0 pc0 : Nat} (a_ : Int × (List (Int × (List Int)))) (left : Int) (h0 : (RT.rs (RT.pr ri rl)).val M w (.slice pa0 pn0 pc0) a_.2 ([])) (hM : ∀ g, w.heap.size ≤ g → M g) {r : Int} (hs : ZS a_ left = some r) :
    Gives Try.prog 8 [(.agg #[(iv a_.1), (.slice pa0 pn0 pc0)]), (iv left)] w (fun v w' => v = (iv r) ∧ Chg [] w w') := by
 refine zr Try.func8 rfl Try.ntmps8 (Nat.le_of_ble_eq_true rfl) ?_
 have hO := Own.start (N := Nw w []) hM Nw.fut
 have hC := Chg.refl [] w
 unfold ZS at hs
 refine wp_k (K := (WQ M w r)) (by rintro _ _ ⟨σ, rfl, hrest⟩; exact Zh Try.results8 (zB rfl) ⟨rfl, hrest⟩) (c_sr ?_)
 obtain ⟨a6, a4, a7, a5, a2, a0⟩ := zi w [(iv a_.1), (.slice pa0 pn0 pc0)] 24
 refine za (w' := a6) (pq a4 0) (ZW rfl (by rw [a7, a5]; kernel_rfl)) ?_
 obtain ⟨h0, hC⟩ := xt2 a2 h0 hC
 have hO := hO.new1 a2 a5 a0.lt
 refine ai rfl (zb (c_sr (za (pq a4 1) (zk rfl Fa24x1) (za _ (ld rfl Ag22 Sz22 a0 rfl) (mi rfl ?_)))))
 obtain ⟨r4, a8, hs⟩ := bind_some hs
 refine zy Bd34 rfl (uC (M := M) a_.2 left h0 hO.fut a8) ?_
 rintro _ b0 ⟨rfl, a1⟩
 obtain ⟨h0, a0, hC, hO⟩ := xt4 a1 h0 a0 hC hO
 refine ai rfl (zb ?_)
 have hO := hO.drop
 refine zd (c_sr (mi rfl (za _ (zx rfl rfl) (zb ?_))))
 rcases zf hs with ⟨a3, hs⟩ | ⟨a3, hs⟩
 ·refine zg (cb a3) (c_sr (ai rfl (zb (wp_ret ?_))))
  cases hs
  exact ⟨_, fr_m 12 rfl, hC⟩
 refine zh (cb a3) (wp_skip (c_sr (mi rfl (ai rfl (zb (wp_ret ?_))))))
 cases hs
 exact ⟨_, fr_m 12 rfl, hC⟩

theorem Rw43 : RowT Try.prog 43 3 1 [(.int .i64 0)] := ⟨Try.underlying43, ⟨_, _, rfl, rfl, rfl, rfl, by decide⟩, rfl, by decide⟩

theorem Sz3 : SzT Try.prog 3 1 := ⟨_, rfl, rfl⟩

theorem Ag3 : AggT Try.prog 3 false := fun _ => by kernel_rfl

def wY (M : Nat → Prop) (w0 : World) (r : (List Int)) (a : Act) (w : World) : Prop :=
  ∃ (σ : Nat → Value) (ra0 : Option Addr) (rn0 rc0 : Nat) (rf0 : List Nat), a = fr 22 (ovl σ [(2, (.slice ra0 rn0 rc0))]) ∧ Chg [] w0 w ∧ (RT.os 3 (RT.int .i64)).val M w (.slice ra0 rn0 rc0) r rf0 ∧ Own (Nw w0 []) (fun _ => True) w (rf0 ++ ([]))
def Yk (a_ : List Int) : Option ((List Int)) :=
  (mks (a_.length : Int) (0 : Int)).bind fun y3 =>
  (forC (S := (List Int)) (R := (List Int)) (fun k18 s16 =>
  (idx a_ k18).bind fun x24 =>
  (idx s16 k18).bind fun x26 =>
  some (.nx (List.set s16 (Int.toNat k18) x24))) 0 (a_.length : Int) y3).bind fun o20 => after o20 (fun r_ => some r_) (fun s16 =>
  some s16)
set_option maxHeartbeats 4000000 in
theorem VR {M : Nat → Prop} {w : World} {pa0 : Option Addr} {pn0 pc0 : Nat} (a_ : List Int) (h0 : rl.val M w (.slice pa0 pn0 pc0) a_ ([])) (hM : ∀ g, w.heap.size ≤ g → M g) {r : (List Int)} (hs : Yk a_ = some r) :
    Gives Try.prog 20 [(.slice pa0 pn0 pc0)] w (fun v w' => ∃ (ra0 : Option Addr) (rn0 rc0 : Nat) (rf0 : List Nat), v = (.slice ra0 rn0 rc0) ∧ Chg [] w w' ∧ (RT.os 3 ri).val M w' (.slice ra0 rn0 rc0) r rf0 ∧ Own (Nw w []) (fun _ => True) w' (rf0 ++ ([]))) := by
 refine zr Try.func20 rfl Try.ntmps20 (Nat.le_of_ble_eq_true rfl) ?_
 have hO := Own.start (N := Nw w []) hM Nw.fut
 have hC := Chg.refl [] w
 unfold Yk at hs
 refine wp_k (K := (wY M w r)) (by rintro _ _ ⟨σ, ra0, rn0, rc0, rf0, rfl, hrest⟩; exact Zh Try.results20 (zB rfl) ⟨ra0, rn0, rc0, rf0, rfl, hrest⟩) (c_sr (ax rfl (zb (c_sr (ms rfl (za _ (zn Sl43 (zu h0) rfl) ?_))))))
 obtain ⟨y3, b5, hs⟩ := bind_some hs
 obtain ⟨a1, a2, a3, b6, b7, b8, a7, b9, a8⟩ := YI (M := M) (w := w) (r := ri) Rw43 b5 (fun _ _ => ⟨rfl, rfl⟩)
 refine za (w' := b6) (.slice a1 a2 a3) (yL rfl rfl b8) ?_
 obtain ⟨h0, hC⟩ := xt2 a7 h0 hC
 have hO := hO.new a7 b9 (zw a8) a8.fpl
 refine ax rfl (zb (zd (c_sr (ai rfl (zb ?_)))))
 obtain ⟨o20, c0, hs⟩ := bind_some hs
 refine wp_block (zW (id := 0) (a_.length : Int) (I := fun k18 s16 a a0 => ∃ (σ : Nat → Value) (a4 : List Nat), a = fr 22 (ovl σ [(0, (.slice pa0 pn0 pc0)), (3, (.slice a1 a2 a3)), (4, (iv k18))]) ∧ Chg [] w a0 ∧ Own (Nw w []) M a0 (a4 ++ []) ∧ rl.val M a0 (.slice pa0 pn0 pc0) a_ ([]) ∧ (RT.os 3 ri).val M a0 (.slice a1 a2 a3) s16 a4) (J := fun s16 a a0 => ∃ (σ : Nat → Value) (a6 : List Nat), a = fr 22 (ovl σ [(3, (.slice a1 a2 a3))]) ∧ Chg [] w a0 ∧ Own (Nw w []) M a0 (a6 ++ []) ∧ rl.val M a0 (.slice pa0 pn0 pc0) a_ ([]) ∧ (RT.os 3 ri).val M a0 (.slice a1 a2 a3) s16 a6) (K := (wY M w)) ?_ ?_ 0 y3 o20 _ _ ?_ c0 ?_)
 ·rintro k18 s16 a a0 ⟨σ, a4, rfl, hC, hO, h0, a5⟩ hlt
  refine zd (c_sr (mi rfl (ms rfl (za _ (zn Sl43 (zu h0) rfl) (za _ (zx rfl rfl) (zb (zh (cb (decide_eq_false hlt)) (wp_exit ?_))))))))
  exact ⟨rfl, _, a4, fr_m 22 rfl, hC, hO, h0, a5⟩
 ·rintro k18 s16 o20 a a0 ⟨σ, a4, rfl, hC, hO, h0, a5⟩ hlt hw hs
  refine zd (c_sr (mi rfl (ms rfl (za _ (zn Sl43 (zu h0) rfl) (za _ (zx rfl rfl) (zb (zg (cb (decide_eq_true hlt)) (wp_skip (zd (wp_block (ze (ms rfl (mi rfl (ms rfl (mi rfl ?_)))))))))))))))
  obtain ⟨x24, c1, hs⟩ := bind_some hs
  obtain ⟨c2, c3, c4, c5⟩ := zN Sl43 Sz3 h0 c1
  refine za _ (c4 _ _ _ _ _ _ _ _ _ rfl rfl) (za (iv x24) (zo rfl ((zz Ag3 Sz3 c5) _ (Chg.refl _ _))) ?_)
  obtain ⟨x26, c6, hs⟩ := bind_some hs
  obtain ⟨b1, d5, b2, c7, c8, d6, d7⟩ := zR Sl43 Sz3 a5 c6
  refine za _ (c8 _ _ _ _ _ _ _ _ _ rfl rfl) ?_
  obtain ⟨c9, d0, d1, a9, d2, b0⟩ := yn (P := Try.prog) (c' := [(iv x24)]) b2 a5 c7 (fun g hg => hO.inM g (zA a5 g (by simpa using hg))) ⟨rfl, rfl⟩ List.nodup_nil (fun _ h => nomatch h) (fun _ h => .inl h)
  have b3 : ∀ q ∈ [b1], q ∈ a4 := fun q hq => zA a5 q (by rw [b2]; exact hq)
  refine Zk (w' := c9) (zV rfl rfl (d1 _ _ rfl Sz3)) ?_
  have h0 := h0.mt a9 hO b3
  have hC := hC.st a9 hO b3
  have hO := hO.grow a9 (fun q hq => .inl ((d2 q hq).resolve_right (fun h => nomatch h))) (zw b0) b0.fpl
  refine zb (ze (mi rfl (za _ (yad rfl rfl) (ai rfl (zb ?_)))))
  cases hs
  exact ⟨_, d0, zD 22 ⟨rfl, rfl, congrArg (Value.int .i64) hw, trivial⟩, hC, hO, h0, b0⟩
 ·skip
  exact ⟨_, b7, fr_m 22 rfl, hC, hO, h0, a8⟩
 cases o20 with
 | nx _ => exact True.intro
 | rt r_ =>
  have hs := zp hs
  intro d3 b4 hK
  cases hs
  exact hK
 | br s16 =>
  have hs := zq hs
  rintro d3 a0 ⟨σ, a6, rfl, hC, hO, h0, d4⟩
  refine c_sr (ms rfl (ax rfl (zb (wp_ret ?_))))
  cases hs
  exact ⟨_, a1, a2, a3, a6, fr_m 22 rfl, hC, d4, hO.top⟩

theorem Ag89 : AggT Try.prog 89 true := fun _ => by kernel_rfl

theorem Sz89 : SzT Try.prog 89 2 := ⟨_, rfl, rfl⟩

theorem Fa86x0 : ∀ (a : Addr) (w : World), (Instr.fieldAt 86 (.pointer (some a)) 0).run Try.prog w = .ok (.pointer (some (a.add 0))) w := fun _ _ => by kernel_rfl

theorem yM : ∀ (a : Addr) (w : World), (Instr.fieldAt 89 (.pointer (some a)) 0).run Try.prog w = .ok (.pointer (some (a.add 0))) w := fun _ _ => by kernel_rfl

theorem Bd20 : zC Try.prog 20 := zI Try.func20 (by kernel_rfl) rfl

theorem xE : ∀ (a : Addr) (w : World), (Instr.fieldAt 89 (.pointer (some a)) 1).run Try.prog w = .ok (.pointer (some (a.add 1))) w := fun _ _ => by kernel_rfl

def UN (M : Nat → Prop) (w0 : World) (r : (Int × (List Int))) (a : Act) (w : World) : Prop :=
  ∃ (σ : Nat → Value) (rg2 : Nat) (ra0 : Option Addr) (rn0 rc0 : Nat) (rf0 : List Nat), a = fr 12 (ovl σ [(2, (.pointer (some ⟨rg2, 0, none⟩)))]) ∧ BoxV w rg2 89 [(.int .i64 r.1), (.slice ra0 rn0 rc0)] ∧ Chg [] w0 w ∧ (RT.os 3 (RT.int .i64)).val M w (.slice ra0 rn0 rc0) r.2 rf0 ∧ Own (Nw w0 []) (fun _ => True) w (rf0 ++ ([]))
def YX (a_ : Int × (List Int)) : Option ((Int × (List Int))) :=
  (Yk a_.2).bind fun r7 =>
  some (a_.1, r7)
set_option maxHeartbeats 4000000 in
theorem UY {M : Nat → Prop} {w : World} {pa0 : Option Addr} {pn0 pc0 : Nat} (a_ : Int × (List Int)) (h0 : rl.val M w (.slice pa0 pn0 pc0) a_.2 ([])) (hM : ∀ g, w.heap.size ≤ g → M g) {r : (Int × (List Int))} (hs : YX a_ = some r) :
    Gives Try.prog 75 [(.agg #[(iv a_.1), (.slice pa0 pn0 pc0)])] w (fun v w' => ∃ (ra0 : Option Addr) (rn0 rc0 : Nat) (rf0 : List Nat), v = (.agg #[(iv r.1), (.slice ra0 rn0 rc0)]) ∧ Chg [] w w' ∧ (RT.os 3 ri).val M w' (.slice ra0 rn0 rc0) r.2 rf0 ∧ Own (Nw w []) (fun _ => True) w' (rf0 ++ ([]))) := by
 refine zr Try.func75 rfl Try.ntmps75 (Nat.le_of_ble_eq_true rfl) ?_
 have hO := Own.start (N := Nw w []) hM Nw.fut
 have hC := Chg.refl [] w
 unfold YX at hs
 refine wp_k (K := (UN M w r)) (by rintro _ _ ⟨σ, rg2, ra0, rn0, rc0, rf0, rfl, hbrg2, hrest⟩; exact Zh Try.results75 (zam rfl (Zr Ag89 Sz89 hbrg2 [] _ [] rfl rfl (fun h => nomatch h))) ⟨ra0, rn0, rc0, rf0, rfl, hrest⟩) (c_sr ?_)
 obtain ⟨b9, b3, c9, c0, b7, a0⟩ := zi w [(iv a_.1), (.slice pa0 pn0 pc0)] 86
 refine za (w' := b9) (pq b3 0) (ZW rfl (by rw [c9, c0]; kernel_rfl)) ?_
 obtain ⟨h0, hC⟩ := xt2 b7 h0 hC
 have hO := hO.new1 b7 c0 a0.lt
 obtain ⟨c1, b4, d0, c2, b5, a1⟩ := zi b9 [(iv 0), (.slice none 0 0)] 89
 refine za (w' := c1) (pq b4 0) (xa (by rw [d0, c2]; kernel_rfl)) ?_
 obtain ⟨h0, a0, hC⟩ := xt3 b5 h0 a0 hC
 have hO := hO.new1 b5 c2 a1.lt
 refine zb (c_sr ?_)
 obtain ⟨d1, a5, d2, c3, a8, c4⟩ := zi c1 [(iv 0), (.slice none 0 0)] 89
 refine za (w' := d1) (pq a5 0) (xa (by rw [d2, c3]; kernel_rfl)) ?_
 obtain ⟨h0, a0, a1, hC⟩ := xt4 a8 h0 a0 a1 hC
 have hO := hO.new1 a8 c3 c4.lt
 refine zb (c_sr (za (pq b3 0) (zk rfl Fa86x0) (za _ (ld rfl Ag3 Sz3 a0 rfl) (za (pq a5 0) (zk rfl yM) ?_))))
 obtain ⟨c5, d3, a9, b0⟩ := ZA (P := Try.prog) c4 [] [(iv 0)] [(.slice none 0 0)] [(iv a_.1)] rfl rfl (by intro u hu; simp only [List.mem_cons, List.not_mem_nil, or_false] at hu; rcases hu with rfl <;> rfl)
 refine Zk (w' := c5) (zV rfl rfl (d3 _ _ rfl Sz3)) ?_
 have h0 := h0.mt a9 hO zj
 have a0 := a0.ap a9 hO zj (zl (zm (List.mem_singleton.2 rfl)))
 have a1 := a1.ap a9 hO zj (zm (List.mem_singleton.2 rfl))
 have hC := hC.st a9 hO zj
 have hO := hO.ext a9
 have b0 : BoxV c5 a5 89 [(iv a_.1), (.slice none 0 0)] := b0
 refine zb (c_sr (za (pq b3 1) (zk rfl Fa86x1) (za _ (ld rfl Ag43 Sz43 a0 rfl) ?_)))
 obtain ⟨r7, d4, hs⟩ := bind_some hs
 refine zy Bd20 rfl (VR (M := M) a_.2 h0 hO.fut d4) ?_
 rintro _ d9 ⟨a2, a3, a4, c6, rfl, a6, b1, d5⟩
 obtain ⟨h0, a0, a1, b0, hC⟩ := xt5 a6 h0 a0 a1 b0 hC
 have hO := Own.join0 hO a6 d5
 have hO := hO.perm (R := c6 ++ (([a5]) ++ (([b4]) ++ (([b3]) ++ ([]))))) (by simp)
 refine za (pq a5 1) (zk rfl xE) ?_
 obtain ⟨c7, d6, a7, b2⟩ := ZA (P := Try.prog) b0 [(iv a_.1)] [(.slice none 0 0)] [] [(.slice a2 a3 a4)] rfl rfl (by intro u hu; simp only [List.mem_cons, List.not_mem_nil, or_false] at hu; rcases hu with rfl <;> rfl)
 refine Zk (w' := c7) (zV rfl rfl (d6 _ _ rfl Sz43)) ?_
 have hO := hO.fr1
 have h0 := h0.mt a7 hO zj
 have a0 := a0.ap a7 hO zj (zl (zl (zm (List.mem_singleton.2 rfl))))
 have a1 := a1.ap a7 hO zj (zl (zm (List.mem_singleton.2 rfl)))
 have b1 := b1.ma a7 hO zj (fun _ e => (zm (e)))
 have hC := hC.st a7 hO zj
 have hO := hO.ext a7
 have b2 : BoxV c7 a5 89 [(iv a_.1), (.slice a2 a3 a4)] := b2
 refine zb ?_
 have hO := hO.fr3.drop
 refine c_sr (za _ (ldw rfl Ag89 b2 Sz89) ?_)
 obtain ⟨c8, d7, b6, b8⟩ := ZA (P := Try.prog) a1 [] [(iv 0), (.slice none 0 0)] [] [(iv a_.1), (.slice a2 a3 a4)] rfl rfl (by intro u hu; simp only [List.mem_cons, List.not_mem_nil, or_false] at hu; rcases hu with rfl | rfl <;> rfl)
 refine Zk (w' := c8) (zV rfl rfl (d7 _ _ rfl Sz89)) ?_
 have hO := hO.fr2
 have b2 := b2.ap b6 hO zj (zm (List.mem_singleton.2 rfl))
 have b1 := b1.ma b6 hO zj (fun _ e => (zl (zm (e))))
 have hC := hC.st b6 hO zj
 have hO := hO.ext b6
 have b8 : BoxV c8 b4 89 [(iv a_.1), (.slice a2 a3 a4)] := b8
 refine zb ?_
 have hO := hO.fr1.drop
 refine wp_ret ?_
 cases hs
 have hO := hO.drop
 exact ⟨_, b4, a2, a3, a4, c6, fr_m 12 rfl, b8, hC, b1, hO.top⟩

theorem Rw33 : RowT Try.prog 33 89 2 [(.int .i64 0), (.slice none 0 0)] := ⟨Try.underlying33, ⟨_, _, rfl, rfl, rfl, rfl, by decide⟩, rfl, by decide⟩

theorem Bd75 : zC Try.prog 75 := zI Try.func75 (by kernel_rfl) rfl

theorem Sl33 : SlT Try.prog 33 89 := Try.underlying33

def WG (M : Nat → Prop) (w0 : World) (r : (List (Int × (List Int)))) (a : Act) (w : World) : Prop :=
  ∃ (σ : Nat → Value) (ra0 : Option Addr) (rn0 rc0 : Nat) (rf0 : List Nat), a = fr 23 (ovl σ [(2, (.slice ra0 rn0 rc0))]) ∧ Chg [] w0 w ∧ (RT.os 89 (RT.pr (RT.int .i64) (RT.os 3 (RT.int .i64)))).val M w (.slice ra0 rn0 rc0) r rf0 ∧ Own (Nw w0 []) (fun _ => True) w (rf0 ++ ([]))
def xO (a_ : List (Int × (List Int))) : Option ((List (Int × (List Int)))) :=
  (mks (a_.length : Int) ((0, []) : Int × (List Int))).bind fun y3 =>
  (forC (S := (List (Int × (List Int)))) (R := (List (Int × (List Int)))) (fun k28 s26 =>
  (idx a_ k28).bind fun x34 =>
  (YX (x34.1, x34.2)).bind fun r39 =>
  (idx s26 k28).bind fun x41 =>
  some (.nx (List.set s26 (Int.toNat k28) (r39.1, r39.2)))) 0 (a_.length : Int) y3).bind fun o30 => after o30 (fun r_ => some r_) (fun s26 =>
  some s26)
set_option maxHeartbeats 4000000 in
theorem Ue {M : Nat → Prop} {w : World} {pa0 : Option Addr} {pn0 pc0 : Nat} (a_ : List (Int × (List Int))) (h0 : (RT.rs (RT.pr ri rl)).val M w (.slice pa0 pn0 pc0) a_ ([])) (hM : ∀ g, w.heap.size ≤ g → M g) {r : (List (Int × (List Int)))} (hs : xO a_ = some r) :
    Gives Try.prog 38 [(.slice pa0 pn0 pc0)] w (fun v w' => ∃ (ra0 : Option Addr) (rn0 rc0 : Nat) (rf0 : List Nat), v = (.slice ra0 rn0 rc0) ∧ Chg [] w w' ∧ (RT.os 89 (RT.pr ri (RT.os 3 ri))).val M w' (.slice ra0 rn0 rc0) r rf0 ∧ Own (Nw w []) (fun _ => True) w' (rf0 ++ ([]))) := by
 refine zr Try.func38 rfl Try.ntmps38 (Nat.le_of_ble_eq_true rfl) ?_
 have hO := Own.start (N := Nw w []) hM Nw.fut
 have hC := Chg.refl [] w
 unfold xO at hs
 refine wp_k (K := (WG M w r)) (by rintro _ _ ⟨σ, ra0, rn0, rc0, rf0, rfl, hrest⟩; exact Zh Try.results38 (zB rfl) ⟨ra0, rn0, rc0, rf0, rfl, hrest⟩) (c_sr (ax rfl (zb (c_sr (ms rfl (za _ (zn Sl22 (zu h0) rfl) ?_))))))
 obtain ⟨y3, b9, hs⟩ := bind_some hs
 obtain ⟨a1, a2, a3, c0, c1, c2, b0, c3, b1⟩ := YI (M := M) (w := w) (r := (RT.pr ri (RT.os 3 ri))) Rw33 b9 (fun _ _ => ⟨_, _, [], [], rfl, rfl, ⟨rfl, rfl⟩, (Zs xD)⟩)
 refine za (w' := c0) (.slice a1 a2 a3) (yL rfl rfl c2) ?_
 obtain ⟨h0, hC⟩ := xt2 b0 h0 hC
 have hO := hO.new b0 c3 (zw b1) b1.fpl
 refine ax rfl (zb (zd (c_sr (ai rfl (zb ?_)))))
 obtain ⟨o30, c4, hs⟩ := bind_some hs
 refine wp_block (zW (id := 0) (a_.length : Int) (I := fun k28 s26 a a0 => ∃ (σ : Nat → Value) (a4 : List Nat), a = fr 23 (ovl σ [(0, (.slice pa0 pn0 pc0)), (3, (.slice a1 a2 a3)), (4, (iv k28))]) ∧ Chg [] w a0 ∧ Own (Nw w []) M a0 (a4 ++ []) ∧ (RT.rs (RT.pr ri rl)).val M a0 (.slice pa0 pn0 pc0) a_ ([]) ∧ (RT.os 89 (RT.pr ri (RT.os 3 ri))).val M a0 (.slice a1 a2 a3) s26 a4) (J := fun s26 a a0 => ∃ (σ : Nat → Value) (a8 : List Nat), a = fr 23 (ovl σ [(3, (.slice a1 a2 a3))]) ∧ Chg [] w a0 ∧ Own (Nw w []) M a0 (a8 ++ []) ∧ (RT.rs (RT.pr ri rl)).val M a0 (.slice pa0 pn0 pc0) a_ ([]) ∧ (RT.os 89 (RT.pr ri (RT.os 3 ri))).val M a0 (.slice a1 a2 a3) s26 a8) (K := (WG M w)) ?_ ?_ 0 y3 o30 _ _ ?_ c4 ?_)
 ·rintro k28 s26 a a0 ⟨σ, a4, rfl, hC, hO, h0, a5⟩ hlt
  refine zd (c_sr (mi rfl (ms rfl (za _ (zn Sl22 (zu h0) rfl) (za _ (zx rfl rfl) (zb (zh (cb (decide_eq_false hlt)) (wp_exit ?_))))))))
  exact ⟨rfl, _, a4, fr_m 23 rfl, hC, hO, h0, a5⟩
 ·rintro k28 s26 o30 a a0 ⟨σ, a4, rfl, hC, hO, h0, a5⟩ hlt hw hs
  refine zd (c_sr (mi rfl (ms rfl (za _ (zn Sl22 (zu h0) rfl) (za _ (zx rfl rfl) (zb (zg (cb (decide_eq_true hlt)) (wp_skip (zd (wp_block (ze (ms rfl (mi rfl (ms rfl (mi rfl ?_)))))))))))))))
  obtain ⟨x34, c5, hs⟩ := bind_some hs
  obtain ⟨c6, c7, c8, b2⟩ := zN Sl22 Sz86 h0 c5
  refine za _ (c8 _ _ _ _ _ _ _ _ _ rfl rfl) ?_
  obtain ⟨f4, c9, d0⟩ := Zj Ag86 Sz86 (by intro h; cases h) b2
  obtain ⟨f5, rfl, d1⟩ := d0
  obtain ⟨f6, f7, rfl, d2, d3⟩ := Yz d1
  obtain rfl := YN d2
  obtain ⟨d4, d5, d6, rfl, a7⟩ := xp d3
  refine za (.agg #[(iv x34.1), (.slice d4 d5 d6)]) (zo rfl (c9 _ (Chg.refl _ _))) ?_
  obtain ⟨r39, d7, hs⟩ := bind_some hs
  refine zy Bd75 rfl (UY (M := M) (x34.1, x34.2) a7 hO.fut d7) ?_
  rintro _ f8 ⟨d8, d9, e0, b3, rfl, a6, e1, e2⟩
  obtain ⟨h0, a5, a7, b2, hC⟩ := xt5 a6 h0 a5 a7 b2 hC
  have hO := Own.join0 hO a6 e2
  have hO := hO.perm (R := b3 ++ (a4 ++ ([]))) (by simp)
  obtain ⟨x41, e3, hs⟩ := bind_some hs
  obtain ⟨b6, f9, b7, e4, e5, e6, e7⟩ := zR Sl33 Sz89 a5 e3
  have g0 := Zv (Frz.pr Frz.int (Frz.os Frz.int)) e6 e7
  refine za _ (e5 _ _ _ _ _ _ _ _ _ rfl rfl) ?_
  have hO := hO.fr1
  obtain ⟨e8, e9, f0, a9, f1, b4⟩ := yn (P := Try.prog) (c' := [(iv r39.1), (.slice d8 d9 e0)]) b7 a5 e4 (fun g hg => hO.inM g (zA a5 g (by simpa using hg))) ⟨_, _, _, _, rfl, rfl, ⟨rfl, rfl⟩, (Zs e1)⟩ (hO.drop.perm (R := (([] : List Nat) ++ b3) ++ ([])) (by simp)).nd (fun g hg hq => hO.apart g hq (by simp only [List.mem_append, List.not_mem_nil, false_or, or_false] at hg ⊢; simp [hg])) (fun _ h => .inl h)
  have b5 : ∀ q ∈ [b6], q ∈ a4 := fun q hq => zA a5 q (by rw [b7]; exact hq)
  refine Zk (w' := e8) (zV rfl rfl (f0 _ _ rfl Sz89)) ?_
  have hO := hO.fr1.fr1
  have h0 := h0.mt a9 hO b5
  have a7 := a7.mt a9 hO b5
  have hC := hC.st a9 hO b5
  have hO := (hO.perm (R := a4 ++ ((([] : List Nat) ++ b3) ++ ([]))) (by simp)).eat a9 (fun q hq => (f1 q hq).elim .inl (fun h => .inr (.inl h))) (zw b4) b4.fpl
  refine zb (ze (mi rfl (za _ (yad rfl rfl) (ai rfl (zb ?_)))))
  cases hs
  exact ⟨_, e9, zD 23 ⟨rfl, rfl, congrArg (Value.int .i64) hw, trivial⟩, hC, hO, h0, b4⟩
 ·skip
  exact ⟨_, c1, fr_m 23 rfl, hC, hO, h0, b1⟩
 cases o30 with
 | nx _ => exact True.intro
 | rt r_ =>
  have hs := zp hs
  intro f2 b8 hK
  cases hs
  exact hK
 | br s26 =>
  have hs := zq hs
  rintro f2 a0 ⟨σ, a8, rfl, hC, hO, h0, f3⟩
  refine c_sr (ms rfl (ax rfl (zb (wp_ret ?_))))
  cases hs
  exact ⟨_, a1, a2, a3, a8, fr_m 23 rfl, hC, f3, hO.top⟩

theorem Ag35 : AggT Try.prog 35 true := fun _ => by kernel_rfl

theorem Sz35 : SzT Try.prog 35 2 := ⟨_, rfl, rfl⟩

theorem Fa24x0 : ∀ (a : Addr) (w : World), (Instr.fieldAt 24 (.pointer (some a)) 0).run Try.prog w = .ok (.pointer (some (a.add 0))) w := fun _ _ => by kernel_rfl

theorem Yo : ∀ (a : Addr) (w : World), (Instr.fieldAt 35 (.pointer (some a)) 0).run Try.prog w = .ok (.pointer (some (a.add 0))) w := fun _ _ => by kernel_rfl

theorem Bd38 : zC Try.prog 38 := zI Try.func38 (by kernel_rfl) rfl

theorem ZD : ∀ (a : Addr) (w : World), (Instr.fieldAt 35 (.pointer (some a)) 1).run Try.prog w = .ok (.pointer (some (a.add 1))) w := fun _ _ => by kernel_rfl

theorem Sz33 : SzT Try.prog 33 1 := ⟨_, rfl, rfl⟩

def vc (M : Nat → Prop) (w0 : World) (r : (Int × (List (Int × (List Int))))) (a : Act) (w : World) : Prop :=
  ∃ (σ : Nat → Value) (rg2 : Nat) (ra0 : Option Addr) (rn0 rc0 : Nat) (rf0 : List Nat), a = fr 12 (ovl σ [(2, (.pointer (some ⟨rg2, 0, none⟩)))]) ∧ BoxV w rg2 35 [(.int .i64 r.1), (.slice ra0 rn0 rc0)] ∧ Chg [] w0 w ∧ (RT.os 89 (RT.pr (RT.int .i64) (RT.os 3 (RT.int .i64)))).val M w (.slice ra0 rn0 rc0) r.2 rf0 ∧ Own (Nw w0 []) (fun _ => True) w (rf0 ++ ([]))
def ZC (a_ : Int × (List (Int × (List Int)))) : Option ((Int × (List (Int × (List Int))))) :=
  (xO a_.2).bind fun r7 =>
  some (a_.1, r7)
set_option maxHeartbeats 4000000 in
theorem Yy {M : Nat → Prop} {w : World} {pa0 : Option Addr} {pn0 pc0 : Nat} (a_ : Int × (List (Int × (List Int)))) (h0 : (RT.rs (RT.pr ri rl)).val M w (.slice pa0 pn0 pc0) a_.2 ([])) (hM : ∀ g, w.heap.size ≤ g → M g) {r : (Int × (List (Int × (List Int))))} (hs : ZC a_ = some r) :
    Gives Try.prog 11 [(.agg #[(iv a_.1), (.slice pa0 pn0 pc0)])] w (fun v w' => ∃ (ra0 : Option Addr) (rn0 rc0 : Nat) (rf0 : List Nat), v = (.agg #[(iv r.1), (.slice ra0 rn0 rc0)]) ∧ Chg [] w w' ∧ (RT.os 89 (RT.pr ri (RT.os 3 ri))).val M w' (.slice ra0 rn0 rc0) r.2 rf0 ∧ Own (Nw w []) (fun _ => True) w' (rf0 ++ ([]))) := by
 refine zr Try.func11 rfl Try.ntmps11 (Nat.le_of_ble_eq_true rfl) ?_
 have hO := Own.start (N := Nw w []) hM Nw.fut
 have hC := Chg.refl [] w
 unfold ZC at hs
 refine wp_k (K := (vc M w r)) (by rintro _ _ ⟨σ, rg2, ra0, rn0, rc0, rf0, rfl, hbrg2, hrest⟩; exact Zh Try.results11 (zam rfl (Zr Ag35 Sz35 hbrg2 [] _ [] rfl rfl (fun h => nomatch h))) ⟨ra0, rn0, rc0, rf0, rfl, hrest⟩) (c_sr ?_)
 obtain ⟨b9, b3, c9, c0, b7, a0⟩ := zi w [(iv a_.1), (.slice pa0 pn0 pc0)] 24
 refine za (w' := b9) (pq b3 0) (ZW rfl (by rw [c9, c0]; kernel_rfl)) ?_
 obtain ⟨h0, hC⟩ := xt2 b7 h0 hC
 have hO := hO.new1 b7 c0 a0.lt
 obtain ⟨c1, b4, d0, c2, b5, a1⟩ := zi b9 [(iv 0), (.slice none 0 0)] 35
 refine za (w' := c1) (pq b4 0) (xa (by rw [d0, c2]; kernel_rfl)) ?_
 obtain ⟨h0, a0, hC⟩ := xt3 b5 h0 a0 hC
 have hO := hO.new1 b5 c2 a1.lt
 refine zb (c_sr ?_)
 obtain ⟨d1, a5, d2, c3, a8, c4⟩ := zi c1 [(iv 0), (.slice none 0 0)] 35
 refine za (w' := d1) (pq a5 0) (xa (by rw [d2, c3]; kernel_rfl)) ?_
 obtain ⟨h0, a0, a1, hC⟩ := xt4 a8 h0 a0 a1 hC
 have hO := hO.new1 a8 c3 c4.lt
 refine zb (c_sr (za (pq b3 0) (zk rfl Fa24x0) (za _ (ld rfl Ag3 Sz3 a0 rfl) (za (pq a5 0) (zk rfl Yo) ?_))))
 obtain ⟨c5, d3, a9, b0⟩ := ZA (P := Try.prog) c4 [] [(iv 0)] [(.slice none 0 0)] [(iv a_.1)] rfl rfl (by intro u hu; simp only [List.mem_cons, List.not_mem_nil, or_false] at hu; rcases hu with rfl <;> rfl)
 refine Zk (w' := c5) (zV rfl rfl (d3 _ _ rfl Sz3)) ?_
 have h0 := h0.mt a9 hO zj
 have a0 := a0.ap a9 hO zj (zl (zm (List.mem_singleton.2 rfl)))
 have a1 := a1.ap a9 hO zj (zm (List.mem_singleton.2 rfl))
 have hC := hC.st a9 hO zj
 have hO := hO.ext a9
 have b0 : BoxV c5 a5 35 [(iv a_.1), (.slice none 0 0)] := b0
 refine zb (c_sr (za (pq b3 1) (zk rfl Fa24x1) (za _ (ld rfl Ag22 Sz22 a0 rfl) ?_)))
 obtain ⟨r7, d4, hs⟩ := bind_some hs
 refine zy Bd38 rfl (Ue (M := M) a_.2 h0 hO.fut d4) ?_
 rintro _ d9 ⟨a2, a3, a4, c6, rfl, a6, b1, d5⟩
 obtain ⟨h0, a0, a1, b0, hC⟩ := xt5 a6 h0 a0 a1 b0 hC
 have hO := Own.join0 hO a6 d5
 have hO := hO.perm (R := c6 ++ (([a5]) ++ (([b4]) ++ (([b3]) ++ ([]))))) (by simp)
 refine za (pq a5 1) (zk rfl ZD) ?_
 obtain ⟨c7, d6, a7, b2⟩ := ZA (P := Try.prog) b0 [(iv a_.1)] [(.slice none 0 0)] [] [(.slice a2 a3 a4)] rfl rfl (by intro u hu; simp only [List.mem_cons, List.not_mem_nil, or_false] at hu; rcases hu with rfl <;> rfl)
 refine Zk (w' := c7) (zV rfl rfl (d6 _ _ rfl Sz33)) ?_
 have hO := hO.fr1
 have h0 := h0.mt a7 hO zj
 have a0 := a0.ap a7 hO zj (zl (zl (zm (List.mem_singleton.2 rfl))))
 have a1 := a1.ap a7 hO zj (zl (zm (List.mem_singleton.2 rfl)))
 have b1 := b1.ma a7 hO zj (fun _ e => (zm (e)))
 have hC := hC.st a7 hO zj
 have hO := hO.ext a7
 have b2 : BoxV c7 a5 35 [(iv a_.1), (.slice a2 a3 a4)] := b2
 refine zb ?_
 have hO := hO.fr3.drop
 refine c_sr (za _ (ldw rfl Ag35 b2 Sz35) ?_)
 obtain ⟨c8, d7, b6, b8⟩ := ZA (P := Try.prog) a1 [] [(iv 0), (.slice none 0 0)] [] [(iv a_.1), (.slice a2 a3 a4)] rfl rfl (by intro u hu; simp only [List.mem_cons, List.not_mem_nil, or_false] at hu; rcases hu with rfl | rfl <;> rfl)
 refine Zk (w' := c8) (zV rfl rfl (d7 _ _ rfl Sz35)) ?_
 have hO := hO.fr2
 have b2 := b2.ap b6 hO zj (zm (List.mem_singleton.2 rfl))
 have b1 := b1.ma b6 hO zj (fun _ e => (zl (zm (e))))
 have hC := hC.st b6 hO zj
 have hO := hO.ext b6
 have b8 : BoxV c8 b4 35 [(iv a_.1), (.slice a2 a3 a4)] := b8
 refine zb ?_
 have hO := hO.fr1.drop
 refine wp_ret ?_
 cases hs
 have hO := hO.drop
 exact ⟨_, b4, a2, a3, a4, c6, fr_m 12 rfl, b8, hC, b1, hO.top⟩

def UG (M : Nat → Prop) (w0 : World) (r : Bool) (a : Act) (w : World) : Prop :=
  ∃ (σ : Nat → Value) , a = fr 15 (ovl σ [(6, (.bool r))]) ∧ Chg [] w0 w
def yB (x_ : Int) (a_ : Int) (b : Int) : Option (Bool) :=
  (bif (decide (a_ ≤ x_)) then some (decide (x_ ≤ b)) else some false)
set_option maxHeartbeats 4000000 in
theorem YU {M : Nat → Prop} {w : World}  (x_ : Int) (a_ : Int) (b : Int)  (hM : ∀ g, w.heap.size ≤ g → M g) {r : Bool} (hs : yB x_ a_ b = some r) :
    Gives Try.prog 65 [(iv x_), (iv a_), (iv b)] w (fun v w' => v = (.bool r) ∧ Chg [] w w') := by
 refine zr Try.func65 rfl Try.ntmps65 (Nat.le_of_ble_eq_true rfl) ?_
 have hO := Own.start (N := Nw w []) hM Nw.fut
 have hC := Chg.refl [] w
 unfold yB at hs
 refine wp_k (K := (UG M w r)) (by rintro _ _ ⟨σ, rfl, hrest⟩; exact Zh Try.results65 (zB rfl) ⟨rfl, hrest⟩) (c_sr (ab rfl (zb (c_sr (mi rfl (mi rfl (za _ (wb rfl rfl) (mb rfl ?_))))))))
 rcases zf hs with ⟨a0, hs⟩ | ⟨a0, hs⟩
 ·skip
  refine py 10 (iv x_) (cb a0) (zt rfl) (py 10 (iv b) (cb a0) (zt rfl) (py 10 _ (cb a0) (XF rfl rfl) (za _ (ptb (cb a0) rfl) (ab rfl (zb (wp_ret ?_))))))
  cases hs
  exact ⟨_, fr_m 15 rfl, hC⟩
 refine pn 10 (cb a0) (pn 10 (cb a0) (pn 10 (cb a0) (za _ (pfb (cb a0) rfl) (ab rfl (zb (wp_ret ?_))))))
 cases hs
 exact ⟨_, fr_m 15 rfl, hC⟩

def Wr (M : Nat → Prop) (w0 : World) (r : Int) (a : Act) (w : World) : Prop :=
  ∃ (σ : Nat → Value) , a = fr 14 (ovl σ [(4, (.int .i64 r))]) ∧ Chg [] w0 w
def ZY (n : Int) (k : Int) : Option (Int) :=
  (iter (S := Int × Int) (R := Int) (fun s2 =>
  (bif (decide (0 < s2.1)) then some (.nx (w64 (s2.1 - 1), w64 (s2.2 * n))) else some (.br (s2.1, s2.2)))) FU (k, 1)).bind fun o6 => after o6 (fun r_ => some r_) (fun s2 =>
  some s2.2)
set_option maxHeartbeats 4000000 in
theorem YA {M : Nat → Prop} {w : World}  (n : Int) (k : Int)  (hM : ∀ g, w.heap.size ≤ g → M g) {r : Int} (hs : ZY n k = some r) :
    Gives Try.prog 81 [(iv n), (iv k)] w (fun v w' => v = (iv r) ∧ Chg [] w w') := by
 refine zr Try.func81 rfl Try.ntmps81 (Nat.le_of_ble_eq_true rfl) ?_
 have hO := Own.start (N := Nw w []) hM Nw.fut
 have hC := Chg.refl [] w
 unfold ZY at hs
 refine wp_k (K := (Wr M w r)) (by rintro _ _ ⟨σ, rfl, hrest⟩; exact Zh Try.results81 (zB rfl) ⟨rfl, hrest⟩) (c_sr (ai rfl (zb (c_sr (ai rfl (zb (zd ?_)))))))
 obtain ⟨o6, a3, hs⟩ := bind_some hs
 refine wp_block (Zt (id := 0) (I := fun s2 a a0 => ∃ (σ : Nat → Value), a = fr 14 (ovl σ [(0, (iv n)), (1, (iv s2.1)), (5, (iv s2.2))]) ∧ Chg [] w a0 ∧ Own (Nw w []) M a0 ([])) (J := fun s2 a a0 => ∃ (σ : Nat → Value), a = fr 14 (ovl σ [(5, (iv s2.2))]) ∧ Chg [] w a0 ∧ Own (Nw w []) M a0 ([])) (K := (Wr M w)) ?_ FU (k, 1) o6 _ _ ?_ a3 ?_)
 ·rintro s2 o6 a a0 ⟨σ, rfl, hC, hO⟩ hs
  refine zd (c_sr (mi rfl (za _ (YJ rfl rfl) (zb ?_))))
  rcases zf hs with ⟨a1, hs⟩ | ⟨a1, hs⟩
  ·refine zg (cb a1) (wp_skip (zd (wp_block (ze (mi rfl (mi rfl (za _ (ymu rfl rfl) (ai rfl (zb (ze (mi rfl (za _ (ysu rfl rfl) (ai rfl (zb ?_))))))))))))))
   cases hs
   exact ⟨_, fr_m 14 rfl, hC, hO⟩
  refine zh (cb a1) (wp_exit ?_)
  cases hs
  exact ⟨rfl, _, fr_m 14 rfl, hC, hO⟩
 ·skip
  exact ⟨_, fr_m 14 rfl, hC, hO⟩
 cases o6 with
 | nx _ => exact True.intro
 | rt r_ =>
  have hs := zp hs
  intro a4 a2 hK
  cases hs
  exact hK
 | br s2 =>
  have hs := zq hs
  rintro a4 a0 ⟨σ, rfl, hC, hO⟩
  refine c_sr (mi rfl (ai rfl (zb (wp_ret ?_))))
  cases hs
  exact ⟨_, fr_m 14 rfl, hC⟩

theorem Mx : Try.prog.follows .mixedOrders = true := by kernel_rfl

theorem Bd65 : zC Try.prog 65 := zI Try.func65 (by kernel_rfl) rfl

theorem Bd81 : zC Try.prog 81 := zI Try.func81 (by kernel_rfl) rfl

def vo (M : Nat → Prop) (w0 : World) (r : Bool) (a : Act) (w : World) : Prop :=
  ∃ (σ : Nat → Value) , a = fr 36 (ovl σ [(4, (.bool r))]) ∧ Chg [] w0 w
def Yp (n : Int) (op : Int × (List Int)) : Option (Bool) :=
  ((yB op.1 0 3).bind fun r8 =>
  (bif (!r8) then some true else (ZY n op.1).bind fun r11 =>
  some ((op.2.length : Int) != r11))).bind fun s3 =>
  (bif s3 then some false else (forC (S := Unit) (R := Bool) (fun k24 s22 =>
  (idx op.2 k24).bind fun x28 =>
  (yB x28 0 (w64 (n - 1))).bind fun r31 =>
  (bif (!r31) then some (.rt false) else some (.nx ()))) 0 (op.2.length : Int) ()).bind fun o26 => after o26 (fun r_ => some r_) (fun s22 =>
  some true))
set_option maxHeartbeats 4000000 in
theorem UZ {M : Nat → Prop} {w : World} {pa0 : Option Addr} {pn0 pc0 : Nat} (n : Int) (op : Int × (List Int)) (h0 : rl.val M w (.slice pa0 pn0 pc0) op.2 ([])) (hM : ∀ g, w.heap.size ≤ g → M g) {r : Bool} (hs : Yp n op = some r) :
    Gives Try.prog 66 [(iv n), (.agg #[(iv op.1), (.slice pa0 pn0 pc0)])] w (fun v w' => v = (.bool r) ∧ Chg [] w w') := by
 refine zr Try.func66 rfl Try.ntmps66 (Nat.le_of_ble_eq_true rfl) ?_
 have hO := Own.start (N := Nw w []) hM Nw.fut
 have hC := Chg.refl [] w
 unfold Yp at hs
 refine wp_k (K := (vo M w r)) (by rintro _ _ ⟨σ, rfl, hrest⟩; exact Zh Try.results66 (zB rfl) ⟨rfl, hrest⟩) (c_sr ?_)
 obtain ⟨a9, a2, c1, b7, b3, a0⟩ := zi w [(iv op.1), (.slice pa0 pn0 pc0)] 89
 refine za (w' := a9) (pq a2 0) (ZW rfl (by rw [c1, b7]; kernel_rfl)) ?_
 obtain ⟨h0, hC⟩ := xt2 b3 h0 hC
 have hO := hO.new1 b3 b7 a0.lt
 refine ab rfl (zb (zd (zd ?_)))
 obtain ⟨s3, c2, hs⟩ := bind_some hs
 refine yO (I := fun a b8 => ∃ (σ : Nat → Value), a = fr 36 (ovl σ [(0, (iv n)), (3, (pq a2 0)), (4, (.bool false)), (19, (.bool s3))]) ∧ Chg [] a9 b8) ?_ ?_
 ·replace hs := c2
  have hMid := Chg.refl [] a9
  refine Ze [] Mx rfl ?_
  have a8 := Chg.drew a9
  generalize World.drew a9 = c3 at a8 ⊢
  obtain ⟨h0, a0, hMid, hC, hO⟩ := xt5 a8 h0 a0 hMid hC hO
  have hS := Chg.refl [] c3
  refine xq 0 (pq a2 0) rfl (zk rfl yM) hS (xl 1 rfl (ldx rfl Ag3 Sz3 a0 rfl) hS (zP (i := 2) (by kernel_rfl) ?_))
  obtain ⟨r8, c4, hs⟩ := bind_some hs
  refine zZ (b := false) rfl  Bd65 rfl (YU (M := M) op.1 0 3  hO.fut c4) rfl (by rintro _ _ _ ⟨rfl, a4⟩; exact hS.ext a4) ?_
  rintro _ d1 ⟨rfl, a4⟩
  obtain ⟨h0, a0, hMid, hC, hO, hS⟩ := xt6 a4 h0 a0 hMid hC hO hS
  refine xq 3 _ rfl (ZQ rfl) hS (xmb 4 rfl rfl hS ?_)
  rcases zf hs with ⟨a1, hs⟩ | ⟨a1, hs⟩
  ·skip
   refine xpn 5 10 rfl (cb a1) hS (xpn 6 10 rfl (cb a1) hS (xpn 7 10 rfl (cb a1) hS (xpn 8 10 rfl (cb a1) hS (xpn 9 10 rfl (cb a1) hS (xpn 10 10 rfl (cb a1) hS (xpn 11 10 rfl (cb a1) hS (xpn 12 10 rfl (cb a1) hS (xq 13 _ rfl (ptb (cb a1) rfl) hS (Zc (by kernel_rfl) ?_)))))))))
   clear hS
   cases hs
   exact ⟨_, fr_m 36 rfl, hMid⟩
  refine xpy 5 10 (pq a2 1) rfl (cb a1) (zk rfl xE) hS (xpy 8 10 (iv n) rfl (cb a1) (zt rfl) hS (xpy 9 10 (pq a2 0) rfl (cb a1) (zk rfl yM) hS (wo (i := 6) (j := 10) (by kernel_rfl) ?_ ?_)))
  ·skip
   refine wy (b := false) (.slice pa0 pn0 pc0) rfl (tg := 10) (by kernel_rfl) (cb a1) (zo rfl ((Zr Ag43 Sz43 a0 [(iv op.1)] [(.slice pa0 pn0 pc0)] [] rfl rfl (fun _ => rfl)) _ (Chg.refl _ _))) rfl (fun _ => hS) (xpy 7 10 _ rfl (cb a1) (zn Sl43 (zu h0) rfl) hS (zP (i := 10) (by kernel_rfl) (wy (b := false) (iv op.1) rfl (tg := 10) (by kernel_rfl) (cb a1) (zo rfl ((Zr Ag3 Sz3 a0 [] [(iv op.1)] [(.slice pa0 pn0 pc0)] rfl rfl (fun _ => rfl)) _ (Chg.refl _ _))) rfl (fun _ => hS) (zP (i := 11) (by kernel_rfl) ?_))))
   obtain ⟨r11, b0, hs⟩ := bind_some hs
   refine XG (b := false) rfl (tg := 10) (by kernel_rfl) (cb a1) Bd81 rfl (YA (M := M) n op.1  hO.fut b0) rfl (by rintro _ _ _ ⟨rfl, a5⟩; exact hS.ext a5) ?_
   rintro _ d2 ⟨rfl, a5⟩
   obtain ⟨h0, a0, hMid, hC, hO, hS⟩ := xt6 a5 h0 a0 hMid hC hO hS
   refine xpy 12 10 (.bool ((op.2.length : Int) != r11)) rfl (cb a1) (xk rfl rfl) hS (xq 13 _ rfl (pfb (cb a1) rfl) hS (Zc (by kernel_rfl) ?_))
   clear hS
   cases hs
   exact ⟨_, fr_m 36 rfl, hMid⟩
  ·skip
   refine wy (b := false) (iv op.1) rfl (tg := 10) (by kernel_rfl) (cb a1) (zo rfl ((Zr Ag3 Sz3 a0 [] [(iv op.1)] [(.slice pa0 pn0 pc0)] rfl rfl (fun _ => rfl)) _ (Chg.refl _ _))) rfl (fun _ => hS) (wo (i := 6) (j := 11) (by kernel_rfl) ?_ ?_)
   ·skip
    refine wy (b := false) (.slice pa0 pn0 pc0) rfl (tg := 10) (by kernel_rfl) (cb a1) (zo rfl ((Zr Ag43 Sz43 a0 [(iv op.1)] [(.slice pa0 pn0 pc0)] [] rfl rfl (fun _ => rfl)) _ (Chg.refl _ _))) rfl (fun _ => hS) (xpy 7 10 _ rfl (cb a1) (zn Sl43 (zu h0) rfl) hS (zP (i := 11) (by kernel_rfl) ?_))
    obtain ⟨r11, b0, hs⟩ := bind_some hs
    refine XG (b := false) rfl (tg := 10) (by kernel_rfl) (cb a1) Bd81 rfl (YA (M := M) n op.1  hO.fut b0) rfl (by rintro _ _ _ ⟨rfl, a6⟩; exact hS.ext a6) ?_
    rintro _ d3 ⟨rfl, a6⟩
    obtain ⟨h0, a0, hMid, hC, hO, hS⟩ := xt6 a6 h0 a0 hMid hC hO hS
    refine xpy 12 10 (.bool ((op.2.length : Int) != r11)) rfl (cb a1) (xk rfl rfl) hS (xq 13 _ rfl (pfb (cb a1) rfl) hS (Zc (by kernel_rfl) ?_))
    clear hS
    cases hs
    exact ⟨_, fr_m 36 rfl, hMid⟩
   ·skip
    obtain ⟨r11, b0, hs⟩ := bind_some hs
    refine XG (b := false) rfl (tg := 10) (by kernel_rfl) (cb a1) Bd81 rfl (YA (M := M) n op.1  hO.fut b0) rfl (by rintro _ _ _ ⟨rfl, a7⟩; exact hS.ext a7) ?_
    rintro _ d4 ⟨rfl, a7⟩
    obtain ⟨h0, a0, hMid, hC, hO, hS⟩ := xt6 a7 h0 a0 hMid hC hO hS
    refine zP (i := 6) (by kernel_rfl) (wy (b := false) (.slice pa0 pn0 pc0) rfl (tg := 10) (by kernel_rfl) (cb a1) (zo rfl ((Zr Ag43 Sz43 a0 [(iv op.1)] [(.slice pa0 pn0 pc0)] [] rfl rfl (fun _ => rfl)) _ (Chg.refl _ _))) rfl (fun _ => hS) (xpy 7 10 _ rfl (cb a1) (zn Sl43 (zu h0) rfl) hS (xpy 12 10 (.bool ((op.2.length : Int) != r11)) rfl (cb a1) (xk rfl rfl) hS (xq 13 _ rfl (pfb (cb a1) rfl) hS (Zc (by kernel_rfl) ?_)))))
    clear hS
    cases hs
    exact ⟨_, fr_m 36 rfl, hMid⟩
 rintro b9 b8 ⟨σ, rfl, b2⟩
 obtain ⟨h0, a0, hC, hO⟩ := xt4 b2 h0 a0 hC hO
 rcases zf hs with ⟨b4, hs⟩ | ⟨b4, hs⟩
 ·refine zg (cb b4) (c_sr (ab rfl (zb (wp_ret ?_))))
  cases hs
  exact ⟨_, fr_m 36 rfl, hC⟩
 refine zh (cb b4) (wp_skip (zd (c_sr (ai rfl (zb ?_)))))
 obtain ⟨o26, c5, hs⟩ := bind_some hs
 refine wp_block (zW (id := 0) (op.2.length : Int) (I := fun k24 s22 a a3 => ∃ (σ : Nat → Value), a = fr 36 (ovl σ [(0, (iv n)), (3, (pq a2 0)), (5, (iv k24))]) ∧ Chg [] w a3 ∧ Own (Nw w []) M a3 (([a2]) ++ []) ∧ rl.val M a3 (.slice pa0 pn0 pc0) op.2 ([]) ∧ BoxV a3 a2 89 [(iv op.1), (.slice pa0 pn0 pc0)]) (J := fun s22 a a3 => ∃ (σ : Nat → Value), a = fr 36 (ovl σ []) ∧ Chg [] w a3 ∧ Own (Nw w []) M a3 (([a2]) ++ []) ∧ rl.val M a3 (.slice pa0 pn0 pc0) op.2 ([]) ∧ BoxV a3 a2 89 [(iv op.1), (.slice pa0 pn0 pc0)]) (K := (vo M w)) ?_ ?_ 0 () o26 _ _ ?_ c5 ?_)
 ·rintro k24 s22 a a3 ⟨σ, rfl, hC, hO, h0, a0⟩ hlt
  refine zd (c_sr (mi rfl (za (pq a2 1) (zk rfl xE) (za _ (ld rfl Ag43 Sz43 a0 rfl) (za _ (zn Sl43 (zu h0) rfl) (za _ (zx rfl rfl) (zb (zh (cb (decide_eq_false hlt)) (wp_exit ?_)))))))))
  exact ⟨rfl, _, zD 36 trivial, hC, hO, h0, a0⟩
 ·rintro k24 s22 o26 a a3 ⟨σ, rfl, hC, hO, h0, a0⟩ hlt hw hs
  refine zd (c_sr (mi rfl (za (pq a2 1) (zk rfl xE) (za _ (ld rfl Ag43 Sz43 a0 rfl) (za _ (zn Sl43 (zu h0) rfl) (za _ (zx rfl rfl) (zb (zg (cb (decide_eq_true hlt)) (wp_skip (zd (wp_block (c_sr (za (pq a2 1) (zk rfl xE) (za _ (ld rfl Ag43 Sz43 a0 rfl) (mi rfl ?_)))))))))))))))
  obtain ⟨x28, c6, hs⟩ := bind_some hs
  obtain ⟨c7, c8, c9, b5⟩ := zN Sl43 Sz3 h0 c6
  refine za _ (c9 _ _ _ _ _ _ _ _ _ rfl rfl) (za (iv x28) (zo rfl ((zz Ag3 Sz3 b5) _ (Chg.refl _ _))) (mi rfl (za _ (ysu rfl rfl) ?_)))
  obtain ⟨r31, d0, hs⟩ := bind_some hs
  refine zy Bd65 rfl (YU (M := M) x28 0 (w64 (n - 1))  hO.fut d0) ?_
  rintro _ d5 ⟨rfl, b1⟩
  obtain ⟨h0, a0, b5, hC, hO⟩ := xt5 b1 h0 a0 b5 hC hO
  refine za _ (ZQ rfl) (zb ?_)
  rcases zf hs with ⟨b6, hs⟩ | ⟨b6, hs⟩
  ·refine zg (cb b6) (c_sr (ab rfl (zb (wp_ret ?_))))
   cases hs
   exact ⟨_, fr_m 36 rfl, hC⟩
  refine zh (cb b6) (wp_skip (ze (mi rfl (za _ (yad rfl rfl) (ai rfl (zb ?_))))))
  cases hs
  exact ⟨_, zD 36 ⟨rfl, rfl, congrArg (Value.int .i64) hw, trivial⟩, hC, hO, h0, a0⟩
 ·skip
  exact ⟨_, fr_m 36 rfl, hC, hO, h0, a0⟩
 cases o26 with
 | nx _ => exact True.intro
 | rt r_ =>
  have hs := zp hs
  intro b9 c0 hK
  cases hs
  exact hK
 | br s22 =>
  have hs := zq hs
  rintro b9 a3 ⟨σ, rfl, hC, hO, h0, a0⟩
  refine c_sr (ab rfl (zb (wp_ret ?_)))
  cases hs
  exact ⟨_, fr_m 36 rfl, hC⟩

theorem Ag33 : AggT Try.prog 33 false := fun _ => by kernel_rfl

theorem Bd66 : zC Try.prog 66 := zI Try.func66 (by kernel_rfl) rfl

def wP (M : Nat → Prop) (w0 : World) (r : Bool) (a : Act) (w : World) : Prop :=
  ∃ (σ : Nat → Value) , a = fr 30 (ovl σ [(2, (.bool r))]) ∧ Chg [] w0 w
def Zo (a_ : Int × (List (Int × (List Int)))) : Option (Bool) :=
  ((yB a_.1 1 8).bind fun r7 =>
  (bif (!r7) then some true else some (decide (4 < (a_.2.length : Int))))).bind fun s3 =>
  (bif s3 then some false else (forC (S := Unit) (R := Bool) (fun k20 s18 =>
  (idx a_.2 k20).bind fun x25 =>
  (Yp a_.1 (x25.1, x25.2)).bind fun r30 =>
  (bif (!r30) then some (.rt false) else some (.nx ()))) 0 (a_.2.length : Int) ()).bind fun o22 => after o22 (fun r_ => some r_) (fun s18 =>
  some true))
set_option maxHeartbeats 4000000 in
theorem wT {M : Nat → Prop} {w : World} {pa0 : Option Addr} {pn0 pc0 : Nat} (a_ : Int × (List (Int × (List Int)))) (h0 : (RT.rs (RT.pr ri rl)).val M w (.slice pa0 pn0 pc0) a_.2 ([])) (hM : ∀ g, w.heap.size ≤ g → M g) {r : Bool} (hs : Zo a_ = some r) :
    Gives Try.prog 35 [(.agg #[(iv a_.1), (.slice pa0 pn0 pc0)])] w (fun v w' => v = (.bool r) ∧ Chg [] w w') := by
 refine zr Try.func35 rfl Try.ntmps35 (Nat.le_of_ble_eq_true rfl) ?_
 have hO := Own.start (N := Nw w []) hM Nw.fut
 have hC := Chg.refl [] w
 unfold Zo at hs
 refine wp_k (K := (wP M w r)) (by rintro _ _ ⟨σ, rfl, hrest⟩; exact Zh Try.results35 (zB rfl) ⟨rfl, hrest⟩) (c_sr ?_)
 obtain ⟨a8, a2, b8, b4, a9, a0⟩ := zi w [(iv a_.1), (.slice pa0 pn0 pc0)] 35
 refine za (w' := a8) (pq a2 0) (ZW rfl (by rw [b8, b4]; kernel_rfl)) ?_
 obtain ⟨h0, hC⟩ := xt2 a9 h0 hC
 have hO := hO.new1 a9 b4 a0.lt
 refine ab rfl (zb (zd (zd ?_)))
 obtain ⟨s3, b9, hs⟩ := bind_some hs
 refine yO (I := fun a b5 => ∃ (σ : Nat → Value), a = fr 30 (ovl σ [(1, (pq a2 0)), (2, (.bool false)), (13, (.bool s3))]) ∧ Chg [] a8 b5) ?_ ?_
 ·replace hs := b9
  have hMid := Chg.refl [] a8
  refine ze (za (pq a2 0) (zk rfl Yo) (za _ (ld rfl Ag3 Sz3 a0 rfl) ?_))
  obtain ⟨r7, c0, hs⟩ := bind_some hs
  refine zy Bd65 rfl (YU (M := M) a_.1 1 8  hO.fut c0) ?_
  rintro _ d6 ⟨rfl, a5⟩
  obtain ⟨h0, a0, hMid, hC, hO⟩ := xt5 a5 h0 a0 hMid hC hO
  refine za _ (ZQ rfl) (mb rfl ?_)
  rcases zf hs with ⟨a3, hs⟩ | ⟨a3, hs⟩
  ·skip
   refine pn 8 (cb a3) (pn 8 (cb a3) (pn 8 (cb a3) (pn 8 (cb a3) (za _ (ptb (cb a3) rfl) (zb ?_)))))
   cases hs
   exact ⟨_, fr_m 30 rfl, hMid⟩
  refine py 8 (pq a2 1) (cb a3) (zk rfl ZD) (py 8 _ (cb a3) (ld rfl Ag33 Sz33 a0 rfl) (py 8 _ (cb a3) (zn Sl33 (zu h0) rfl) (py 8 _ (cb a3) (YJ rfl rfl) (za _ (pfb (cb a3) rfl) (zb ?_)))))
  cases hs
  exact ⟨_, fr_m 30 rfl, hMid⟩
 rintro b6 b5 ⟨σ, rfl, a7⟩
 obtain ⟨h0, a0, hC, hO⟩ := xt4 a7 h0 a0 hC hO
 rcases zf hs with ⟨b0, hs⟩ | ⟨b0, hs⟩
 ·refine zg (cb b0) (c_sr (ab rfl (zb (wp_ret ?_))))
  cases hs
  exact ⟨_, fr_m 30 rfl, hC⟩
 refine zh (cb b0) (wp_skip (zd (c_sr (ai rfl (zb ?_)))))
 obtain ⟨o22, c1, hs⟩ := bind_some hs
 refine wp_block (zW (id := 0) (a_.2.length : Int) (I := fun k20 s18 a a1 => ∃ (σ : Nat → Value), a = fr 30 (ovl σ [(1, (pq a2 0)), (3, (iv k20))]) ∧ Chg [] w a1 ∧ Own (Nw w []) M a1 (([a2]) ++ []) ∧ (RT.rs (RT.pr ri rl)).val M a1 (.slice pa0 pn0 pc0) a_.2 ([]) ∧ BoxV a1 a2 35 [(iv a_.1), (.slice pa0 pn0 pc0)]) (J := fun s18 a a1 => ∃ (σ : Nat → Value), a = fr 30 (ovl σ []) ∧ Chg [] w a1 ∧ Own (Nw w []) M a1 (([a2]) ++ []) ∧ (RT.rs (RT.pr ri rl)).val M a1 (.slice pa0 pn0 pc0) a_.2 ([]) ∧ BoxV a1 a2 35 [(iv a_.1), (.slice pa0 pn0 pc0)]) (K := (wP M w)) ?_ ?_ 0 () o22 _ _ ?_ c1 ?_)
 ·rintro k20 s18 a a1 ⟨σ, rfl, hC, hO, h0, a0⟩ hlt
  refine zd (c_sr (mi rfl (za (pq a2 1) (zk rfl ZD) (za _ (ld rfl Ag33 Sz33 a0 rfl) (za _ (zn Sl33 (zu h0) rfl) (za _ (zx rfl rfl) (zb (zh (cb (decide_eq_false hlt)) (wp_exit ?_)))))))))
  exact ⟨rfl, _, zD 30 trivial, hC, hO, h0, a0⟩
 ·rintro k20 s18 o22 a a1 ⟨σ, rfl, hC, hO, h0, a0⟩ hlt hw hs
  refine zd (c_sr (mi rfl (za (pq a2 1) (zk rfl ZD) (za _ (ld rfl Ag33 Sz33 a0 rfl) (za _ (zn Sl33 (zu h0) rfl) (za _ (zx rfl rfl) (zb (zg (cb (decide_eq_true hlt)) (wp_skip (zd (wp_block (zd (Ze [] Mx rfl ?_)))))))))))))
  have a6 := Chg.drew a1
  generalize World.drew a1 = c2 at a6 ⊢
  obtain ⟨h0, a0, hC, hO⟩ := xt4 a6 h0 a0 hC hO
  have hS := Chg.refl [] c2
  refine xq 0 (pq a2 0) rfl (zk rfl Yo) hS (xl 1 rfl (ldx rfl Ag3 Sz3 a0 rfl) hS (xq 2 (pq a2 1) rfl (zk rfl ZD) hS (xl 3 rfl (ldx rfl Ag33 Sz33 a0 rfl) hS (xmi 4 rfl rfl hS ?_))))
  obtain ⟨x25, c3, hs⟩ := bind_some hs
  obtain ⟨c4, c5, c6, b1⟩ := zN Sl33 Sz89 h0 c3
  refine xq 5 _ rfl (c6 _ _ _ _ _ _ _ _ _ rfl rfl) hS ?_
  obtain ⟨d7, c7, c8⟩ := Zj Ag89 Sz89 (by intro h; cases h) b1
  obtain ⟨d8, rfl, c9⟩ := c8
  obtain ⟨d9, e0, rfl, d0, d1⟩ := Yz c9
  obtain rfl := YN d0
  obtain ⟨d2, d3, d4, rfl, b2⟩ := xp d1
  refine x_l 6 (.agg #[(iv x25.1), (.slice d2 d3 d4)]) rfl (by kernel_rfl)  (fun w' hw' => zo rfl (c7 w' hw')) hS (zP (i := 7) (by kernel_rfl) ?_)
  obtain ⟨r30, d5, hs⟩ := bind_some hs
  refine zZ (b := false) rfl  Bd66 rfl (UZ (M := M) a_.1 (x25.1, x25.2) b2 hO.fut d5) rfl (by rintro _ _ _ ⟨rfl, a4⟩; exact hS.ext a4) ?_
  rintro _ e1 ⟨rfl, a4⟩
  obtain ⟨h0, a0, b2, b1, hC, hO, hS⟩ := xt7 a4 h0 a0 b2 b1 hC hO hS
  refine xq 8 _ rfl (ZQ rfl) hS (Zc (by kernel_rfl) ?_)
  clear hS
  rcases zf hs with ⟨b3, hs⟩ | ⟨b3, hs⟩
  ·refine zg (cb b3) (c_sr (ab rfl (zb (wp_ret ?_))))
   cases hs
   exact ⟨_, fr_m 30 rfl, hC⟩
  refine zh (cb b3) (wp_skip (ze (mi rfl (za _ (yad rfl rfl) (ai rfl (zb ?_))))))
  cases hs
  exact ⟨_, zD 30 ⟨rfl, congrArg (Value.int .i64) hw, trivial⟩, hC, hO, h0, a0⟩
 ·skip
  exact ⟨_, fr_m 30 rfl, hC, hO, h0, a0⟩
 cases o22 with
 | nx _ => exact True.intro
 | rt r_ =>
  have hs := zp hs
  intro b6 b7 hK
  cases hs
  exact hK
 | br s18 =>
  have hs := zq hs
  rintro b6 a1 ⟨σ, rfl, hC, hO, h0, a0⟩
  refine c_sr (ab rfl (zb (wp_ret ?_)))
  cases hs
  exact ⟨_, fr_m 30 rfl, hC⟩

theorem Bd35 : zC Try.prog 35 := zI Try.func35 (by kernel_rfl) rfl

def vZ (M : Nat → Prop) (w0 : World) (r : Bool) (a : Act) (w : World) : Prop :=
  ∃ (σ : Nat → Value) , a = fr 18 (ovl σ [(4, (.bool r))]) ∧ Chg [] w0 w
def Zb (a_ : Int × (List (Int × (List Int)))) (k : Int) : Option (Bool) :=
  (Zo (a_.1, a_.2)).bind fun r4 =>
  (bif r4 then (yB k 0 3).bind fun r7 =>
  (bif r7 then (ZY a_.1 k).bind fun r10 =>
  some (decide (r10 ≤ 64)) else some false) else some false)
set_option maxHeartbeats 4000000 in
theorem Vc {M : Nat → Prop} {w : World} {pa0 : Option Addr} {pn0 pc0 : Nat} (a_ : Int × (List (Int × (List Int)))) (k : Int) (h0 : (RT.rs (RT.pr ri rl)).val M w (.slice pa0 pn0 pc0) a_.2 ([])) (hM : ∀ g, w.heap.size ≤ g → M g) {r : Bool} (hs : Zb a_ k = some r) :
    Gives Try.prog 80 [(.agg #[(iv a_.1), (.slice pa0 pn0 pc0)]), (iv k)] w (fun v w' => v = (.bool r) ∧ Chg [] w w') := by
 refine zr Try.func80 rfl Try.ntmps80 (Nat.le_of_ble_eq_true rfl) ?_
 have hO := Own.start (N := Nw w []) hM Nw.fut
 have hC := Chg.refl [] w
 unfold Zb at hs
 refine wp_k (K := (vZ M w r)) (by rintro _ _ ⟨σ, rfl, hrest⟩; exact Zh Try.results80 (zB rfl) ⟨rfl, hrest⟩) (c_sr ?_)
 obtain ⟨a9, a7, b0, a8, a6, a1⟩ := zi w [(iv a_.1), (.slice pa0 pn0 pc0)] 35
 refine za (w' := a9) (pq a7 0) (ZW rfl (by rw [b0, a8]; kernel_rfl)) ?_
 obtain ⟨h0, hC⟩ := xt2 a6 h0 hC
 have hO := hO.new1 a6 a8 a1.lt
 refine ab rfl (zb (c_sr (za _ (ldw rfl Ag35 a1 Sz35) ?_)))
 obtain ⟨r4, b1, hs⟩ := bind_some hs
 refine zy Bd35 rfl (wT (M := M) (a_.1, a_.2) h0 hO.fut b1) ?_
 rintro _ b5 ⟨rfl, a3⟩
 obtain ⟨h0, a1, hC, hO⟩ := xt4 a3 h0 a1 hC hO
 refine mb rfl ?_
 rcases zf hs with ⟨a2, hs⟩ | ⟨a2, hs⟩
 ·skip
  refine py 7 (iv k) (cb a2) (zt rfl) ?_
  obtain ⟨r7, b2, hs⟩ := bind_some hs
  refine xf (tg := 7) (by kernel_rfl) (cb a2) Bd65 rfl (YU (M := M) k 0 3  hO.fut b2) ?_
  rintro _ b6 ⟨rfl, a4⟩
  obtain ⟨h0, a1, hC, hO⟩ := xt4 a4 h0 a1 hC hO
  refine za _ (ptb (cb a2) rfl) (mb rfl ?_)
  rcases zf hs with ⟨a0, hs⟩ | ⟨a0, hs⟩
  ·skip
   refine py 11 (pq a7 0) (cb a0) (zk rfl Yo) (py 11 _ (cb a0) (ld rfl Ag3 Sz3 a1 rfl) (py 11 (iv k) (cb a0) (zt rfl) ?_))
   obtain ⟨r10, b3, hs⟩ := bind_some hs
   refine xf (tg := 11) (by kernel_rfl) (cb a0) Bd81 rfl (YA (M := M) a_.1 k  hO.fut b3) ?_
   rintro _ b7 ⟨rfl, a5⟩
   obtain ⟨h0, a1, hC, hO⟩ := xt4 a5 h0 a1 hC hO
   refine py 11 _ (cb a0) (XF rfl rfl) (za _ (ptb (cb a0) rfl) (ab rfl (zb (wp_ret ?_))))
   cases hs
   exact ⟨_, fr_m 18 rfl, hC⟩
  refine pn 11 (cb a0) (pn 11 (cb a0) (pn 11 (cb a0) (pn 11 (cb a0) (pn 11 (cb a0) (za _ (pfb (cb a0) rfl) (ab rfl (zb (wp_ret ?_))))))))
  cases hs
  exact ⟨_, fr_m 18 rfl, hC⟩
 refine pn 7 (cb a2) (pn 7 (cb a2) (za _ (pfb (cb a2) rfl) (mb rfl (pn 11 (by rfl) (pn 11 (by rfl) (pn 11 (by rfl) (pn 11 (by rfl) (pn 11 (by rfl) (za _ (pfb (by rfl) rfl) (ab rfl (zb (wp_ret ?_))))))))))))
 cases hs
 exact ⟨_, fr_m 18 rfl, hC⟩

def wG (M : Nat → Prop) (w0 : World) (r : (List Int)) (a : Act) (w : World) : Prop :=
  ∃ (σ : Nat → Value) (ra0 : Option Addr) (rn0 rc0 : Nat) (rf0 : List Nat), a = fr 27 (ovl σ [(6, (.slice ra0 rn0 rc0))]) ∧ Chg [] w0 w ∧ (RT.os 3 (RT.int .i64)).val M w (.slice ra0 rn0 rc0) r rf0 ∧ Own (Nw w0 []) (fun _ => True) w (rf0 ++ ([]))
def YL (n : Int) (arity : Int) (at_ : Int) : Option ((List Int)) :=
  (mks arity (0 : Int)).bind fun y2 =>
  (iter (S := Int × Int × (List Int)) (R := (List Int)) (fun s17 =>
  (bif (decide (0 ≤ s17.2.1)) then (nz n).bind fun u26 =>
  (idx s17.2.2 s17.2.1).bind fun x27 =>
  (nz n).bind fun u30 =>
  some (.nx (w64 (Int.tdiv s17.1 n), w64 (s17.2.1 - 1), List.set s17.2.2 (Int.toNat s17.2.1) (Int.tmod s17.1 n))) else some (.br (s17.1, s17.2.1, s17.2.2)))) FU (at_, w64 (arity - 1), y2)).bind fun o21 => after o21 (fun r_ => some r_) (fun s17 =>
  some s17.2.2)
set_option maxHeartbeats 4000000 in
theorem VO {M : Nat → Prop} {w : World}  (n : Int) (arity : Int) (at_ : Int)  (hM : ∀ g, w.heap.size ≤ g → M g) {r : (List Int)} (hs : YL n arity at_ = some r) :
    Gives Try.prog 87 [(iv n), (iv arity), (iv at_)] w (fun v w' => ∃ (ra0 : Option Addr) (rn0 rc0 : Nat) (rf0 : List Nat), v = (.slice ra0 rn0 rc0) ∧ Chg [] w w' ∧ (RT.os 3 ri).val M w' (.slice ra0 rn0 rc0) r rf0 ∧ Own (Nw w []) (fun _ => True) w' (rf0 ++ ([]))) := by
 refine zr Try.func87 rfl Try.ntmps87 (Nat.le_of_ble_eq_true rfl) ?_
 have hO := Own.start (N := Nw w []) hM Nw.fut
 have hC := Chg.refl [] w
 unfold YL at hs
 refine wp_k (K := (wG M w r)) (by rintro _ _ ⟨σ, ra0, rn0, rc0, rf0, rfl, hrest⟩; exact Zh Try.results87 (zB rfl) ⟨ra0, rn0, rc0, rf0, rfl, hrest⟩) (c_sr (ax rfl (zb (c_sr (mi rfl ?_)))))
 obtain ⟨y2, b5, hs⟩ := bind_some hs
 obtain ⟨a0, a1, a2, a7, b6, b7, b1, b8, a8⟩ := YI (M := M) (w := w) (r := ri) Rw43 b5 (fun _ _ => ⟨rfl, rfl⟩)
 refine za (w' := a7) (.slice a0 a1 a2) (yL rfl rfl b7) ?_
 have hC := hC.ext b1
 have hO := hO.new b1 b8 (zw a8) a8.fpl
 refine ax rfl (zb (zd (c_sr (mi rfl (za _ (ysu rfl rfl) (ai rfl (zb ?_)))))))
 obtain ⟨o21, b9, hs⟩ := bind_some hs
 refine wp_block (Zt (id := 0) (I := fun s17 a a3 => ∃ (σ : Nat → Value) (a4 : List Nat), a = fr 27 (ovl σ [(0, (iv n)), (2, (iv s17.1)), (7, (.slice a0 a1 a2)), (8, (iv s17.2.1))]) ∧ Chg [] w a3 ∧ Own (Nw w []) M a3 (a4 ++ []) ∧ (RT.os 3 ri).val M a3 (.slice a0 a1 a2) s17.2.2 a4) (J := fun s17 a a3 => ∃ (σ : Nat → Value) (a6 : List Nat), a = fr 27 (ovl σ [(7, (.slice a0 a1 a2))]) ∧ Chg [] w a3 ∧ Own (Nw w []) M a3 (a6 ++ []) ∧ (RT.os 3 ri).val M a3 (.slice a0 a1 a2) s17.2.2 a6) (K := (wG M w)) ?_ FU (at_, w64 (arity - 1), y2) o21 _ _ ?_ b9 ?_)
 ·rintro s17 o21 a a3 ⟨σ, a4, rfl, hC, hO, a5⟩ hs
  refine zd (c_sr (mi rfl (za _ (wb rfl rfl) (zb ?_))))
  rcases zf hs with ⟨a9, hs⟩ | ⟨a9, hs⟩
  ·refine zg (cb a9) (wp_skip (zd (wp_block (c_sr (ms rfl (mi rfl (mi rfl (mi rfl ?_))))))))
   obtain ⟨u26, c0, hs⟩ := bind_some hs
   refine za (iv (Int.tmod s17.1 n)) (y_rem rfl rfl (nz_ne c0)) ?_
   obtain ⟨x27, c1, hs⟩ := bind_some hs
   obtain ⟨b2, d1, b3, c2, c3, d2, d3⟩ := zR Sl43 Sz3 a5 c1
   refine za _ (c3 _ _ _ _ _ _ _ _ _ rfl rfl) ?_
   obtain ⟨c4, c5, c6, b4, c7, b0⟩ := yn (P := Try.prog) (c' := [(iv (Int.tmod s17.1 n))]) b3 a5 c2 (fun g hg => hO.inM g (zA a5 g (by simpa using hg))) ⟨rfl, rfl⟩ List.nodup_nil (fun _ h => nomatch h) (fun _ h => .inl h)
   have c8 : ∀ q ∈ [b2], q ∈ a4 := fun q hq => zA a5 q (by rw [b3]; exact hq)
   refine Zk (w' := c4) (zV rfl rfl (c6 _ _ rfl Sz3)) ?_
   have hC := hC.st b4 hO c8
   have hO := hO.grow b4 (fun q hq => .inl ((c7 q hq).resolve_right (fun h => nomatch h))) (zw b0) b0.fpl
   refine zb (ze (mi rfl (mi rfl ?_)))
   obtain ⟨u30, c9, hs⟩ := bind_some hs
   refine za (iv (w64 (Int.tdiv s17.1 n))) (y_quo rfl rfl (nz_ne c9)) (ai rfl (zb (ze (mi rfl (za _ (ysu rfl rfl) (ai rfl (zb ?_)))))))
   cases hs
   exact ⟨_, c5, fr_m 27 rfl, hC, hO, b0⟩
  refine zh (cb a9) (wp_exit ?_)
  cases hs
  exact ⟨rfl, _, a4, fr_m 27 rfl, hC, hO, a5⟩
 ·skip
  exact ⟨_, b6, fr_m 27 rfl, hC, hO, a8⟩
 cases o21 with
 | nx _ => exact True.intro
 | rt r_ =>
  have hs := zp hs
  intro a0 a7 hK
  cases hs
  exact hK
 | br s17 =>
  have hs := zq hs
  rintro a0 a3 ⟨σ, a6, rfl, hC, hO, d0⟩
  refine c_sr (ms rfl (ax rfl (zb (wp_ret ?_))))
  cases hs
  exact ⟨_, a0, a1, a2, a6, fr_m 27 rfl, hC, d0, hO.top⟩

theorem Bd87 : zC Try.prog 87 := zI Try.func87 (by kernel_rfl) rfl

theorem Rw25 : RowT Try.prog 25 43 1 [(.slice none 0 0)] := ⟨Try.underlying25, ⟨_, _, rfl, rfl, rfl, rfl, by decide⟩, rfl, by decide⟩

def xX (M : Nat → Prop) (w0 : World) (r : (List (List Int))) (a : Act) (w : World) : Prop :=
  ∃ (σ : Nat → Value) (ra0 : Option Addr) (rn0 rc0 : Nat) (rf0 : List Nat), a = fr 40 (ovl σ [(4, (.slice ra0 rn0 rc0))]) ∧ Chg [] w0 w ∧ (RT.os 43 (RT.os 3 (RT.int .i64))).val M w (.slice ra0 rn0 rc0) r rf0 ∧ Own (Nw w0 []) (fun _ => True) w (rf0 ++ ([]))
def Yq (a_ : Int × (List (Int × (List Int)))) (k : Int) : Option ((List (List Int))) :=
  (forC (S := (List (List Int))) (R := (List (List Int))) (fun k54 s52 =>
  (iter (S := (List Int) × Int) (R := (List (List Int))) (fun s80 =>
  (ZY a_.1 k).bind fun r91 =>
  (bif (decide (s80.2 < r91)) then (YL a_.1 k s80.2).bind fun r94 =>
  (idx r94 k54).bind fun x96 =>
  (app s80.1 ([x96])).bind fun y101 =>
  some (.nx (y101, w64 (s80.2 + 1))) else some (.br (s80.1, s80.2)))) FU ([], 0)).bind fun o84 => after o84 (fun r_ => some (.rt r_)) (fun s80 =>
  (app s52 ([s80.1])).bind fun y106 =>
  some (.nx y106))) 0 k ([])).bind fun o56 => after o56 (fun r_ => some r_) (fun s52 =>
  some s52)
set_option maxHeartbeats 4000000 in
theorem Vo {M : Nat → Prop} {w : World} {pa0 : Option Addr} {pn0 pc0 : Nat} (a_ : Int × (List (Int × (List Int)))) (k : Int) (h0 : (RT.rs (RT.pr ri rl)).val M w (.slice pa0 pn0 pc0) a_.2 ([])) (hM : ∀ g, w.heap.size ≤ g → M g) {r : (List (List Int))} (hs : Yq a_ k = some r) :
    Gives Try.prog 82 [(.agg #[(iv a_.1), (.slice pa0 pn0 pc0)]), (iv k)] w (fun v w' => ∃ (ra0 : Option Addr) (rn0 rc0 : Nat) (rf0 : List Nat), v = (.slice ra0 rn0 rc0) ∧ Chg [] w w' ∧ (RT.os 43 (RT.os 3 ri)).val M w' (.slice ra0 rn0 rc0) r rf0 ∧ Own (Nw w []) (fun _ => True) w' (rf0 ++ ([]))) := by
 refine zr Try.func82 rfl Try.ntmps82 (Nat.le_of_ble_eq_true rfl) ?_
 have hO := Own.start (N := Nw w []) hM Nw.fut
 have hC := Chg.refl [] w
 unfold Yq at hs
 refine wp_k (K := (xX M w r)) (by rintro _ _ ⟨σ, ra0, rn0, rc0, rf0, rfl, hrest⟩; exact Zh Try.results82 (zB rfl) ⟨ra0, rn0, rc0, rf0, rfl, hrest⟩) (c_sr ?_)
 obtain ⟨f5, a2, g9, f6, d5, a0⟩ := zi w [(iv a_.1), (.slice pa0 pn0 pc0)] 35
 refine za (w' := f5) (pq a2 0) (ZW rfl (by rw [g9, f6]; kernel_rfl)) ?_
 obtain ⟨h0, hC⟩ := xt2 d5 h0 hC
 have hO := hO.new1 d5 f6 a0.lt
 refine ax rfl (zb (c_sr ?_))
 obtain ⟨f7, b1, h1, f8, d1, f9⟩ := zi f5 [] 43
 refine za (w' := f7) (.slice (some ⟨b1, 0, none⟩) 0 0) (zG rfl (by rw [h1, f8]; kernel_rfl)) ?_
 obtain ⟨h0, a0, hC⟩ := xt3 d1 h0 a0 hC
 have hO := hO.new1 d1 f8 f9.lt
 have d6 := os0 (r := (RT.os 3 ri)) (M := M) f9
 refine ax rfl (zb (zd (c_sr (ai rfl (zb ?_)))))
 obtain ⟨o56, h2, hs⟩ := bind_some hs
 refine wp_block (zW (id := 0) k (I := fun k54 s52 a a4 => ∃ (σ : Nat → Value) (a6 : Option Addr) (a7 : Nat) (a8 : Nat) (a5 : List Nat), a = fr 40 (ovl σ [(1, (iv k)), (2, (pq a2 0)), (5, (.slice a6 a7 a8)), (6, (iv k54))]) ∧ Chg [] w a4 ∧ Own (Nw w []) M a4 (a5 ++ (([a2]) ++ [])) ∧ (RT.rs (RT.pr ri rl)).val M a4 (.slice pa0 pn0 pc0) a_.2 ([]) ∧ BoxV a4 a2 35 [(iv a_.1), (.slice pa0 pn0 pc0)] ∧ (RT.os 43 (RT.os 3 ri)).val M a4 (.slice a6 a7 a8) s52 a5) (J := fun s52 a a4 => ∃ (σ : Nat → Value) (b2 : Option Addr) (b3 : Nat) (b4 : Nat) (d2 : List Nat), a = fr 40 (ovl σ [(5, (.slice b2 b3 b4))]) ∧ Chg [] w a4 ∧ Own (Nw w []) M a4 (d2 ++ (([a2]) ++ [])) ∧ (RT.rs (RT.pr ri rl)).val M a4 (.slice pa0 pn0 pc0) a_.2 ([]) ∧ BoxV a4 a2 35 [(iv a_.1), (.slice pa0 pn0 pc0)] ∧ (RT.os 43 (RT.os 3 ri)).val M a4 (.slice b2 b3 b4) s52 d2) (K := (xX M w)) ?_ ?_ 0 ([]) o56 _ _ ?_ h2 ?_)
 ·rintro k54 s52 a a4 ⟨σ, a6, a7, a8, a5, rfl, hC, hO, h0, a0, a1⟩ hlt
  refine zd (c_sr (mi rfl (mi rfl (za _ (zx rfl rfl) (zb (zh (cb (decide_eq_false hlt)) (wp_exit ?_)))))))
  have hO := hO.fr1.fr1
  exact ⟨rfl, _, a6, a7, a8, a5, fr_m 40 rfl, hC, hO, h0, a0, a1⟩
 ·rintro k54 s52 o56 a a4 ⟨σ, a6, a7, a8, a5, rfl, hC, hO, h0, a0, a1⟩ hlt hw hs
  refine zd (c_sr (mi rfl (mi rfl (za _ (zx rfl rfl) (zb (zg (cb (decide_eq_true hlt)) (wp_skip (zd (wp_block (c_sr ?_))))))))))
  obtain ⟨g0, b5, h3, g1, c4, g2⟩ := zi a4 [] 3
  refine za (w' := g0) (.slice (some ⟨b5, 0, none⟩) 0 0) (zG rfl (by rw [h3, g1]; kernel_rfl)) ?_
  obtain ⟨h0, a0, a1, hC⟩ := xt4 c4 h0 a0 a1 hC
  have hO := hO.new1 c4 g1 g2.lt
  have d7 := os0 (r := ri) (M := M) g2
  refine ax rfl (zb (zd (c_sr (ai rfl (zb ?_)))))
  obtain ⟨o84, h4, hs⟩ := bind_some hs
  refine wp_block (Zt (id := 2) (I := fun s80 a a3 => ∃ (σ : Nat → Value) (c5 : Option Addr) (c6 : Nat) (c7 : Nat) (c8 : List Nat), a = fr 40 (ovl σ [(1, (iv k)), (2, (pq a2 0)), (5, (.slice a6 a7 a8)), (6, (iv k54)), (7, (.slice c5 c6 c7)), (8, (iv s80.2))]) ∧ Chg [] w a3 ∧ Own (Nw w []) M a3 (c8 ++ (a5 ++ (([a2]) ++ []))) ∧ (RT.rs (RT.pr ri rl)).val M a3 (.slice pa0 pn0 pc0) a_.2 ([]) ∧ BoxV a3 a2 35 [(iv a_.1), (.slice pa0 pn0 pc0)] ∧ (RT.os 43 (RT.os 3 ri)).val M a3 (.slice a6 a7 a8) s52 a5 ∧ (RT.os 3 ri).val M a3 (.slice c5 c6 c7) s80.1 c8) (J := fun s80 a a3 => ∃ (σ : Nat → Value) (b6 : Option Addr) (b7 : Nat) (b8 : Nat) (b9 : List Nat), a = fr 40 (ovl σ [(1, (iv k)), (2, (pq a2 0)), (5, (.slice a6 a7 a8)), (6, (iv k54)), (7, (.slice b6 b7 b8))]) ∧ Chg [] w a3 ∧ Own (Nw w []) M a3 (b9 ++ (a5 ++ (([a2]) ++ []))) ∧ (RT.rs (RT.pr ri rl)).val M a3 (.slice pa0 pn0 pc0) a_.2 ([]) ∧ BoxV a3 a2 35 [(iv a_.1), (.slice pa0 pn0 pc0)] ∧ (RT.os 43 (RT.os 3 ri)).val M a3 (.slice a6 a7 a8) s52 a5 ∧ (RT.os 3 ri).val M a3 (.slice b6 b7 b8) s80.1 b9) (K := (xX M w)) ?_ FU ([], 0) o84 _ _ ?_ h4 ?_)
  ·rintro s80 o84 a a3 ⟨σ, c5, c6, c7, c8, rfl, hC, hO, h0, a0, a1, a9⟩ hs
   refine zd (c_sr (mi rfl (za (pq a2 0) (zk rfl Yo) (za _ (ld rfl Ag3 Sz3 a0 rfl) (mi rfl ?_)))))
   obtain ⟨r91, h5, hs⟩ := bind_some hs
   refine zy Bd81 rfl (YA (M := M) a_.1 k  hO.fut h5) ?_
   rintro _ j8 ⟨rfl, c0⟩
   obtain ⟨h0, a0, a1, a9, hC, hO⟩ := xt6 c0 h0 a0 a1 a9 hC hO
   refine za _ (zx rfl rfl) (zb ?_)
   rcases zf hs with ⟨d8, hs⟩ | ⟨d8, hs⟩
   ·refine zg (cb d8) (wp_skip (zd (wp_block (ze (ms rfl (za (pq a2 0) (zk rfl Yo) (za _ (ld rfl Ag3 Sz3 a0 rfl) (mi rfl (mi rfl ?_)))))))))
    obtain ⟨r94, h6, hs⟩ := bind_some hs
    refine zy Bd87 rfl (VO (M := M) a_.1 k s80.2  hO.fut h6) ?_
    rintro _ h7 ⟨j9, k0, k1, h8, rfl, c1, c9, h9⟩
    obtain ⟨h0, a0, a1, a9, hC⟩ := xt5 c1 h0 a0 a1 a9 hC
    have hO := Own.join0 hO c1 h9
    have hO := hO.perm (R := h8 ++ (c8 ++ (a5 ++ (([a2]) ++ ([]))))) (by simp)
    refine mi rfl ?_
    obtain ⟨x96, i0, hs⟩ := bind_some hs
    obtain ⟨i1, k2, k3, k4, i2, d9, k5⟩ := zR Sl43 Sz3 c9 i0
    refine za _ (i2 _ _ _ _ _ _ _ _ _ rfl rfl) (za (iv x96) (zo rfl ((zz Ag3 Sz3 d9) _ (Chg.refl _ _))) ?_)
    obtain ⟨g3, e0, i3, g4, b0, g5⟩ := zi h7 [(iv x96)] 3
    refine za (w' := g3) (.slice (some ⟨e0, 0, none⟩) 1 1) (zG rfl (by rw [i3, g4]; kernel_rfl)) ?_
    obtain ⟨h0, a0, a1, a9, c9, d9, hC⟩ := xt7 b0 h0 a0 a1 a9 c9 d9 hC
    have hO := hO.new1 b0 g4 g5.lt
    have e1 := zT (r := ri) (M := M) (css := [[(iv x96)]]) (fps := [([] : List Nat)]) (xs := ([x96] : List Int)) g5 ⟨⟨rfl, rfl⟩, trivial⟩ (Nat.le_of_ble_eq_true rfl) (List.nodup_cons.2 ⟨(fun h => nomatch h), List.nodup_nil⟩)
    have e1 : (RT.os 3 ri).val M g3 (.slice (some ⟨e0, 0, none⟩) 1 1) [x96] [e0] := e1
    obtain ⟨y101, i4, hs⟩ := bind_some hs
    have hO := hO.fr2
    obtain ⟨e2, e3, e4, i5, i6, i7, c2, i9, e5⟩ := Yc Rw43 i4 a9 e1 hO.inM (fun g hg hq => hO.apart g hq (zm hg))
    have d0 := zA a9
    refine za (w' := i5) (.slice e2 e3 e4) (zU rfl rfl (i7 _)) ?_
    have hO := hO.fr1.fr1
    have h0 := h0.mt c2 hO d0
    have a0 := a0.ap c2 hO d0 (zl (zl (zl (zm (List.mem_singleton.2 rfl)))))
    have a1 := a1.ma c2 hO d0 (fun _ e => (zl (zl (zm (e)))))
    have c9 := c9.ma c2 hO d0 (fun _ e => (zl (zm (e))))
    have hC := hC.st c2 hO d0
    have hO := hO.eat c2 i9 (zw e5) e5.fpl
    refine ax rfl (zb (ze (mi rfl (za _ (yad rfl rfl) (ai rfl (zb ?_))))))
    cases hs
    have hO := hO.fr1.drop.fr2.fr2.fr2
    exact ⟨_, e2, e3, e4, i6, fr_m 40 rfl, hC, hO, h0, a0, a1, e5⟩
   refine zh (cb d8) (wp_exit ?_)
   cases hs
   have hO := hO.fr2.fr2.fr2
   exact ⟨rfl, _, c5, c6, c7, c8, fr_m 40 rfl, hC, hO, h0, a0, a1, a9⟩
  ·skip
   have hO := hO.fr2.fr2.fr2
   exact ⟨_, (some ⟨b5, 0, none⟩), 0, 0, ([b5]), fr_m 40 rfl, hC, hO, h0, a0, a1, d7⟩
  cases o84 with
  | nx _ => exact True.intro
  | rt r_ =>
   have hs := zp hs
   intro e6 f4 hK
   cases hs
   exact hK
  | br s80 =>
   have hs := zq hs
   rintro e6 a3 ⟨σ, b6, b7, b8, b9, rfl, hC, hO, h0, a0, a1, e7⟩
   refine ze (ms rfl (ms rfl ?_))
   obtain ⟨g6, d3, j0, g7, c3, g8⟩ := zi a3 [(.slice b6 b7 b8)] 43
   refine za (w' := g6) (.slice (some ⟨d3, 0, none⟩) 1 1) (zG rfl (by rw [j0, g7]; kernel_rfl)) ?_
   obtain ⟨h0, a0, a1, e7, hC⟩ := xt5 c3 h0 a0 a1 e7 hC
   have hO := (hO.new1 c3 g7 g8.lt).perm (R := (d3 :: ((b9) ++ ([]))) ++ (a5 ++ (([a2]) ++ ([])))) (by simp)
   have j1 := hO.nd
   have e8 := zT (r := (RT.os 3 ri)) (M := M) (css := [[(.slice b6 b7 b8)]]) (fps := [(b9 : List Nat)]) (xs := ([s80.1] : List (List Int))) g8 ⟨(Zs e7), trivial⟩ (Nat.le_of_ble_eq_true rfl) j1
   have e8 : (RT.os 43 (RT.os 3 ri)).val M g6 (.slice (some ⟨d3, 0, none⟩) 1 1) [s80.1] (d3 :: ((b9) ++ ([]))) := e8
   obtain ⟨y106, j2, hs⟩ := bind_some hs
   have hO := hO.fr1
   obtain ⟨e9, f0, f1, j3, j4, j5, d4, j6, f2⟩ := Yc Rw25 j2 a1 e8 hO.inM (fun g hg hq => hO.apart g hq (zm hg))
   have f3 := zA a1
   refine za (w' := j3) (.slice e9 f0 f1) (zU rfl rfl (j5 _)) ?_
   have hO := hO.fr1.fr1
   have h0 := h0.mt d4 hO f3
   have a0 := a0.ap d4 hO f3 (zl (zm (List.mem_singleton.2 rfl)))
   have hC := hC.st d4 hO f3
   have hO := hO.eat d4 j6 (zw f2) f2.fpl
   refine ax rfl (zb (ze (mi rfl (za _ (yad rfl rfl) (ai rfl (zb ?_))))))
   cases hs
   have hO := hO.fr1.fr1
   exact ⟨_, e9, f0, f1, j4, zD 40 ⟨rfl, rfl, rfl, congrArg (Value.int .i64) hw, trivial⟩, hC, hO, h0, a0, f2⟩
 ·skip
  have hO := hO.fr1.fr1
  exact ⟨_, (some ⟨b1, 0, none⟩), 0, 0, ([b1]), fr_m 40 rfl, hC, hO, h0, a0, d6⟩
 cases o56 with
 | nx _ => exact True.intro
 | rt r_ =>
  have hs := zp hs
  intro e6 f4 hK
  cases hs
  exact hK
 | br s52 =>
  have hs := zq hs
  rintro e6 a4 ⟨σ, b2, b3, b4, d2, rfl, hC, hO, h0, a0, j7⟩
  refine c_sr (ms rfl (ax rfl (zb (wp_ret ?_))))
  cases hs
  have hO := hO.fr1.drop
  exact ⟨_, b2, b3, b4, d2, fr_m 40 rfl, hC, j7, hO.top⟩

def Xc (M : Nat → Prop) (w0 : World) (r : Bool) (a : Act) (w : World) : Prop :=
  ∃ (σ : Nat → Value) , a = fr 20 (ovl σ [(4, (.bool r))]) ∧ Chg [] w0 w
def yS (n : Int) (list : List Int) : Option (Bool) :=
  (forC (S := Unit) (R := Bool) (fun k9 s7 =>
  (idx list k9).bind fun x13 =>
  (yB x13 0 (w64 (n - 1))).bind fun r16 =>
  (bif (!r16) then some (.rt false) else some (.nx ()))) 0 (list.length : Int) ()).bind fun o11 => after o11 (fun r_ => some r_) (fun s7 =>
  some true)
set_option maxHeartbeats 4000000 in
theorem WA {M : Nat → Prop} {w : World} {pa0 : Option Addr} {pn0 pc0 : Nat} (n : Int) (list : List Int) (h0 : rl.val M w (.slice pa0 pn0 pc0) list ([])) (hM : ∀ g, w.heap.size ≤ g → M g) {r : Bool} (hs : yS n list = some r) :
    Gives Try.prog 116 [(iv n), (.slice pa0 pn0 pc0)] w (fun v w' => v = (.bool r) ∧ Chg [] w w') := by
 refine zr Try.func116 rfl Try.ntmps116 (Nat.le_of_ble_eq_true rfl) ?_
 have hO := Own.start (N := Nw w []) hM Nw.fut
 have hC := Chg.refl [] w
 unfold yS at hs
 refine wp_k (K := (Xc M w r)) (by rintro _ _ ⟨σ, rfl, hrest⟩; exact Zh Try.results116 (zB rfl) ⟨rfl, hrest⟩) (c_sr (ab rfl (zb (zd (c_sr (ai rfl (zb ?_)))))))
 obtain ⟨o11, a5, hs⟩ := bind_some hs
 refine wp_block (zW (id := 0) (list.length : Int) (I := fun k9 s7 a a0 => ∃ (σ : Nat → Value), a = fr 20 (ovl σ [(0, (iv n)), (1, (.slice pa0 pn0 pc0)), (5, (iv k9))]) ∧ Chg [] w a0 ∧ Own (Nw w []) M a0 ([]) ∧ rl.val M a0 (.slice pa0 pn0 pc0) list ([])) (J := fun s7 a a0 => ∃ (σ : Nat → Value), a = fr 20 (ovl σ []) ∧ Chg [] w a0 ∧ Own (Nw w []) M a0 ([]) ∧ rl.val M a0 (.slice pa0 pn0 pc0) list ([])) (K := (Xc M w)) ?_ ?_ 0 () o11 _ _ ?_ a5 ?_)
 ·rintro k9 s7 a a0 ⟨σ, rfl, hC, hO, h0⟩ hlt
  refine zd (c_sr (mi rfl (ms rfl (za _ (zn Sl43 (zu h0) rfl) (za _ (zx rfl rfl) (zb (zh (cb (decide_eq_false hlt)) (wp_exit ?_))))))))
  exact ⟨rfl, _, zD 20 trivial, hC, hO, h0⟩
 ·rintro k9 s7 o11 a a0 ⟨σ, rfl, hC, hO, h0⟩ hlt hw hs
  refine zd (c_sr (mi rfl (ms rfl (za _ (zn Sl43 (zu h0) rfl) (za _ (zx rfl rfl) (zb (zg (cb (decide_eq_true hlt)) (wp_skip (zd (wp_block (c_sr (ms rfl (mi rfl ?_)))))))))))))
  obtain ⟨x13, a6, hs⟩ := bind_some hs
  obtain ⟨a7, a8, a9, a2⟩ := zN Sl43 Sz3 h0 a6
  refine za _ (a9 _ _ _ _ _ _ _ _ _ rfl rfl) (za (iv x13) (zo rfl ((zz Ag3 Sz3 a2) _ (Chg.refl _ _))) (mi rfl (za _ (ysu rfl rfl) ?_)))
  obtain ⟨r16, b0, hs⟩ := bind_some hs
  refine zy Bd65 rfl (YU (M := M) x13 0 (w64 (n - 1))  hO.fut b0) ?_
  rintro _ b2 ⟨rfl, a1⟩
  obtain ⟨h0, a2, hC, hO⟩ := xt4 a1 h0 a2 hC hO
  refine za _ (ZQ rfl) (zb ?_)
  rcases zf hs with ⟨a3, hs⟩ | ⟨a3, hs⟩
  ·refine zg (cb a3) (c_sr (ab rfl (zb (wp_ret ?_))))
   cases hs
   exact ⟨_, fr_m 20 rfl, hC⟩
  refine zh (cb a3) (wp_skip (ze (mi rfl (za _ (yad rfl rfl) (ai rfl (zb ?_))))))
  cases hs
  exact ⟨_, zD 20 ⟨rfl, rfl, congrArg (Value.int .i64) hw, trivial⟩, hC, hO, h0⟩
 ·skip
  exact ⟨_, fr_m 20 rfl, hC, hO, h0⟩
 cases o11 with
 | nx _ => exact True.intro
 | rt r_ =>
  have hs := zp hs
  intro b1 a4 hK
  cases hs
  exact hK
 | br s7 =>
  have hs := zq hs
  rintro b1 a0 ⟨σ, rfl, hC, hO, h0⟩
  refine c_sr (ab rfl (zb (wp_ret ?_)))
  cases hs
  exact ⟨_, fr_m 20 rfl, hC⟩

theorem Bd116 : zC Try.prog 116 := zI Try.func116 (by kernel_rfl) rfl

def vW (M : Nat → Prop) (w0 : World) (r : Bool) (a : Act) (w : World) : Prop :=
  ∃ (σ : Nat → Value) , a = fr 16 (ovl σ [(6, (.bool r))]) ∧ Chg [] w0 w
def Yx (n : Int) (k : Int) (t : List Int) : Option (Bool) :=
  (bif ((t.length : Int) == k) then (yS n t).bind fun r4 =>
  some r4 else some false)
set_option maxHeartbeats 4000000 in
theorem Ve {M : Nat → Prop} {w : World} {pa0 : Option Addr} {pn0 pc0 : Nat} (n : Int) (k : Int) (t : List Int) (h0 : rl.val M w (.slice pa0 pn0 pc0) t ([])) (hM : ∀ g, w.heap.size ≤ g → M g) {r : Bool} (hs : Yx n k t = some r) :
    Gives Try.prog 106 [(iv n), (iv k), (.slice pa0 pn0 pc0)] w (fun v w' => v = (.bool r) ∧ Chg [] w w') := by
 refine zr Try.func106 rfl Try.ntmps106 (Nat.le_of_ble_eq_true rfl) ?_
 have hO := Own.start (N := Nw w []) hM Nw.fut
 have hC := Chg.refl [] w
 unfold Yx at hs
 refine wp_k (K := (vW M w r)) (by rintro _ _ ⟨σ, rfl, hrest⟩; exact Zh Try.results106 (zB rfl) ⟨rfl, hrest⟩) (c_sr (ab rfl (zb (c_sr (ms rfl (za _ (zn Sl43 (zu h0) rfl) (mi rfl (za (.bool ((t.length : Int) == k)) (xz rfl rfl) (mb rfl ?_)))))))))
 rcases zf hs with ⟨a0, hs⟩ | ⟨a0, hs⟩
 ·skip
  refine py 11 (iv n) (cb a0) (zt rfl) (py 11 (.slice pa0 pn0 pc0) (cb a0) (zt rfl) ?_)
  obtain ⟨r4, a2, hs⟩ := bind_some hs
  refine xf (tg := 11) (by kernel_rfl) (cb a0) Bd116 rfl (WA (M := M) n t h0 hO.fut a2) ?_
  rintro _ a4 ⟨rfl, a1⟩
  obtain ⟨h0, hC, hO⟩ := xt3 a1 h0 hC hO
  refine za _ (ptb (cb a0) rfl) (ab rfl (zb (wp_ret ?_)))
  cases hs
  exact ⟨_, fr_m 16 rfl, hC⟩
 refine pn 11 (cb a0) (pn 11 (cb a0) (pn 11 (cb a0) (za _ (pfb (cb a0) rfl) (ab rfl (zb (wp_ret ?_))))))
 cases hs
 exact ⟨_, fr_m 16 rfl, hC⟩

theorem Sl25 : SlT Try.prog 25 43 := Try.underlying25

theorem Bd106 : zC Try.prog 106 := zI Try.func106 (by kernel_rfl) rfl

def XZ (M : Nat → Prop) (w0 : World) (r : Bool) (a : Act) (w : World) : Prop :=
  ∃ (σ : Nat → Value) , a = fr 24 (ovl σ [(6, (.bool r))]) ∧ Chg [] w0 w
def Yg (n : Int) (k : Int) (list : List (List Int)) : Option (Bool) :=
  (forC (S := Unit) (R := Bool) (fun k11 s9 =>
  (idx list k11).bind fun x15 =>
  (Yx n k x15).bind fun r20 =>
  (bif (!r20) then some (.rt false) else some (.nx ()))) 0 (list.length : Int) ()).bind fun o13 => after o13 (fun r_ => some r_) (fun s9 =>
  (yB k 1 64).bind fun r23 =>
  some r23)
set_option maxHeartbeats 4000000 in
theorem vB {M : Nat → Prop} {w : World} {pa0 : Option Addr} {pn0 pc0 : Nat} (n : Int) (k : Int) (list : List (List Int)) (h0 : (RT.rs rl).val M w (.slice pa0 pn0 pc0) list ([])) (hM : ∀ g, w.heap.size ≤ g → M g) {r : Bool} (hs : Yg n k list = some r) :
    Gives Try.prog 93 [(iv n), (iv k), (.slice pa0 pn0 pc0)] w (fun v w' => v = (.bool r) ∧ Chg [] w w') := by
 refine zr Try.func93 rfl Try.ntmps93 (Nat.le_of_ble_eq_true rfl) ?_
 have hO := Own.start (N := Nw w []) hM Nw.fut
 have hC := Chg.refl [] w
 unfold Yg at hs
 refine wp_k (K := (XZ M w r)) (by rintro _ _ ⟨σ, rfl, hrest⟩; exact Zh Try.results93 (zB rfl) ⟨rfl, hrest⟩) (c_sr (ab rfl (zb (zd (c_sr (ai rfl (zb ?_)))))))
 obtain ⟨o13, a7, hs⟩ := bind_some hs
 refine wp_block (zW (id := 0) (list.length : Int) (I := fun k11 s9 a a0 => ∃ (σ : Nat → Value), a = fr 24 (ovl σ [(0, (iv n)), (1, (iv k)), (2, (.slice pa0 pn0 pc0)), (7, (iv k11))]) ∧ Chg [] w a0 ∧ Own (Nw w []) M a0 ([]) ∧ (RT.rs rl).val M a0 (.slice pa0 pn0 pc0) list ([])) (J := fun s9 a a0 => ∃ (σ : Nat → Value), a = fr 24 (ovl σ [(1, (iv k))]) ∧ Chg [] w a0 ∧ Own (Nw w []) M a0 ([]) ∧ (RT.rs rl).val M a0 (.slice pa0 pn0 pc0) list ([])) (K := (XZ M w)) ?_ ?_ 0 () o13 _ _ ?_ a7 ?_)
 ·rintro k11 s9 a a0 ⟨σ, rfl, hC, hO, h0⟩ hlt
  refine zd (c_sr (mi rfl (ms rfl (za _ (zn Sl25 (zu h0) rfl) (za _ (zx rfl rfl) (zb (zh (cb (decide_eq_false hlt)) (wp_exit ?_))))))))
  exact ⟨rfl, _, fr_m 24 rfl, hC, hO, h0⟩
 ·rintro k11 s9 o13 a a0 ⟨σ, rfl, hC, hO, h0⟩ hlt hw hs
  refine zd (c_sr (mi rfl (ms rfl (za _ (zn Sl25 (zu h0) rfl) (za _ (zx rfl rfl) (zb (zg (cb (decide_eq_true hlt)) (wp_skip (zd (wp_block (c_sr (mi rfl (mi rfl (ms rfl (mi rfl ?_)))))))))))))))
  obtain ⟨x15, a8, hs⟩ := bind_some hs
  obtain ⟨a9, b0, b1, a3⟩ := zN Sl25 Sz43 h0 a8
  refine za _ (b1 _ _ _ _ _ _ _ _ _ rfl rfl) ?_
  obtain ⟨b9, b2, a2⟩ := Zj Ag43 Sz43 (fun _ => rfl) a3
  obtain ⟨b3, b4, b5, rfl⟩ := yd a2
  refine za (.slice b3 b4 b5) (zo rfl (b2 _ (Chg.refl _ _))) ?_
  obtain ⟨r20, b6, hs⟩ := bind_some hs
  refine zy Bd106 rfl (Ve (M := M) n k x15 a2 hO.fut b6) ?_
  rintro _ c0 ⟨rfl, a1⟩
  obtain ⟨h0, a2, a3, hC, hO⟩ := xt5 a1 h0 a2 a3 hC hO
  refine za _ (ZQ rfl) (zb ?_)
  rcases zf hs with ⟨a4, hs⟩ | ⟨a4, hs⟩
  ·refine zg (cb a4) (c_sr (ab rfl (zb (wp_ret ?_))))
   cases hs
   exact ⟨_, fr_m 24 rfl, hC⟩
  refine zh (cb a4) (wp_skip (ze (mi rfl (za _ (yad rfl rfl) (ai rfl (zb ?_))))))
  cases hs
  exact ⟨_, zD 24 ⟨rfl, rfl, rfl, congrArg (Value.int .i64) hw, trivial⟩, hC, hO, h0⟩
 ·skip
  exact ⟨_, fr_m 24 rfl, hC, hO, h0⟩
 cases o13 with
 | nx _ => exact True.intro
 | rt r_ =>
  have hs := zp hs
  intro b7 a6 hK
  cases hs
  exact hK
 | br s9 =>
  have hs := zq hs
  rintro b7 a0 ⟨σ, rfl, hC, hO, h0⟩
  refine c_sr (mi rfl ?_)
  obtain ⟨r23, b8, hs⟩ := bind_some hs
  refine zy Bd65 rfl (YU (M := M) k 1 64  hO.fut b8) ?_
  rintro _ c1 ⟨rfl, a5⟩
  obtain ⟨h0, hC, hO⟩ := xt3 a5 h0 hC hO
  refine ab rfl (zb (wp_ret ?_))
  cases hs
  exact ⟨_, fr_m 24 rfl, hC⟩

theorem Bd93 : zC Try.prog 93 := zI Try.func93 (by kernel_rfl) rfl

def VX (M : Nat → Prop) (w0 : World) (r : Bool) (a : Act) (w : World) : Prop :=
  ∃ (σ : Nat → Value) , a = fr 21 (ovl σ [(6, (.bool r))]) ∧ Chg [] w0 w
def yY (a_ : Int × (List (Int × (List Int)))) (k : Int) (gens : List (List Int)) : Option (Bool) :=
  (Zo (a_.1, a_.2)).bind fun r5 =>
  (bif r5 then (bif (decide ((gens.length : Int) ≤ 20)) then (Yg a_.1 k gens).bind fun r9 =>
  some r9 else some false) else some false)
set_option maxHeartbeats 4000000 in
theorem VN {M : Nat → Prop} {w : World} {pa0 : Option Addr} {pn0 pc0 : Nat} {pa1 : Option Addr} {pn1 pc1 : Nat} (a_ : Int × (List (Int × (List Int)))) (k : Int) (gens : List (List Int)) (h0 : (RT.rs (RT.pr ri rl)).val M w (.slice pa0 pn0 pc0) a_.2 ([])) (h1 : (RT.rs rl).val M w (.slice pa1 pn1 pc1) gens ([])) (hM : ∀ g, w.heap.size ≤ g → M g) {r : Bool} (hs : yY a_ k gens = some r) :
    Gives Try.prog 52 [(.agg #[(iv a_.1), (.slice pa0 pn0 pc0)]), (iv k), (.slice pa1 pn1 pc1)] w (fun v w' => v = (.bool r) ∧ Chg [] w w') := by
 refine zr Try.func52 rfl Try.ntmps52 (Nat.le_of_ble_eq_true rfl) ?_
 have hO := Own.start (N := Nw w []) hM Nw.fut
 have hC := Chg.refl [] w
 unfold yY at hs
 refine wp_k (K := (VX M w r)) (by rintro _ _ ⟨σ, rfl, hrest⟩; exact Zh Try.results52 (zB rfl) ⟨rfl, hrest⟩) (c_sr ?_)
 obtain ⟨a8, a6, a9, a7, a5, a2⟩ := zi w [(iv a_.1), (.slice pa0 pn0 pc0)] 35
 refine za (w' := a8) (pq a6 0) (ZW rfl (by rw [a9, a7]; kernel_rfl)) ?_
 obtain ⟨h0, h1, hC⟩ := xt3 a5 h0 h1 hC
 have hO := hO.new1 a5 a7 a2.lt
 refine ab rfl (zb (c_sr (za _ (ldw rfl Ag35 a2 Sz35) ?_)))
 obtain ⟨r5, b0, hs⟩ := bind_some hs
 refine zy Bd35 rfl (wT (M := M) (a_.1, a_.2) h0 hO.fut b0) ?_
 rintro _ b3 ⟨rfl, a3⟩
 obtain ⟨h0, h1, a2, hC, hO⟩ := xt5 a3 h0 h1 a2 hC hO
 refine mb rfl ?_
 rcases zf hs with ⟨a1, hs⟩ | ⟨a1, hs⟩
 ·skip
  refine py 9 (.slice pa1 pn1 pc1) (cb a1) (zt rfl) (py 9 _ (cb a1) (zn Sl25 (zu h1) rfl) (py 9 _ (cb a1) (XF rfl rfl) (za _ (ptb (cb a1) rfl) (mb rfl ?_))))
  rcases zf hs with ⟨a0, hs⟩ | ⟨a0, hs⟩
  ·skip
   refine py 14 (pq a6 0) (cb a0) (zk rfl Yo) (py 14 _ (cb a0) (ld rfl Ag3 Sz3 a2 rfl) (py 14 (iv k) (cb a0) (zt rfl) (py 14 (.slice pa1 pn1 pc1) (cb a0) (zt rfl) ?_)))
   obtain ⟨r9, b1, hs⟩ := bind_some hs
   refine xf (tg := 14) (by kernel_rfl) (cb a0) Bd93 rfl (vB (M := M) a_.1 k gens h1 hO.fut b1) ?_
   rintro _ b4 ⟨rfl, a4⟩
   obtain ⟨h0, h1, a2, hC, hO⟩ := xt5 a4 h0 h1 a2 hC hO
   refine za _ (ptb (cb a0) rfl) (ab rfl (zb (wp_ret ?_)))
   cases hs
   exact ⟨_, fr_m 21 rfl, hC⟩
  refine pn 14 (cb a0) (pn 14 (cb a0) (pn 14 (cb a0) (pn 14 (cb a0) (pn 14 (cb a0) (za _ (pfb (cb a0) rfl) (ab rfl (zb (wp_ret ?_))))))))
  cases hs
  exact ⟨_, fr_m 21 rfl, hC⟩
 refine pn 9 (cb a1) (pn 9 (cb a1) (pn 9 (cb a1) (za _ (pfb (cb a1) rfl) (mb rfl (pn 14 (by rfl) (pn 14 (by rfl) (pn 14 (by rfl) (pn 14 (by rfl) (pn 14 (by rfl) (za _ (pfb (by rfl) rfl) (ab rfl (zb (wp_ret ?_)))))))))))))
 cases hs
 exact ⟨_, fr_m 21 rfl, hC⟩

def VY (M : Nat → Prop) (w0 : World) (r : Int) (a : Act) (w : World) : Prop :=
  ∃ (σ : Nat → Value) , a = fr 10 (ovl σ [(4, (.int .i64 r))]) ∧ Chg [] w0 w
def YH (a_ : Int) (b : Int) : Option (Int) :=
  (bif (decide (b < a_)) then some a_ else some b)
set_option maxHeartbeats 4000000 in
theorem ub {M : Nat → Prop} {w : World}  (a_ : Int) (b : Int)  (hM : ∀ g, w.heap.size ≤ g → M g) {r : Int} (hs : YH a_ b = some r) :
    Gives Try.prog 107 [(iv a_), (iv b)] w (fun v w' => v = (iv r) ∧ Chg [] w w') := by
 refine zr Try.func107 rfl Try.ntmps107 (Nat.le_of_ble_eq_true rfl) ?_
 have hO := Own.start (N := Nw w []) hM Nw.fut
 have hC := Chg.refl [] w
 unfold YH at hs
 refine wp_k (K := (VY M w r)) (by rintro _ _ ⟨σ, rfl, hrest⟩; exact Zh Try.results107 (zB rfl) ⟨rfl, hrest⟩) (c_sr (ai rfl (zb (zd (c_sr (mi rfl (mi rfl (za _ (YJ rfl rfl) (zb ?_)))))))))
 rcases zf hs with ⟨a0, hs⟩ | ⟨a0, hs⟩
 ·refine zg (cb a0) (c_sr (mi rfl (ai rfl (zb (wp_ret ?_)))))
  cases hs
  exact ⟨_, fr_m 10 rfl, hC⟩
 refine zh (cb a0) (wp_skip (c_sr (mi rfl (ai rfl (zb (wp_ret ?_))))))
 cases hs
 exact ⟨_, fr_m 10 rfl, hC⟩

theorem Bd107 : zC Try.prog 107 := zI Try.func107 (by kernel_rfl) rfl

def wJ (M : Nat → Prop) (w0 : World) (r : Int) (a : Act) (w : World) : Prop :=
  ∃ (σ : Nat → Value) , a = fr 25 (ovl σ [(2, (.int .i64 r))]) ∧ Chg [] w0 w
def YG (a_ : Int × (List (Int × (List Int)))) : Option (Int) :=
  (forC (S := Int) (R := Int) (fun k10 s8 =>
  (idx a_.2 k10).bind fun x14 =>
  (YH s8 x14.1).bind fun r18 =>
  some (.nx r18)) 0 (a_.2.length : Int) 0).bind fun o12 => after o12 (fun r_ => some r_) (fun s8 =>
  (bif (s8 == 3) then some 40 else (bif (s8 == 2) then some 200 else some 300)))
set_option maxHeartbeats 4000000 in
theorem VM {M : Nat → Prop} {w : World} {pa0 : Option Addr} {pn0 pc0 : Nat} (a_ : Int × (List (Int × (List Int)))) (h0 : (RT.rs (RT.pr ri rl)).val M w (.slice pa0 pn0 pc0) a_.2 ([])) (hM : ∀ g, w.heap.size ≤ g → M g) {r : Int} (hs : YG a_ = some r) :
    Gives Try.prog 69 [(.agg #[(iv a_.1), (.slice pa0 pn0 pc0)])] w (fun v w' => v = (iv r) ∧ Chg [] w w') := by
 refine zr Try.func69 rfl Try.ntmps69 (Nat.le_of_ble_eq_true rfl) ?_
 have hO := Own.start (N := Nw w []) hM Nw.fut
 have hC := Chg.refl [] w
 unfold YG at hs
 refine wp_k (K := (wJ M w r)) (by rintro _ _ ⟨σ, rfl, hrest⟩; exact Zh Try.results69 (zB rfl) ⟨rfl, hrest⟩) (c_sr ?_)
 obtain ⟨b3, a2, b4, a9, a4, a0⟩ := zi w [(iv a_.1), (.slice pa0 pn0 pc0)] 35
 refine za (w' := b3) (pq a2 0) (ZW rfl (by rw [b4, a9]; kernel_rfl)) ?_
 obtain ⟨h0, hC⟩ := xt2 a4 h0 hC
 have hO := hO.new1 a4 a9 a0.lt
 refine ai rfl (zb (c_sr (ai rfl (zb (zd (c_sr (ai rfl (zb ?_))))))))
 obtain ⟨o12, b5, hs⟩ := bind_some hs
 refine wp_block (zW (id := 0) (a_.2.length : Int) (I := fun k10 s8 a a1 => ∃ (σ : Nat → Value), a = fr 25 (ovl σ [(1, (pq a2 0)), (3, (iv s8)), (4, (iv k10))]) ∧ Chg [] w a1 ∧ Own (Nw w []) M a1 (([a2]) ++ []) ∧ (RT.rs (RT.pr ri rl)).val M a1 (.slice pa0 pn0 pc0) a_.2 ([]) ∧ BoxV a1 a2 35 [(iv a_.1), (.slice pa0 pn0 pc0)]) (J := fun s8 a a1 => ∃ (σ : Nat → Value), a = fr 25 (ovl σ [(3, (iv s8))]) ∧ Chg [] w a1 ∧ Own (Nw w []) M a1 (([a2]) ++ []) ∧ (RT.rs (RT.pr ri rl)).val M a1 (.slice pa0 pn0 pc0) a_.2 ([]) ∧ BoxV a1 a2 35 [(iv a_.1), (.slice pa0 pn0 pc0)]) (K := (wJ M w)) ?_ ?_ 0 0 o12 _ _ ?_ b5 ?_)
 ·rintro k10 s8 a a1 ⟨σ, rfl, hC, hO, h0, a0⟩ hlt
  refine zd (c_sr (mi rfl (za (pq a2 1) (zk rfl ZD) (za _ (ld rfl Ag33 Sz33 a0 rfl) (za _ (zn Sl33 (zu h0) rfl) (za _ (zx rfl rfl) (zb (zh (cb (decide_eq_false hlt)) (wp_exit ?_)))))))))
  exact ⟨rfl, _, fr_m 25 rfl, hC, hO, h0, a0⟩
 ·rintro k10 s8 o12 a a1 ⟨σ, rfl, hC, hO, h0, a0⟩ hlt hw hs
  refine zd (c_sr (mi rfl (za (pq a2 1) (zk rfl ZD) (za _ (ld rfl Ag33 Sz33 a0 rfl) (za _ (zn Sl33 (zu h0) rfl) (za _ (zx rfl rfl) (zb (zg (cb (decide_eq_true hlt)) (wp_skip (zd (wp_block (ze (mi rfl (za (pq a2 1) (zk rfl ZD) (za _ (ld rfl Ag33 Sz33 a0 rfl) (mi rfl ?_))))))))))))))))
  obtain ⟨x14, b6, hs⟩ := bind_some hs
  obtain ⟨b0, b1, b7, a5⟩ := zN Sl33 Sz89 h0 b6
  refine za _ (b7 _ _ _ _ _ _ _ _ _ rfl rfl) ?_
  obtain ⟨a6, _⟩ := wF a5
  refine za (.pointer (some ⟨b0, b1 + 0, none⟩)) (zk rfl yM) (za (iv x14.1) (zo rfl ((zz Ag3 Sz3 a6) _ (Chg.refl _ _))) ?_)
  obtain ⟨r18, b8, hs⟩ := bind_some hs
  refine zy Bd107 rfl (ub (M := M) s8 x14.1  hO.fut b8) ?_
  rintro _ c0 ⟨rfl, a3⟩
  obtain ⟨h0, a0, a5, a6, hC, hO⟩ := xt6 a3 h0 a0 a5 a6 hC hO
  refine ai rfl (zb (ze (mi rfl (za _ (yad rfl rfl) (ai rfl (zb ?_))))))
  cases hs
  exact ⟨_, zD 25 ⟨rfl, rfl, congrArg (Value.int .i64) hw, trivial⟩, hC, hO, h0, a0⟩
 ·skip
  exact ⟨_, fr_m 25 rfl, hC, hO, h0, a0⟩
 cases o12 with
 | nx _ => exact True.intro
 | rt r_ =>
  have hs := zp hs
  intro b9 b2 hK
  cases hs
  exact hK
 | br s8 =>
  have hs := zq hs
  rintro b9 a1 ⟨σ, rfl, hC, hO, h0, a0⟩
  refine zd (c_sr (mi rfl (zb (wp_block (c_sr (za (.bool (s8 == 3)) (xz rfl rfl) (ab rfl (zb ?_))))))))
  rcases zf hs with ⟨a7, hs⟩ | ⟨a7, hs⟩
  ·refine zg (cb a7) (c_sr (ai rfl (zb (wp_ret ?_))))
   cases hs
   exact ⟨_, fr_m 25 rfl, hC⟩
  refine zh (cb a7) (c_sr (za (.bool (s8 == 2)) (xz rfl rfl) (ab rfl (zb ?_))))
  rcases zf hs with ⟨a8, hs⟩ | ⟨a8, hs⟩
  ·refine zg (cb a8) (c_sr (ai rfl (zb (wp_ret ?_))))
   cases hs
   exact ⟨_, fr_m 25 rfl, hC⟩
  refine zh (cb a8) (wp_skip (c_sr (ai rfl (zb (wp_ret ?_)))))
  cases hs
  exact ⟨_, fr_m 25 rfl, hC⟩

def uQ (M : Nat → Prop) (w0 : World) (r : (List Int)) (a : Act) (w : World) : Prop :=
  ∃ (σ : Nat → Value) (ra0 : Option Addr) (rn0 rc0 : Nat) (rf0 : List Nat), a = fr 6 (ovl σ [(2, (.slice ra0 rn0 rc0))]) ∧ Chg [] w0 w ∧ (RT.os 3 (RT.int .i64)).val M w (.slice ra0 rn0 rc0) r rf0 ∧ Own (Nw w0 []) (fun _ => True) w (rf0 ++ ([]))
def yR (l : List Int) : Option ((List Int)) :=
  (app ([]) l).bind fun y5 =>
  some y5
set_option maxHeartbeats 4000000 in
theorem XT {M : Nat → Prop} {w : World} {pa0 : Option Addr} {pn0 pc0 : Nat} (l : List Int) (h0 : rl.val M w (.slice pa0 pn0 pc0) l ([])) (hM : ∀ g, w.heap.size ≤ g → M g) {r : (List Int)} (hs : yR l = some r) :
    Gives Try.prog 54 [(.slice pa0 pn0 pc0)] w (fun v w' => ∃ (ra0 : Option Addr) (rn0 rc0 : Nat) (rf0 : List Nat), v = (.slice ra0 rn0 rc0) ∧ Chg [] w w' ∧ (RT.os 3 ri).val M w' (.slice ra0 rn0 rc0) r rf0 ∧ Own (Nw w []) (fun _ => True) w' (rf0 ++ ([]))) := by
 refine zr Try.func54 rfl Try.ntmps54 (Nat.le_of_ble_eq_true rfl) ?_
 have hO := Own.start (N := Nw w []) hM Nw.fut
 have hC := Chg.refl [] w
 unfold yR at hs
 refine wp_k (K := (uQ M w r)) (by rintro _ _ ⟨σ, ra0, rn0, rc0, rf0, rfl, hrest⟩; exact Zh Try.results54 (zB rfl) ⟨ra0, rn0, rc0, rf0, rfl, hrest⟩) (c_sr (ax rfl (zb (c_sr ?_))))
 obtain ⟨a8, a1, b2, a9, a2, b0⟩ := zi w [] 3
 refine za (w' := a8) (.slice (some ⟨a1, 0, none⟩) 0 0) (zG rfl (by rw [b2, a9]; kernel_rfl)) ?_
 obtain ⟨h0, hC⟩ := xt2 a2 h0 hC
 have hO := hO.new1 a2 a9 b0.lt
 have a0 := os0 (r := ri) (M := M) b0
 refine ms rfl ?_
 obtain ⟨y5, b3, hs⟩ := bind_some hs
 obtain ⟨a3, a4, a5, b4, b5, b6, a6, b7, a7⟩ := Xn Rw43 b3 a0 h0 hO.inM
 have b1 := zA a0
 refine za (w' := b4) (.slice a3 a4 a5) (zU rfl rfl (b6 _)) ?_
 have h0 := h0.mt a6 hO b1
 have hC := hC.st a6 hO b1
 have hO := hO.grow a6 b7 (zw a7) a7.fpl
 refine ax rfl (zb (wp_ret ?_))
 cases hs
 exact ⟨_, a3, a4, a5, b5, fr_m 6 rfl, hC, a7, hO.top⟩

def xS (M : Nat → Prop) (w0 : World) (r : (List Int)) (a : Act) (w : World) : Prop :=
  ∃ (σ : Nat → Value) (ra0 : Option Addr) (rn0 rc0 : Nat) (rf0 : List Nat), a = fr 50 (ovl σ [(8, (.slice ra0 rn0 rc0))]) ∧ Chg [] w0 w ∧ (RT.os 3 (RT.int .i64)).val M w (.slice ra0 rn0 rc0) r rf0 ∧ Own (Nw w0 []) (fun _ => True) w (rf0 ++ ([]))
def zM (a_ : Int × (List (Int × (List Int)))) (op : Int) (tuples : List (List Int)) (k : Int) : Option ((List Int)) :=
  (forC (S := (List Int)) (R := (List Int)) (fun k42 s40 =>
  (forC (S := Int) (R := (List Int)) (fun k59 s57 =>
  (idx tuples k59).bind fun x64 =>
  (idx x64 k42).bind fun x68 =>
  some (.nx (w64 ((w64 (s57 * a_.1)) + x68)))) 0 (tuples.length : Int) 0).bind fun o61 => after o61 (fun r_ => some (.rt r_)) (fun s57 =>
  (idx a_.2 op).bind fun x70 =>
  (idx x70.2 s57).bind fun x75 =>
  (app s40 ([x75])).bind fun y80 =>
  some (.nx y80))) 0 k ([])).bind fun o44 => after o44 (fun r_ => some r_) (fun s40 =>
  some s40)
set_option maxHeartbeats 4000000 in
theorem xh {M : Nat → Prop} {w : World} {pa0 : Option Addr} {pn0 pc0 : Nat} {pa1 : Option Addr} {pn1 pc1 : Nat} (a_ : Int × (List (Int × (List Int)))) (op : Int) (tuples : List (List Int)) (k : Int) (h0 : (RT.rs (RT.pr ri rl)).val M w (.slice pa0 pn0 pc0) a_.2 ([])) (h1 : (RT.rs rl).val M w (.slice pa1 pn1 pc1) tuples ([])) (hM : ∀ g, w.heap.size ≤ g → M g) {r : (List Int)} (hs : zM a_ op tuples k = some r) :
    Gives Try.prog 70 [(.agg #[(iv a_.1), (.slice pa0 pn0 pc0)]), (iv op), (.slice pa1 pn1 pc1), (iv k)] w (fun v w' => ∃ (ra0 : Option Addr) (rn0 rc0 : Nat) (rf0 : List Nat), v = (.slice ra0 rn0 rc0) ∧ Chg [] w w' ∧ (RT.os 3 ri).val M w' (.slice ra0 rn0 rc0) r rf0 ∧ Own (Nw w []) (fun _ => True) w' (rf0 ++ ([]))) := by
 refine zr Try.func70 rfl Try.ntmps70 (Nat.le_of_ble_eq_true rfl) ?_
 have hO := Own.start (N := Nw w []) hM Nw.fut
 have hC := Chg.refl [] w
 unfold zM at hs
 refine wp_k (K := (xS M w r)) (by rintro _ _ ⟨σ, ra0, rn0, rc0, rf0, rfl, hrest⟩; exact Zh Try.results70 (zB rfl) ⟨ra0, rn0, rc0, rf0, rfl, hrest⟩) (c_sr ?_)
 obtain ⟨d2, a3, e3, d3, b9, a0⟩ := zi w [(iv a_.1), (.slice pa0 pn0 pc0)] 35
 refine za (w' := d2) (pq a3 0) (ZW rfl (by rw [e3, d3]; kernel_rfl)) ?_
 obtain ⟨h0, h1, hC⟩ := xt3 b9 h0 h1 hC
 have hO := hO.new1 b9 d3 a0.lt
 refine ax rfl (zb (c_sr ?_))
 obtain ⟨d4, b1, e4, d5, b7, d6⟩ := zi d2 [] 3
 refine za (w' := d4) (.slice (some ⟨b1, 0, none⟩) 0 0) (zG rfl (by rw [e4, d5]; kernel_rfl)) ?_
 obtain ⟨h0, h1, a0, hC⟩ := xt4 b7 h0 h1 a0 hC
 have hO := hO.new1 b7 d5 d6.lt
 have c1 := os0 (r := ri) (M := M) d6
 refine ax rfl (zb (zd (c_sr (ai rfl (zb ?_)))))
 obtain ⟨o44, e5, hs⟩ := bind_some hs
 refine wp_block (zW (id := 0) k (I := fun k42 s40 a a2 => ∃ (σ : Nat → Value) (a5 : Option Addr) (a6 : Nat) (a7 : Nat) (a8 : List Nat), a = fr 50 (ovl σ [(1, (iv op)), (2, (.slice pa1 pn1 pc1)), (3, (iv k)), (4, (pq a3 0)), (9, (.slice a5 a6 a7)), (10, (iv k42))]) ∧ Chg [] w a2 ∧ Own (Nw w []) M a2 (a8 ++ (([a3]) ++ [])) ∧ (RT.rs (RT.pr ri rl)).val M a2 (.slice pa0 pn0 pc0) a_.2 ([]) ∧ (RT.rs rl).val M a2 (.slice pa1 pn1 pc1) tuples ([]) ∧ BoxV a2 a3 35 [(iv a_.1), (.slice pa0 pn0 pc0)] ∧ (RT.os 3 ri).val M a2 (.slice a5 a6 a7) s40 a8) (J := fun s40 a a2 => ∃ (σ : Nat → Value) (b2 : Option Addr) (b3 : Nat) (b4 : Nat) (c0 : List Nat), a = fr 50 (ovl σ [(9, (.slice b2 b3 b4))]) ∧ Chg [] w a2 ∧ Own (Nw w []) M a2 (c0 ++ (([a3]) ++ [])) ∧ (RT.rs (RT.pr ri rl)).val M a2 (.slice pa0 pn0 pc0) a_.2 ([]) ∧ (RT.rs rl).val M a2 (.slice pa1 pn1 pc1) tuples ([]) ∧ BoxV a2 a3 35 [(iv a_.1), (.slice pa0 pn0 pc0)] ∧ (RT.os 3 ri).val M a2 (.slice b2 b3 b4) s40 c0) (K := (xS M w)) ?_ ?_ 0 ([]) o44 _ _ ?_ e5 ?_)
 ·rintro k42 s40 a a2 ⟨σ, a5, a6, a7, a8, rfl, hC, hO, h0, h1, a0, a4⟩ hlt
  refine zd (c_sr (mi rfl (mi rfl (za _ (zx rfl rfl) (zb (zh (cb (decide_eq_false hlt)) (wp_exit ?_)))))))
  have hO := hO.fr1.fr1
  exact ⟨rfl, _, a5, a6, a7, a8, fr_m 50 rfl, hC, hO, h0, h1, a0, a4⟩
 ·rintro k42 s40 o44 a a2 ⟨σ, a5, a6, a7, a8, rfl, hC, hO, h0, h1, a0, a4⟩ hlt hw hs
  refine zd (c_sr (mi rfl (mi rfl (za _ (zx rfl rfl) (zb (zg (cb (decide_eq_true hlt)) (wp_skip (zd (wp_block (c_sr (ai rfl (zb (zd (c_sr (ai rfl (zb ?_))))))))))))))))
  obtain ⟨o61, e6, hs⟩ := bind_some hs
  refine wp_block (zW (id := 2) (tuples.length : Int) (I := fun k59 s57 a a1 => ∃ (σ : Nat → Value), a = fr 50 (ovl σ [(1, (iv op)), (2, (.slice pa1 pn1 pc1)), (3, (iv k)), (4, (pq a3 0)), (9, (.slice a5 a6 a7)), (10, (iv k42)), (11, (iv s57)), (12, (iv k59))]) ∧ Chg [] w a1 ∧ Own (Nw w []) M a1 (a8 ++ (([a3]) ++ [])) ∧ (RT.rs (RT.pr ri rl)).val M a1 (.slice pa0 pn0 pc0) a_.2 ([]) ∧ (RT.rs rl).val M a1 (.slice pa1 pn1 pc1) tuples ([]) ∧ BoxV a1 a3 35 [(iv a_.1), (.slice pa0 pn0 pc0)] ∧ (RT.os 3 ri).val M a1 (.slice a5 a6 a7) s40 a8) (J := fun s57 a a1 => ∃ (σ : Nat → Value), a = fr 50 (ovl σ [(1, (iv op)), (2, (.slice pa1 pn1 pc1)), (3, (iv k)), (4, (pq a3 0)), (9, (.slice a5 a6 a7)), (10, (iv k42)), (11, (iv s57))]) ∧ Chg [] w a1 ∧ Own (Nw w []) M a1 (a8 ++ (([a3]) ++ [])) ∧ (RT.rs (RT.pr ri rl)).val M a1 (.slice pa0 pn0 pc0) a_.2 ([]) ∧ (RT.rs rl).val M a1 (.slice pa1 pn1 pc1) tuples ([]) ∧ BoxV a1 a3 35 [(iv a_.1), (.slice pa0 pn0 pc0)] ∧ (RT.os 3 ri).val M a1 (.slice a5 a6 a7) s40 a8) (K := (xS M w)) ?_ ?_ 0 0 o61 _ _ ?_ e6 ?_)
  ·rintro k59 s57 a a1 ⟨σ, rfl, hC, hO, h0, h1, a0, a4⟩ hlt
   refine zd (c_sr (mi rfl (ms rfl (za _ (zn Sl25 (zu h1) rfl) (za _ (zx rfl rfl) (zb (zh (cb (decide_eq_false hlt)) (wp_exit ?_))))))))
   have hO := hO.fr1.fr1
   exact ⟨rfl, _, fr_m 50 rfl, hC, hO, h0, h1, a0, a4⟩
  ·rintro k59 s57 o61 a a1 ⟨σ, rfl, hC, hO, h0, h1, a0, a4⟩ hlt hw hs
   refine zd (c_sr (mi rfl (ms rfl (za _ (zn Sl25 (zu h1) rfl) (za _ (zx rfl rfl) (zb (zg (cb (decide_eq_true hlt)) (wp_skip (zd (wp_block (Ze [] Mx rfl ?_)))))))))))
   have b0 := Chg.drew a1
   generalize World.drew a1 = e7 at b0 ⊢
   obtain ⟨h0, h1, a0, a4, hC, hO⟩ := xt6 b0 h0 h1 a0 a4 hC hO
   have hS := Chg.refl [] e7
   refine xmi 0 rfl rfl hS (xq 1 (pq a3 0) rfl (zk rfl Yo) hS (xl 2 rfl (ldx rfl Ag3 Sz3 a0 rfl) hS (xq 3 _ rfl (ymu rfl rfl) hS (xms 4 rfl rfl hS (xmi 5 rfl rfl hS ?_)))))
   obtain ⟨x64, e8, hs⟩ := bind_some hs
   obtain ⟨e9, f0, f1, f2⟩ := zN Sl25 Sz43 h1 e8
   refine xq 6 _ rfl (f1 _ _ _ _ _ _ _ _ _ rfl rfl) hS ?_
   obtain ⟨i2, f3, d7⟩ := Zj Ag43 Sz43 (fun _ => rfl) f2
   obtain ⟨f4, f5, f6, rfl⟩ := yd d7
   refine x_l 7 (.slice f4 f5 f6) rfl (by kernel_rfl)  (fun w' hw' => zo rfl (f3 w' hw')) hS (xmi 8 rfl rfl hS ?_)
   obtain ⟨x68, f7, hs⟩ := bind_some hs
   obtain ⟨f8, f9, g0, g1⟩ := zN Sl43 Sz3 d7 f7
   refine xq 9 _ rfl (g0 _ _ _ _ _ _ _ _ _ rfl rfl) hS (x_l 10 (iv x68) rfl (by kernel_rfl)  (fun w' hw' => zo rfl ((zz Ag3 Sz3 g1) w' hw')) hS (xq 11 _ rfl (yad rfl rfl) hS (xq 12 (iv (w64 ((w64 (s57 * a_.1)) + x68))) rfl (zE rfl) hS (Zc (by kernel_rfl) ?_))))
   clear hS
   refine ze (mi rfl (za _ (yad rfl rfl) (ai rfl (zb ?_))))
   cases hs
   have hO := hO.fr1.fr1
   exact ⟨_, zD 50 ⟨rfl, rfl, rfl, rfl, rfl, rfl, rfl, congrArg (Value.int .i64) hw, trivial⟩, hC, hO, h0, h1, a0, a4⟩
  ·skip
   have hO := hO.fr1.fr1
   exact ⟨_, fr_m 50 rfl, hC, hO, h0, h1, a0, a4⟩
  cases o61 with
  | nx _ => exact True.intro
  | rt r_ =>
   have hs := zp hs
   intro c2 d1 hK
   cases hs
   exact hK
  | br s57 =>
   have hs := zq hs
   rintro c2 a1 ⟨σ, rfl, hC, hO, h0, h1, a0, a4⟩
   refine ze (ms rfl (za (pq a3 1) (zk rfl ZD) (za _ (ld rfl Ag33 Sz33 a0 rfl) (mi rfl ?_))))
   obtain ⟨x70, g2, hs⟩ := bind_some hs
   obtain ⟨d8, d9, g3, c3⟩ := zN Sl33 Sz89 h0 g2
   refine za _ (g3 _ _ _ _ _ _ _ _ _ rfl rfl) ?_
   obtain ⟨_, g4⟩ := wF c3
   refine za (.pointer (some ⟨d8, d9 + 1, none⟩)) (zk rfl xE) ?_
   obtain ⟨i3, g5, b5⟩ := Zj Ag43 Sz43 (fun _ => rfl) g4
   obtain ⟨g6, g7, g8, rfl⟩ := yd b5
   refine za (.slice g6 g7 g8) (zo rfl (g5 _ (Chg.refl _ _))) (mi rfl ?_)
   obtain ⟨x75, g9, hs⟩ := bind_some hs
   obtain ⟨h2, h3, h4, c4⟩ := zN Sl43 Sz3 b5 g9
   refine za _ (h4 _ _ _ _ _ _ _ _ _ rfl rfl) (za (iv x75) (zo rfl ((zz Ag3 Sz3 c4) _ (Chg.refl _ _))) ?_)
   obtain ⟨e0, c5, h5, e1, a9, e2⟩ := zi a1 [(iv x75)] 3
   refine za (w' := e0) (.slice (some ⟨c5, 0, none⟩) 1 1) (zG rfl (by rw [h5, e1]; kernel_rfl)) ?_
   obtain ⟨h0, h1, a0, a4, b5, c3, c4, hC⟩ := xt8 a9 h0 h1 a0 a4 b5 c3 c4 hC
   have hO := hO.new1 a9 e1 e2.lt
   have c6 := zT (r := ri) (M := M) (css := [[(iv x75)]]) (fps := [([] : List Nat)]) (xs := ([x75] : List Int)) e2 ⟨⟨rfl, rfl⟩, trivial⟩ (Nat.le_of_ble_eq_true rfl) (List.nodup_cons.2 ⟨(fun h => nomatch h), List.nodup_nil⟩)
   have c6 : (RT.os 3 ri).val M e0 (.slice (some ⟨c5, 0, none⟩) 1 1) [x75] [c5] := c6
   obtain ⟨y80, h6, hs⟩ := bind_some hs
   have hO := hO.fr1
   obtain ⟨c7, c8, c9, h7, h8, h9, b6, i0, d0⟩ := Yc Rw43 h6 a4 c6 hO.inM (fun g hg hq => hO.apart g hq (zm hg))
   have b8 := zA a4
   refine za (w' := h7) (.slice c7 c8 c9) (zU rfl rfl (h9 _)) ?_
   have hO := hO.fr1.fr1
   have h0 := h0.mt b6 hO b8
   have h1 := h1.mt b6 hO b8
   have a0 := a0.ap b6 hO b8 (zl (zm (List.mem_singleton.2 rfl)))
   have b5 := b5.mt b6 hO b8
   have hC := hC.st b6 hO b8
   have hO := hO.eat b6 i0 (zw d0) d0.fpl
   refine ax rfl (zb (ze (mi rfl (za _ (yad rfl rfl) (ai rfl (zb ?_))))))
   cases hs
   have hO := hO.fr1.fr1
   exact ⟨_, c7, c8, c9, h8, zD 50 ⟨rfl, rfl, rfl, rfl, rfl, congrArg (Value.int .i64) hw, trivial⟩, hC, hO, h0, h1, a0, d0⟩
 ·skip
  have hO := hO.fr1.fr1
  exact ⟨_, (some ⟨b1, 0, none⟩), 0, 0, ([b1]), fr_m 50 rfl, hC, hO, h0, h1, a0, c1⟩
 cases o44 with
 | nx _ => exact True.intro
 | rt r_ =>
  have hs := zp hs
  intro c2 d1 hK
  cases hs
  exact hK
 | br s40 =>
  have hs := zq hs
  rintro c2 a2 ⟨σ, b2, b3, b4, c0, rfl, hC, hO, h0, h1, a0, i1⟩
  refine c_sr (ms rfl (ax rfl (zb (wp_ret ?_))))
  cases hs
  have hO := hO.fr1.drop
  exact ⟨_, b2, b3, b4, c0, fr_m 50 rfl, hC, i1, hO.top⟩

def wS (M : Nat → Prop) (w0 : World) (r : Bool) (a : Act) (w : World) : Prop :=
  ∃ (σ : Nat → Value) , a = fr 30 (ovl σ [(4, (.bool r))]) ∧ Chg [] w0 w
def yA (a_ : List Int) (b : List Int) : Option (Bool) :=
  (forC (S := Unit) (R := Bool) (fun k21 s19 =>
  (idx a_ k21).bind fun x31 =>
  (idx b k21).bind fun x33 =>
  (bif (x31 != x33) then (idx a_ k21).bind fun x37 =>
  (idx b k21).bind fun x39 =>
  some (.rt (decide (x37 < x39))) else some (.nx ()))) 0 (a_.length : Int) ()).bind fun o23 => after o23 (fun r_ => some r_) (fun s19 =>
  some false)
set_option maxHeartbeats 4000000 in
theorem wI {M : Nat → Prop} {w : World} {pa0 : Option Addr} {pn0 pc0 : Nat} {pa1 : Option Addr} {pn1 pc1 : Nat} (a_ : List Int) (b : List Int) (h0 : rl.val M w (.slice pa0 pn0 pc0) a_ ([])) (h1 : rl.val M w (.slice pa1 pn1 pc1) b ([])) (hM : ∀ g, w.heap.size ≤ g → M g) {r : Bool} (hs : yA a_ b = some r) :
    Gives Try.prog 85 [(.slice pa0 pn0 pc0), (.slice pa1 pn1 pc1)] w (fun v w' => v = (.bool r) ∧ Chg [] w w') := by
 refine zr Try.func85 rfl Try.ntmps85 (Nat.le_of_ble_eq_true rfl) ?_
 have hO := Own.start (N := Nw w []) hM Nw.fut
 have hC := Chg.refl [] w
 unfold yA at hs
 refine wp_k (K := (wS M w r)) (by rintro _ _ ⟨σ, rfl, hrest⟩; exact Zh Try.results85 (zB rfl) ⟨rfl, hrest⟩) (c_sr (ab rfl (zb (zd (c_sr (ai rfl (zb ?_)))))))
 obtain ⟨o23, a8, hs⟩ := bind_some hs
 refine wp_block (zW (id := 0) (a_.length : Int) (I := fun k21 s19 a a0 => ∃ (σ : Nat → Value), a = fr 30 (ovl σ [(0, (.slice pa0 pn0 pc0)), (1, (.slice pa1 pn1 pc1)), (5, (iv k21))]) ∧ Chg [] w a0 ∧ Own (Nw w []) M a0 ([]) ∧ rl.val M a0 (.slice pa0 pn0 pc0) a_ ([]) ∧ rl.val M a0 (.slice pa1 pn1 pc1) b ([])) (J := fun s19 a a0 => ∃ (σ : Nat → Value), a = fr 30 (ovl σ []) ∧ Chg [] w a0 ∧ Own (Nw w []) M a0 ([]) ∧ rl.val M a0 (.slice pa0 pn0 pc0) a_ ([]) ∧ rl.val M a0 (.slice pa1 pn1 pc1) b ([])) (K := (wS M w)) ?_ ?_ 0 () o23 _ _ ?_ a8 ?_)
 ·rintro k21 s19 a a0 ⟨σ, rfl, hC, hO, h0, h1⟩ hlt
  refine zd (c_sr (mi rfl (ms rfl (za _ (zn Sl43 (zu h0) rfl) (za _ (zx rfl rfl) (zb (zh (cb (decide_eq_false hlt)) (wp_exit ?_))))))))
  exact ⟨rfl, _, zD 30 trivial, hC, hO, h0, h1⟩
 ·rintro k21 s19 o23 a a0 ⟨σ, rfl, hC, hO, h0, h1⟩ hlt hw hs
  refine zd (c_sr (mi rfl (ms rfl (za _ (zn Sl43 (zu h0) rfl) (za _ (zx rfl rfl) (zb (zg (cb (decide_eq_true hlt)) (wp_skip (zd (wp_block (zd (Ze [] Mx rfl ?_))))))))))))
  have a2 := Chg.drew a0
  generalize World.drew a0 = a3 at a2 ⊢
  obtain ⟨h0, h1, hC, hO⟩ := xt4 a2 h0 h1 hC hO
  have hS := Chg.refl [] a3
  refine xms 0 rfl rfl hS (xmi 1 rfl rfl hS ?_)
  obtain ⟨x31, a9, hs⟩ := bind_some hs
  obtain ⟨b0, b1, b2, a4⟩ := zN Sl43 Sz3 h0 a9
  refine xq 2 _ rfl (b2 _ _ _ _ _ _ _ _ _ rfl rfl) hS (x_l 3 (iv x31) rfl (by kernel_rfl)  (fun w' hw' => zo rfl ((zz Ag3 Sz3 a4) w' hw')) hS (xms 4 rfl rfl hS (xmi 5 rfl rfl hS ?_)))
  obtain ⟨x33, b3, hs⟩ := bind_some hs
  obtain ⟨b4, b5, b6, a5⟩ := zN Sl43 Sz3 h1 b3
  refine xq 6 _ rfl (b6 _ _ _ _ _ _ _ _ _ rfl rfl) hS (x_l 7 (iv x33) rfl (by kernel_rfl)  (fun w' hw' => zo rfl ((zz Ag3 Sz3 a5) w' hw')) hS (xq 8 (.bool (x31 != x33)) rfl (xk rfl rfl) hS (Zc (by kernel_rfl) ?_)))
  clear hS
  rcases zf hs with ⟨a6, hs⟩ | ⟨a6, hs⟩
  ·refine zg (cb a6) (zd (Ze [] Mx rfl ?_))
   have a1 := Chg.drew a3
   generalize World.drew a3 = b7 at a1 ⊢
   obtain ⟨h0, h1, a4, a5, hC, hO⟩ := xt6 a1 h0 h1 a4 a5 hC hO
   have hS := Chg.refl [] b7
   refine xms 0 rfl rfl hS (xmi 1 rfl rfl hS ?_)
   obtain ⟨x37, b8, hs⟩ := bind_some hs
   obtain ⟨b9, c0, c1, c2⟩ := zN Sl43 Sz3 h0 b8
   refine xq 2 _ rfl (c1 _ _ _ _ _ _ _ _ _ rfl rfl) hS (x_l 3 (iv x37) rfl (by kernel_rfl)  (fun w' hw' => zo rfl ((zz Ag3 Sz3 c2) w' hw')) hS (xms 4 rfl rfl hS (xmi 5 rfl rfl hS ?_)))
   obtain ⟨x39, c3, hs⟩ := bind_some hs
   obtain ⟨c4, c5, c6, c7⟩ := zN Sl43 Sz3 h1 c3
   refine xq 6 _ rfl (c6 _ _ _ _ _ _ _ _ _ rfl rfl) hS (x_l 7 (iv x39) rfl (by kernel_rfl)  (fun w' hw' => zo rfl ((zz Ag3 Sz3 c7) w' hw')) hS (xq 8 _ rfl (zx rfl rfl) hS (xq 9 (.bool (decide (x37 < x39))) rfl (zE rfl) hS (Zc (by kernel_rfl) ?_))))
   clear hS
   refine wp_ret ?_
   cases hs
   exact ⟨_, fr_m 30 rfl, hC⟩
  refine zh (cb a6) (wp_skip (ze (mi rfl (za _ (yad rfl rfl) (ai rfl (zb ?_))))))
  cases hs
  exact ⟨_, zD 30 ⟨rfl, rfl, congrArg (Value.int .i64) hw, trivial⟩, hC, hO, h0, h1⟩
 ·skip
  exact ⟨_, fr_m 30 rfl, hC, hO, h0, h1⟩
 cases o23 with
 | nx _ => exact True.intro
 | rt r_ =>
  have hs := zp hs
  intro c8 a7 hK
  cases hs
  exact hK
 | br s19 =>
  have hs := zq hs
  rintro c8 a0 ⟨σ, rfl, hC, hO, h0, h1⟩
  refine c_sr (ab rfl (zb (wp_ret ?_)))
  cases hs
  exact ⟨_, fr_m 30 rfl, hC⟩

def wU (M : Nat → Prop) (w0 : World) (r : Bool) (a : Act) (w : World) : Prop :=
  ∃ (σ : Nat → Value) , a = fr 26 (ovl σ [(4, (.bool r))]) ∧ Chg [] w0 w
def Yj (a_ : List Int) (b : List Int) : Option (Bool) :=
  (bif ((a_.length : Int) != (b.length : Int)) then some false else (forC (S := Unit) (R := Bool) (fun k12 s10 =>
  (idx a_ k12).bind fun x17 =>
  (idx b k12).bind fun x19 =>
  (bif (x17 != x19) then some (.rt false) else some (.nx ()))) 0 (a_.length : Int) ()).bind fun o14 => after o14 (fun r_ => some r_) (fun s10 =>
  some true))
set_option maxHeartbeats 4000000 in
theorem VZ {M : Nat → Prop} {w : World} {pa0 : Option Addr} {pn0 pc0 : Nat} {pa1 : Option Addr} {pn1 pc1 : Nat} (a_ : List Int) (b : List Int) (h0 : rl.val M w (.slice pa0 pn0 pc0) a_ ([])) (h1 : rl.val M w (.slice pa1 pn1 pc1) b ([])) (hM : ∀ g, w.heap.size ≤ g → M g) {r : Bool} (hs : Yj a_ b = some r) :
    Gives Try.prog 50 [(.slice pa0 pn0 pc0), (.slice pa1 pn1 pc1)] w (fun v w' => v = (.bool r) ∧ Chg [] w w') := by
 refine zr Try.func50 rfl Try.ntmps50 (Nat.le_of_ble_eq_true rfl) ?_
 have hO := Own.start (N := Nw w []) hM Nw.fut
 have hC := Chg.refl [] w
 unfold Yj at hs
 refine wp_k (K := (wU M w r)) (by rintro _ _ ⟨σ, rfl, hrest⟩; exact Zh Try.results50 (zB rfl) ⟨rfl, hrest⟩) (c_sr (ab rfl (zb (zd (c_sr (ms rfl (za _ (zn Sl43 (zu h0) rfl) (ms rfl (za _ (zn Sl43 (zu h1) rfl) (za (.bool ((a_.length : Int) != (b.length : Int))) (xk rfl rfl) (zb ?_)))))))))))
 rcases zf hs with ⟨a2, hs⟩ | ⟨a2, hs⟩
 ·refine zg (cb a2) (c_sr (ab rfl (zb (wp_ret ?_))))
  cases hs
  exact ⟨_, fr_m 26 rfl, hC⟩
 refine zh (cb a2) (wp_skip (zd (c_sr (ai rfl (zb ?_)))))
 obtain ⟨o14, a5, hs⟩ := bind_some hs
 refine wp_block (zW (id := 0) (a_.length : Int) (I := fun k12 s10 a a0 => ∃ (σ : Nat → Value), a = fr 26 (ovl σ [(0, (.slice pa0 pn0 pc0)), (1, (.slice pa1 pn1 pc1)), (5, (iv k12))]) ∧ Chg [] w a0 ∧ Own (Nw w []) M a0 ([]) ∧ rl.val M a0 (.slice pa0 pn0 pc0) a_ ([]) ∧ rl.val M a0 (.slice pa1 pn1 pc1) b ([])) (J := fun s10 a a0 => ∃ (σ : Nat → Value), a = fr 26 (ovl σ []) ∧ Chg [] w a0 ∧ Own (Nw w []) M a0 ([]) ∧ rl.val M a0 (.slice pa0 pn0 pc0) a_ ([]) ∧ rl.val M a0 (.slice pa1 pn1 pc1) b ([])) (K := (wU M w)) ?_ ?_ 0 () o14 _ _ ?_ a5 ?_)
 ·rintro k12 s10 a a0 ⟨σ, rfl, hC, hO, h0, h1⟩ hlt
  refine zd (c_sr (mi rfl (ms rfl (za _ (zn Sl43 (zu h0) rfl) (za _ (zx rfl rfl) (zb (zh (cb (decide_eq_false hlt)) (wp_exit ?_))))))))
  exact ⟨rfl, _, zD 26 trivial, hC, hO, h0, h1⟩
 ·rintro k12 s10 o14 a a0 ⟨σ, rfl, hC, hO, h0, h1⟩ hlt hw hs
  refine zd (c_sr (mi rfl (ms rfl (za _ (zn Sl43 (zu h0) rfl) (za _ (zx rfl rfl) (zb (zg (cb (decide_eq_true hlt)) (wp_skip (zd (wp_block (zd (Ze [] Mx rfl ?_))))))))))))
  have a1 := Chg.drew a0
  generalize World.drew a0 = a6 at a1 ⊢
  obtain ⟨h0, h1, hC, hO⟩ := xt4 a1 h0 h1 hC hO
  have hS := Chg.refl [] a6
  refine xms 0 rfl rfl hS (xmi 1 rfl rfl hS ?_)
  obtain ⟨x17, a7, hs⟩ := bind_some hs
  obtain ⟨a8, a9, b0, b1⟩ := zN Sl43 Sz3 h0 a7
  refine xq 2 _ rfl (b0 _ _ _ _ _ _ _ _ _ rfl rfl) hS (x_l 3 (iv x17) rfl (by kernel_rfl)  (fun w' hw' => zo rfl ((zz Ag3 Sz3 b1) w' hw')) hS (xms 4 rfl rfl hS (xmi 5 rfl rfl hS ?_)))
  obtain ⟨x19, b2, hs⟩ := bind_some hs
  obtain ⟨b3, b4, b5, b6⟩ := zN Sl43 Sz3 h1 b2
  refine xq 6 _ rfl (b5 _ _ _ _ _ _ _ _ _ rfl rfl) hS (x_l 7 (iv x19) rfl (by kernel_rfl)  (fun w' hw' => zo rfl ((zz Ag3 Sz3 b6) w' hw')) hS (xq 8 (.bool (x17 != x19)) rfl (xk rfl rfl) hS (Zc (by kernel_rfl) ?_)))
  clear hS
  rcases zf hs with ⟨a3, hs⟩ | ⟨a3, hs⟩
  ·refine zg (cb a3) (c_sr (ab rfl (zb (wp_ret ?_))))
   cases hs
   exact ⟨_, fr_m 26 rfl, hC⟩
  refine zh (cb a3) (wp_skip (ze (mi rfl (za _ (yad rfl rfl) (ai rfl (zb ?_))))))
  cases hs
  exact ⟨_, zD 26 ⟨rfl, rfl, congrArg (Value.int .i64) hw, trivial⟩, hC, hO, h0, h1⟩
 ·skip
  exact ⟨_, fr_m 26 rfl, hC, hO, h0, h1⟩
 cases o14 with
 | nx _ => exact True.intro
 | rt r_ =>
  have hs := zp hs
  intro b7 a4 hK
  cases hs
  exact hK
 | br s10 =>
  have hs := zq hs
  rintro b7 a0 ⟨σ, rfl, hC, hO, h0, h1⟩
  refine c_sr (ab rfl (zb (wp_ret ?_)))
  cases hs
  exact ⟨_, fr_m 26 rfl, hC⟩

theorem Bd85 : zC Try.prog 85 := zI Try.func85 (by kernel_rfl) rfl

theorem Bd50 : zC Try.prog 50 := zI Try.func50 (by kernel_rfl) rfl

def wK (M : Nat → Prop) (w0 : World) (r : Int × Bool) (a : Act) (w : World) : Prop :=
  ∃ (σ : Nat → Value) , a = fr 40 (ovl σ [(4, (.int .i64 r.1)), (5, (.bool r.2))]) ∧ Chg [] w0 w
def zY (list : List (List Int)) (t : List Int) : Option (Int × Bool) :=
  (iter (S := Int × Int) (R := Int × Bool) (fun s11 =>
  (bif (decide (s11.1 < s11.2)) then (idx list (w64 (Int.tdiv (w64 (s11.1 + s11.2)) 2))).bind fun x18 =>
  (yA x18 t).bind fun r23 =>
  (bif r23 then some (.nx (w64 ((w64 (Int.tdiv (w64 (s11.1 + s11.2)) 2)) + 1), s11.2)) else some (.nx (s11.1, w64 (Int.tdiv (w64 (s11.1 + s11.2)) 2)))) else some (.br (s11.1, s11.2)))) FU (0, (list.length : Int))).bind fun o15 => after o15 (fun r_ => some r_) (fun s11 =>
  (bif (decide (s11.1 < (list.length : Int))) then (idx list s11.1).bind fun x26 =>
  (Yj x26 t).bind fun r31 =>
  some (s11.1, r31) else some (s11.1, false)))
set_option maxHeartbeats 4000000 in
theorem YK {M : Nat → Prop} {w : World} {pa0 : Option Addr} {pn0 pc0 : Nat} {pa1 : Option Addr} {pn1 pc1 : Nat} (list : List (List Int)) (t : List Int) (h0 : (RT.rs rl).val M w (.slice pa0 pn0 pc0) list ([])) (h1 : rl.val M w (.slice pa1 pn1 pc1) t ([])) (hM : ∀ g, w.heap.size ≤ g → M g) {r : Int × Bool} (hs : zY list t = some r) :
    Gives Try.prog 46 [(.slice pa0 pn0 pc0), (.slice pa1 pn1 pc1)] w (fun v w' => v = (.tuple #[(iv r.1), (.bool r.2)]) ∧ Chg [] w w') := by
 refine zr Try.func46 rfl Try.ntmps46 (Nat.le_of_ble_eq_true rfl) ?_
 have hO := Own.start (N := Nw w []) hM Nw.fut
 have hC := Chg.refl [] w
 unfold zY at hs
 refine wp_k (K := (wK M w r)) (by rintro _ _ ⟨σ, rfl, hrest⟩; exact wE Try.results46 (zB rfl) (zB rfl) ⟨rfl, hrest⟩) (c_sr (ai rfl (ab rfl (zb (c_sr (ms rfl (za _ (zn Sl25 (zu h0) rfl) (ai rfl (ai rfl (zb (zd ?_)))))))))))
 obtain ⟨o15, b1, hs⟩ := bind_some hs
 refine wp_block (Zt (id := 0) (I := fun s11 a a1 => ∃ (σ : Nat → Value), a = fr 40 (ovl σ [(0, (.slice pa0 pn0 pc0)), (1, (.slice pa1 pn1 pc1)), (6, (iv s11.1)), (7, (iv s11.2))]) ∧ Chg [] w a1 ∧ Own (Nw w []) M a1 ([]) ∧ (RT.rs rl).val M a1 (.slice pa0 pn0 pc0) list ([]) ∧ rl.val M a1 (.slice pa1 pn1 pc1) t ([])) (J := fun s11 a a1 => ∃ (σ : Nat → Value), a = fr 40 (ovl σ [(0, (.slice pa0 pn0 pc0)), (1, (.slice pa1 pn1 pc1)), (6, (iv s11.1))]) ∧ Chg [] w a1 ∧ Own (Nw w []) M a1 ([]) ∧ (RT.rs rl).val M a1 (.slice pa0 pn0 pc0) list ([]) ∧ rl.val M a1 (.slice pa1 pn1 pc1) t ([])) (K := (wK M w)) ?_ FU (0, (list.length : Int)) o15 _ _ ?_ b1 ?_)
 ·rintro s11 o15 a a1 ⟨σ, rfl, hC, hO, h0, h1⟩ hs
  refine zd (c_sr (mi rfl (mi rfl (za _ (zx rfl rfl) (zb ?_)))))
  rcases zf hs with ⟨a6, hs⟩ | ⟨a6, hs⟩
  ·refine zg (cb a6) (wp_skip (wp_block (c_sr (mi rfl (mi rfl (za _ (yad rfl rfl) (za (iv (w64 (Int.tdiv (w64 (s11.1 + s11.2)) 2))) (y_quo rfl rfl (by decide)) (ai rfl (zb (c_sr (ms rfl (mi rfl ?_))))))))))))
   obtain ⟨x18, b2, hs⟩ := bind_some hs
   obtain ⟨b3, b4, b5, a7⟩ := zN Sl25 Sz43 h0 b2
   refine za _ (b5 _ _ _ _ _ _ _ _ _ rfl rfl) ?_
   obtain ⟨d1, b6, a4⟩ := Zj Ag43 Sz43 (fun _ => rfl) a7
   obtain ⟨b7, b8, b9, rfl⟩ := yd a4
   refine za (.slice b7 b8 b9) (zo rfl (b6 _ (Chg.refl _ _))) (ms rfl ?_)
   obtain ⟨r23, c0, hs⟩ := bind_some hs
   refine zy Bd85 rfl (wI (M := M) x18 t a4 h1 hO.fut c0) ?_
   rintro _ d2 ⟨rfl, a2⟩
   obtain ⟨h0, h1, a4, a7, hC, hO⟩ := xt6 a2 h0 h1 a4 a7 hC hO
   refine zb ?_
   rcases zf hs with ⟨a8, hs⟩ | ⟨a8, hs⟩
   ·refine zg (cb a8) (ze (mi rfl (za _ (yad rfl rfl) (ai rfl (zb ?_)))))
    cases hs
    exact ⟨_, fr_m 40 rfl, hC, hO, h0, h1⟩
   refine zh (cb a8) (ze (mi rfl (ai rfl (zb ?_))))
   cases hs
   exact ⟨_, fr_m 40 rfl, hC, hO, h0, h1⟩
  refine zh (cb a6) (wp_exit ?_)
  cases hs
  exact ⟨rfl, _, fr_m 40 rfl, hC, hO, h0, h1⟩
 ·skip
  exact ⟨_, fr_m 40 rfl, hC, hO, h0, h1⟩
 cases o15 with
 | nx _ => exact True.intro
 | rt r_ =>
  have hs := zp hs
  intro c1 b0 hK
  cases hs
  exact hK
 | br s11 =>
  have hs := zq hs
  rintro c1 a1 ⟨σ, rfl, hC, hO, h0, h1⟩
  refine c_sr (mi rfl (mi rfl (ms rfl (za _ (zn Sl25 (zu h0) rfl) (za _ (zx rfl rfl) (mb rfl ?_))))))
  rcases zf hs with ⟨a0, hs⟩ | ⟨a0, hs⟩
  ·skip
   refine py 32 (.slice pa0 pn0 pc0) (cb a0) (zt rfl) (py 32 (iv s11.1) (cb a0) (zt rfl) ?_)
   obtain ⟨x26, c2, hs⟩ := bind_some hs
   obtain ⟨c3, c4, c5, a9⟩ := zN Sl25 Sz43 h0 c2
   refine py 32 _ (cb a0) (c5 _ _ _ _ _ _ _ _ _ rfl rfl) ?_
   obtain ⟨d3, c6, a5⟩ := Zj Ag43 Sz43 (fun _ => rfl) a9
   obtain ⟨c7, c8, c9, rfl⟩ := yd a5
   refine py 32 (.slice c7 c8 c9) (cb a0) (zo rfl (c6 _ (Chg.refl _ _))) (py 32 (.slice pa1 pn1 pc1) (cb a0) (zt rfl) ?_)
   obtain ⟨r31, d0, hs⟩ := bind_some hs
   refine xf (tg := 32) (by kernel_rfl) (cb a0) Bd50 rfl (VZ (M := M) x26 t a5 h1 hO.fut d0) ?_
   rintro _ d4 ⟨rfl, a3⟩
   obtain ⟨h0, h1, a5, a9, hC, hO⟩ := xt6 a3 h0 h1 a5 a9 hC hO
   refine za _ (ptb (cb a0) rfl) (ai rfl (ab rfl (zb (wp_ret ?_))))
   cases hs
   exact ⟨_, fr_m 40 rfl, hC⟩
  refine pn 32 (cb a0) (pn 32 (cb a0) (pn 32 (cb a0) (pn 32 (cb a0) (pn 32 (cb a0) (pn 32 (cb a0) (za _ (pfb (cb a0) rfl) (ai rfl (ab rfl (zb (wp_ret ?_))))))))))
  cases hs
  exact ⟨_, fr_m 40 rfl, hC⟩

theorem Bd46 : zC Try.prog 46 := zI Try.func46 (by kernel_rfl) rfl

def Ua (M : Nat → Prop) (w0 : World) (r : (List (List Int))) (a : Act) (w : World) : Prop :=
  ∃ (σ : Nat → Value) (ra0 : Option Addr) (rn0 rc0 : Nat), a = fr 27 (ovl σ [(4, (.slice ra0 rn0 rc0))]) ∧ Chg [] w0 w ∧ (RT.rs (RT.rs (RT.int .i64))).val (Past M w0 w) w (.slice ra0 rn0 rc0) r []
def ZK (list : List (List Int)) (t : List Int) : Option ((List (List Int))) :=
  (zY list t).bind fun r4 =>
  (bif r4.2 then some list else (slc list 0 r4.1).bind fun y8 =>
  (slc list r4.1 (list.length : Int)).bind fun y11 =>
  (app ([]) y8).bind fun y17 =>
  (app y17 ([t])).bind fun y22 =>
  (app y22 y11).bind fun y25 =>
  some y25)
set_option maxHeartbeats 4000000 in
theorem Wv {M : Nat → Prop} {w : World} {pa0 : Option Addr} {pn0 pc0 : Nat} {pa1 : Option Addr} {pn1 pc1 : Nat} (list : List (List Int)) (t : List Int) (h0 : (RT.rs rl).val M w (.slice pa0 pn0 pc0) list ([])) (h1 : rl.val M w (.slice pa1 pn1 pc1) t ([])) (hM : ∀ g, w.heap.size ≤ g → M g) {r : (List (List Int))} (hs : ZK list t = some r) :
    Gives Try.prog 71 [(.slice pa0 pn0 pc0), (.slice pa1 pn1 pc1)] w (fun v w' => ∃ (ra0 : Option Addr) (rn0 rc0 : Nat), v = (.slice ra0 rn0 rc0) ∧ Chg [] w w' ∧ (RT.rs rl).val (Past M w w') w' (.slice ra0 rn0 rc0) r []) := by
 refine zr Try.func71 rfl Try.ntmps71 (Nat.le_of_ble_eq_true rfl) ?_
 have hO := Own.start (N := Nw w []) hM Nw.fut
 have hC := Chg.refl [] w
 unfold ZK at hs
 refine wp_k (K := (Ua M w r)) (by rintro _ _ ⟨σ, ra0, rn0, rc0, rfl, hrest⟩; exact Zh Try.results71 (zB rfl) ⟨ra0, rn0, rc0, rfl, hrest⟩) (c_sr (ax rfl (zb (c_sr (ms rfl (ms rfl ?_))))))
 obtain ⟨r4, j5, hs⟩ := bind_some hs
 refine zy Bd46 rfl (YK (M := M) list t h0 h1 hO.fut j5) ?_
 rintro _ h6 ⟨rfl, d8⟩
 obtain ⟨h0, h1, hC, hO⟩ := xt4 d8 h0 h1 hC hO
 refine za (.tuple #[(iv r4.1), (.bool r4.2)]) (zt rfl) (za (iv r4.1) (zO rfl (by kernel_rfl)) (za (.bool r4.2) (zO rfl (by kernel_rfl)) (ai rfl (ab rfl (zb (zd (c_sr (mb rfl (zb ?_)))))))))
 rcases zf hs with ⟨f1, hs⟩ | ⟨f1, hs⟩
 ·refine zg (cb f1) (c_sr (ms rfl (ax rfl (zb (wp_ret ?_)))))
  cases hs
  exact ⟨_, pa0, pn0, pc0, fr_m 27 rfl, hC, (Keeps.out Keeps.refl h0)⟩
 refine zh (cb f1) (wp_skip (zd (Ze [4, 7, 11] Mx rfl ?_)))
 have c3 := Chg.drew h6
 generalize World.drew h6 = f2 at c3 ⊢
 obtain ⟨h0, h1, hC, hO⟩ := xt4 c3 h0 h1 hC hO
 have hS := Chg.refl [] f2
 refine xms 1 rfl rfl hS (xmi 2 rfl rfl hS ?_)
 obtain ⟨y8, j6, hs⟩ := bind_some hs
 obtain ⟨j7, j8, j9, a0, q5, k0, q6⟩ := rs_part Try.underlying25 Sz43 h0 j6
 refine xq 3 (.slice j7 j8 j9) rfl (y_slice rfl rfl rfl (k0 rfl _)) hS (xms 5 rfl rfl hS (xms 8 rfl rfl hS (xmi 9 rfl rfl hS ?_)))
 obtain ⟨y11, k1, hs⟩ := bind_some hs
 obtain ⟨k2, k3, k4, a1, q7, q8, k5⟩ := rs_part Try.underlying25 Sz43 h0 k1
 refine xq 10 (.slice k2 k3 k4) rfl (y_slice rfl rfl rfl (k5 rfl _)) hS (wo (i := 0) (j := 6) (by kernel_rfl) ?_ ?_)
 ·skip
  obtain ⟨f3, f4, k6, h7, a5, h8⟩ := zi f2 [] 43
  refine zS (w' := f3) (b := false) (.slice (some ⟨f4, 0, none⟩) 0 0) rfl  (zG rfl (by rw [k6, h7]; kernel_rfl)) rfl (fun _ => hS.ext a5) ?_
  obtain ⟨h0, h1, a0, a1, hC⟩ := xt5 a5 h0 h1 a0 a1 hC
  have hO := hO.new1 a5 h7 h8.lt
  have b1 := os0 (r := (RT.os 3 ri)) (M := M) h8
  have hS := hS.ext a5
  refine wo (i := 4) (j := 6) (by kernel_rfl) ?_ ?_
  ·skip
   obtain ⟨b2, q9, d9, k7, hO, h9⟩ := xA (Frz.os Frz.int) b1 hO
   have h0 := h0.sub d9
   have h1 := h1.sub d9
   have a0 := a0.sub d9
   have a1 := a1.sub d9
   have hK := k7
   obtain ⟨y17, c4, hs⟩ := bind_some hs
   obtain ⟨k8, k9, l0, i0, r0, l1, b3, l2, b4⟩ := Xn Rw25 c4 h9 a0 hO.inM
   have c5 := zA h9
   refine zS (w' := i0) (b := true) (.slice k8 k9 l0) rfl  (zU rfl rfl (l1 _)) rfl (fun h => nomatch h) ?_
   have h0 := h0.mt b3 hO c5
   have h1 := h1.mt b3 hO c5
   have a0 := a0.mt b3 hO c5
   have a1 := a1.mt b3 hO c5
   have hC := hC.st b3 hO c5
   have hO := hO.grow b3 l2 (zw b4) b4.fpl
   refine zP (i := 6) (by kernel_rfl) ?_
   obtain ⟨i1, f5, l3, i2, a7, i3⟩ := zi i0 [(.slice pa1 pn1 pc1)] 43
   refine zS (w' := i1) (b := true) (.slice (some ⟨f5, 0, none⟩) 1 1) rfl  (zG rfl (by rw [l3, i2]; kernel_rfl)) rfl (fun h => nomatch h) ?_
   obtain ⟨h0, h1, a0, a1, b4, hC⟩ := xt6 a7 h0 h1 a0 a1 b4 hC
   have hO := hO.new1 a7 i2 i3.lt
   have f6 := zT (r := rl) (M := b2) (css := [[(.slice pa1 pn1 pc1)]]) (fps := [([] : List Nat)]) (xs := ([t] : List (List Int))) i3 ⟨(yq h1), trivial⟩ (Nat.le_of_ble_eq_true rfl) (List.nodup_cons.2 ⟨(fun h => nomatch h), List.nodup_nil⟩)
   have f6 : (RT.os 43 rl).val b2 i1 (.slice (some ⟨f5, 0, none⟩) 1 1) [t] [f5] := f6
   refine zP (i := 7) (by kernel_rfl) ?_
   obtain ⟨y22, c6, hs⟩ := bind_some hs
   have hO := hO.fr1
   obtain ⟨l4, l5, l6, l7, r1, l8, b5, l9, e0⟩ := Yc Rw25 c6 b4 f6 hO.inM (fun g hg hq => hO.apart g hq (zm hg))
   have c7 := zA b4
   refine zS (w' := l7) (b := true) (.slice l4 l5 l6) rfl  (zU rfl rfl (l8 _)) rfl (fun h => nomatch h) ?_
   have hO := hO.fr1.fr1
   have h0 := h0.mt b5 hO c7
   have h1 := h1.mt b5 hO c7
   have a0 := a0.mt b5 hO c7
   have a1 := a1.mt b5 hO c7
   have hC := hC.st b5 hO c7
   have hO := hO.eat b5 l9 (zw e0) e0.fpl
   refine zP (i := 11) (by kernel_rfl) ?_
   obtain ⟨y25, c8, hs⟩ := bind_some hs
   obtain ⟨f7, f8, f9, m0, r2, m1, b6, m2, g0⟩ := Xn Rw25 c8 e0 a1 hO.inM
   have c9 := zA e0
   refine zS (w' := m0) (b := true) (.slice f7 f8 f9) rfl  (zU rfl rfl (m1 _)) rfl (fun h => nomatch h) ?_
   have h0 := h0.mt b6 hO c9
   have h1 := h1.mt b6 hO c9
   have a0 := a0.mt b6 hO c9
   have a1 := a1.mt b6 hO c9
   have hC := hC.st b6 hO c9
   have hO := hO.grow b6 m2 (zw g0) g0.fpl
   refine x_p 12 (.slice f7 f8 f9) rfl (by kernel_rfl)  (fun _ => zE rfl) (fun h => nomatch h) (Zc (by kernel_rfl) ?_)
   clear hS
   refine wp_ret ?_
   cases hs
   obtain ⟨e1, r3, e2, m3, hO, m4⟩ := xx (Frz.os (Frz.rs Frz.int)) g0 hO
   have h0 := h0.sub e2
   have h1 := h1.sub e2
   have a0 := a0.sub e2
   have a1 := a1.sub e2
   have hK := hK.trans m3
   exact ⟨_, f7, f8, f9, fr_m 27 rfl, hC, (Keeps.out hK m4)⟩
  ·skip
   obtain ⟨i4, g1, m5, i5, a2, i6⟩ := zi f3 [(.slice pa1 pn1 pc1)] 43
   refine zS (w' := i4) (b := false) (.slice (some ⟨g1, 0, none⟩) 1 1) rfl  (zG rfl (by rw [m5, i5]; kernel_rfl)) rfl (fun _ => hS.ext a2) ?_
   obtain ⟨h0, h1, a0, a1, b1, hC⟩ := xt6 a2 h0 h1 a0 a1 b1 hC
   have hO := hO.new1 a2 i5 i6.lt
   have a8 := zT (r := rl) (M := M) (css := [[(.slice pa1 pn1 pc1)]]) (fps := [([] : List Nat)]) (xs := ([t] : List (List Int))) i6 ⟨(yq h1), trivial⟩ (Nat.le_of_ble_eq_true rfl) (List.nodup_cons.2 ⟨(fun h => nomatch h), List.nodup_nil⟩)
   have a8 : (RT.os 43 rl).val M i4 (.slice (some ⟨g1, 0, none⟩) 1 1) [t] [g1] := a8
   have hS := hS.ext a2
   refine zP (i := 4) (by kernel_rfl) ?_
   have hO := hO.fr1
   obtain ⟨d0, r5, d1, m6, hO, i7⟩ := xA (Frz.os Frz.int) b1 hO
   have h0 := h0.sub d1
   have h1 := h1.sub d1
   have a0 := a0.sub d1
   have a1 := a1.sub d1
   have a8 := a8.sub d1
   have hK := m6
   obtain ⟨y17, c4, hs⟩ := bind_some hs
   obtain ⟨m7, m8, m9, n0, r6, n1, a9, n2, e3⟩ := Xn Rw25 c4 i7 a0 hO.inM
   have b7 := zA i7
   refine zS (w' := n0) (b := true) (.slice m7 m8 m9) rfl  (zU rfl rfl (n1 _)) rfl (fun h => nomatch h) ?_
   have h0 := h0.mt a9 hO b7
   have h1 := h1.mt a9 hO b7
   have a0 := a0.mt a9 hO b7
   have a1 := a1.mt a9 hO b7
   have a8 := a8.ma a9 hO b7 (fun _ e => (zm (e)))
   have hC := hC.st a9 hO b7
   have hO := hO.grow a9 n2 (zw e3) e3.fpl
   refine zP (i := 7) (by kernel_rfl) ?_
   obtain ⟨y22, c6, hs⟩ := bind_some hs
   have hO := hO.fr1.fr1
   obtain ⟨n3, n4, n5, n6, r7, n7, b8, n8, e4⟩ := Yc Rw25 c6 e3 a8 hO.inM (fun g hg hq => hO.apart g hq (zm hg))
   have d2 := zA e3
   refine zS (w' := n6) (b := true) (.slice n3 n4 n5) rfl  (zU rfl rfl (n7 _)) rfl (fun h => nomatch h) ?_
   have hO := hO.fr1.fr1
   have h0 := h0.mt b8 hO d2
   have h1 := h1.mt b8 hO d2
   have a0 := a0.mt b8 hO d2
   have a1 := a1.mt b8 hO d2
   have hC := hC.st b8 hO d2
   have hO := hO.eat b8 n8 (zw e4) e4.fpl
   refine zP (i := 11) (by kernel_rfl) ?_
   obtain ⟨y25, c8, hs⟩ := bind_some hs
   obtain ⟨g2, g3, g4, n9, r8, o0, b9, o1, g5⟩ := Xn Rw25 c8 e4 a1 hO.inM
   have d3 := zA e4
   refine zS (w' := n9) (b := true) (.slice g2 g3 g4) rfl  (zU rfl rfl (o0 _)) rfl (fun h => nomatch h) ?_
   have h0 := h0.mt b9 hO d3
   have h1 := h1.mt b9 hO d3
   have a0 := a0.mt b9 hO d3
   have a1 := a1.mt b9 hO d3
   have hC := hC.st b9 hO d3
   have hO := hO.grow b9 o1 (zw g5) g5.fpl
   refine x_p 12 (.slice g2 g3 g4) rfl (by kernel_rfl)  (fun _ => zE rfl) (fun h => nomatch h) (Zc (by kernel_rfl) ?_)
   clear hS
   refine wp_ret ?_
   cases hs
   obtain ⟨e5, r9, e6, o2, hO, o3⟩ := xx (Frz.os (Frz.rs Frz.int)) g5 hO
   have h0 := h0.sub e6
   have h1 := h1.sub e6
   have a0 := a0.sub e6
   have a1 := a1.sub e6
   have hK := hK.trans o2
   exact ⟨_, g2, g3, g4, fr_m 27 rfl, hC, (Keeps.out hK o3)⟩
 ·skip
  obtain ⟨g6, g7, o4, i9, a6, j0⟩ := zi f2 [(.slice pa1 pn1 pc1)] 43
  refine zS (w' := g6) (b := false) (.slice (some ⟨g7, 0, none⟩) 1 1) rfl  (zG rfl (by rw [o4, i9]; kernel_rfl)) rfl (fun _ => hS.ext a6) ?_
  obtain ⟨h0, h1, a0, a1, hC⟩ := xt5 a6 h0 h1 a0 a1 hC
  have hO := hO.new1 a6 i9 j0.lt
  have a3 := zT (r := rl) (M := M) (css := [[(.slice pa1 pn1 pc1)]]) (fps := [([] : List Nat)]) (xs := ([t] : List (List Int))) j0 ⟨(yq h1), trivial⟩ (Nat.le_of_ble_eq_true rfl) (List.nodup_cons.2 ⟨(fun h => nomatch h), List.nodup_nil⟩)
  have a3 : (RT.os 43 rl).val M g6 (.slice (some ⟨g7, 0, none⟩) 1 1) [t] [g7] := a3
  have hS := hS.ext a6
  refine zP (i := 0) (by kernel_rfl) ?_
  obtain ⟨j1, g8, o5, j2, a4, j3⟩ := zi g6 [] 43
  refine zS (w' := j1) (b := false) (.slice (some ⟨g8, 0, none⟩) 0 0) rfl  (zG rfl (by rw [o5, j2]; kernel_rfl)) rfl (fun _ => hS.ext a4) ?_
  obtain ⟨h0, h1, a0, a1, a3, hC⟩ := xt6 a4 h0 h1 a0 a1 a3 hC
  have hO := hO.new1 a4 j2 j3.lt
  have g9 := os0 (r := (RT.os 3 ri)) (M := M) j3
  have hS := hS.ext a4
  refine zP (i := 4) (by kernel_rfl) ?_
  obtain ⟨d4, s0, d5, o6, hO, j4⟩ := xA (Frz.os Frz.int) g9 hO
  have h0 := h0.sub d5
  have h1 := h1.sub d5
  have a0 := a0.sub d5
  have a1 := a1.sub d5
  have a3 := a3.sub d5
  have hK := o6
  obtain ⟨y17, c4, hs⟩ := bind_some hs
  obtain ⟨o7, o8, o9, p0, s1, p1, b0, p2, e7⟩ := Xn Rw25 c4 j4 a0 hO.inM
  have c0 := zA j4
  refine zS (w' := p0) (b := true) (.slice o7 o8 o9) rfl  (zU rfl rfl (p1 _)) rfl (fun h => nomatch h) ?_
  have h0 := h0.mt b0 hO c0
  have h1 := h1.mt b0 hO c0
  have a0 := a0.mt b0 hO c0
  have a1 := a1.mt b0 hO c0
  have a3 := a3.ma b0 hO c0 (fun _ e => (zm (e)))
  have hC := hC.st b0 hO c0
  have hO := hO.grow b0 p2 (zw e7) e7.fpl
  refine zP (i := 7) (by kernel_rfl) ?_
  obtain ⟨y22, c6, hs⟩ := bind_some hs
  have hO := hO.fr1.fr1
  obtain ⟨p3, p4, p5, p6, s2, p7, c1, p8, e8⟩ := Yc Rw25 c6 e7 a3 hO.inM (fun g hg hq => hO.apart g hq (zm hg))
  have d6 := zA e7
  refine zS (w' := p6) (b := true) (.slice p3 p4 p5) rfl  (zU rfl rfl (p7 _)) rfl (fun h => nomatch h) ?_
  have hO := hO.fr1.fr1
  have h0 := h0.mt c1 hO d6
  have h1 := h1.mt c1 hO d6
  have a0 := a0.mt c1 hO d6
  have a1 := a1.mt c1 hO d6
  have hC := hC.st c1 hO d6
  have hO := hO.eat c1 p8 (zw e8) e8.fpl
  refine zP (i := 11) (by kernel_rfl) ?_
  obtain ⟨y25, c8, hs⟩ := bind_some hs
  obtain ⟨h2, h3, h4, p9, s3, q0, c2, q1, h5⟩ := Xn Rw25 c8 e8 a1 hO.inM
  have d7 := zA e8
  refine zS (w' := p9) (b := true) (.slice h2 h3 h4) rfl  (zU rfl rfl (q0 _)) rfl (fun h => nomatch h) ?_
  have h0 := h0.mt c2 hO d7
  have h1 := h1.mt c2 hO d7
  have a0 := a0.mt c2 hO d7
  have a1 := a1.mt c2 hO d7
  have hC := hC.st c2 hO d7
  have hO := hO.grow c2 q1 (zw h5) h5.fpl
  refine x_p 12 (.slice h2 h3 h4) rfl (by kernel_rfl)  (fun _ => zE rfl) (fun h => nomatch h) (Zc (by kernel_rfl) ?_)
  clear hS
  refine wp_ret ?_
  cases hs
  obtain ⟨e9, s4, f0, q2, hO, q3⟩ := xx (Frz.os (Frz.rs Frz.int)) h5 hO
  have h0 := h0.sub f0
  have h1 := h1.sub f0
  have a0 := a0.sub f0
  have a1 := a1.sub f0
  have hK := hK.trans q2
  exact ⟨_, h2, h3, h4, fr_m 27 rfl, hC, (Keeps.out hK q3)⟩

def Wy (M : Nat → Prop) (w0 : World) (r : Bool) (a : Act) (w : World) : Prop :=
  ∃ (σ : Nat → Value) , a = fr 18 (ovl σ [(4, (.bool r))]) ∧ Chg [] w0 w
def Zd (l : List Int) (n : Int) : Option (Bool) :=
  (forC (S := Unit) (R := Bool) (fun k7 s5 =>
  (idx l k7).bind fun x11 =>
  (bif (x11 == n) then some (.rt true) else some (.nx ()))) 0 (l.length : Int) ()).bind fun o9 => after o9 (fun r_ => some r_) (fun s5 =>
  some false)
set_option maxHeartbeats 4000000 in
theorem WI {M : Nat → Prop} {w : World} {pa0 : Option Addr} {pn0 pc0 : Nat} (l : List Int) (n : Int) (h0 : rl.val M w (.slice pa0 pn0 pc0) l ([])) (hM : ∀ g, w.heap.size ≤ g → M g) {r : Bool} (hs : Zd l n = some r) :
    Gives Try.prog 72 [(.slice pa0 pn0 pc0), (iv n)] w (fun v w' => v = (.bool r) ∧ Chg [] w w') := by
 refine zr Try.func72 rfl Try.ntmps72 (Nat.le_of_ble_eq_true rfl) ?_
 have hO := Own.start (N := Nw w []) hM Nw.fut
 have hC := Chg.refl [] w
 unfold Zd at hs
 refine wp_k (K := (Wy M w r)) (by rintro _ _ ⟨σ, rfl, hrest⟩; exact Zh Try.results72 (zB rfl) ⟨rfl, hrest⟩) (c_sr (ab rfl (zb (zd (c_sr (ai rfl (zb ?_)))))))
 obtain ⟨o9, a3, hs⟩ := bind_some hs
 refine wp_block (zW (id := 0) (l.length : Int) (I := fun k7 s5 a a0 => ∃ (σ : Nat → Value), a = fr 18 (ovl σ [(0, (.slice pa0 pn0 pc0)), (1, (iv n)), (5, (iv k7))]) ∧ Chg [] w a0 ∧ Own (Nw w []) M a0 ([]) ∧ rl.val M a0 (.slice pa0 pn0 pc0) l ([])) (J := fun s5 a a0 => ∃ (σ : Nat → Value), a = fr 18 (ovl σ []) ∧ Chg [] w a0 ∧ Own (Nw w []) M a0 ([]) ∧ rl.val M a0 (.slice pa0 pn0 pc0) l ([])) (K := (Wy M w)) ?_ ?_ 0 () o9 _ _ ?_ a3 ?_)
 ·rintro k7 s5 a a0 ⟨σ, rfl, hC, hO, h0⟩ hlt
  refine zd (c_sr (mi rfl (ms rfl (za _ (zn Sl43 (zu h0) rfl) (za _ (zx rfl rfl) (zb (zh (cb (decide_eq_false hlt)) (wp_exit ?_))))))))
  exact ⟨rfl, _, zD 18 trivial, hC, hO, h0⟩
 ·rintro k7 s5 o9 a a0 ⟨σ, rfl, hC, hO, h0⟩ hlt hw hs
  refine zd (c_sr (mi rfl (ms rfl (za _ (zn Sl43 (zu h0) rfl) (za _ (zx rfl rfl) (zb (zg (cb (decide_eq_true hlt)) (wp_skip (zd (wp_block (c_sr (ms rfl (mi rfl ?_)))))))))))))
  obtain ⟨x11, a4, hs⟩ := bind_some hs
  obtain ⟨a5, a6, a7, a8⟩ := zN Sl43 Sz3 h0 a4
  refine za _ (a7 _ _ _ _ _ _ _ _ _ rfl rfl) (za (iv x11) (zo rfl ((zz Ag3 Sz3 a8) _ (Chg.refl _ _))) (mi rfl (za (.bool (x11 == n)) (xz rfl rfl) (zb ?_))))
  rcases zf hs with ⟨a1, hs⟩ | ⟨a1, hs⟩
  ·refine zg (cb a1) (c_sr (ab rfl (zb (wp_ret ?_))))
   cases hs
   exact ⟨_, fr_m 18 rfl, hC⟩
  refine zh (cb a1) (wp_skip (ze (mi rfl (za _ (yad rfl rfl) (ai rfl (zb ?_))))))
  cases hs
  exact ⟨_, zD 18 ⟨rfl, rfl, congrArg (Value.int .i64) hw, trivial⟩, hC, hO, h0⟩
 ·skip
  exact ⟨_, fr_m 18 rfl, hC, hO, h0⟩
 cases o9 with
 | nx _ => exact True.intro
 | rt r_ =>
  have hs := zp hs
  intro a9 a2 hK
  cases hs
  exact hK
 | br s5 =>
  have hs := zq hs
  rintro a9 a0 ⟨σ, rfl, hC, hO, h0⟩
  refine c_sr (ab rfl (zb (wp_ret ?_)))
  cases hs
  exact ⟨_, fr_m 18 rfl, hC⟩

def wa (M : Nat → Prop) (w0 : World) (r : (List (List Int))) (a : Act) (w : World) : Prop :=
  ∃ (σ : Nat → Value) (ra0 : Option Addr) (rn0 rc0 : Nat), a = fr 25 (ovl σ [(4, (.slice ra0 rn0 rc0))]) ∧ Chg [] w0 w ∧ (RT.rs (RT.rs (RT.int .i64))).val (Past M w0 w) w (.slice ra0 rn0 rc0) r []
def XW (line : List (List Int)) (numbers : List Int) : Option ((List (List Int))) :=
  (forC (S := (List (List Int))) (R := (List (List Int))) (fun k36 s34 =>
  (idx numbers k36).bind fun x46 =>
  (idx line x46).bind fun x48 =>
  (app s34 ([x48])).bind fun y55 =>
  some (.nx y55)) 0 (numbers.length : Int) ([])).bind fun o38 => after o38 (fun r_ => some r_) (fun s34 =>
  some s34)
set_option maxHeartbeats 4000000 in
theorem c_spec_l8Choose {M : Nat → Prop} {w : World} {pa0 : Option Addr} {pn0 pc0 : Nat} {pa1 : Option Addr} {pn1 pc1 : Nat} (line : List (List Int)) (numbers : List Int) (h0 : (RT.rs rl).val M w (.slice pa0 pn0 pc0) line ([])) (h1 : rl.val M w (.slice pa1 pn1 pc1) numbers ([])) (hM : ∀ g, w.heap.size ≤ g → M g) {r : (List (List Int))} (hs : XW line numbers = some r) :
    Gives Try.prog 73 [(.slice pa0 pn0 pc0), (.slice pa1 pn1 pc1)] w (fun v w' => ∃ (ra0 : Option Addr) (rn0 rc0 : Nat), v = (.slice ra0 rn0 rc0) ∧ Chg [] w w' ∧ (RT.rs rl).val (Past M w w') w' (.slice ra0 rn0 rc0) r []) := by
 refine zr Try.func73 rfl Try.ntmps73 (Nat.le_of_ble_eq_true rfl) ?_
 have hO := Own.start (N := Nw w []) hM Nw.fut
 have hC := Chg.refl [] w
 unfold XW at hs
 refine wp_k (K := (wa M w r)) (by rintro _ _ ⟨σ, ra0, rn0, rc0, rfl, hrest⟩; exact Zh Try.results73 (zB rfl) ⟨ra0, rn0, rc0, rfl, hrest⟩) (c_sr (ax rfl (zb (c_sr ?_))))
 obtain ⟨d1, b2, d9, d2, b5, d3⟩ := zi w [] 43
 refine za (w' := d1) (.slice (some ⟨b2, 0, none⟩) 0 0) (zG rfl (by rw [d9, d2]; kernel_rfl)) ?_
 obtain ⟨h0, h1, hC⟩ := xt3 b5 h0 h1 hC
 have hO := hO.new1 b5 d2 d3.lt
 have b7 := os0 (r := (RT.os 3 ri)) (M := M) d3
 refine ax rfl (zb (zd (c_sr (ai rfl (zb ?_)))))
 obtain ⟨b8, e0, d4, e1, hO, e2⟩ := xA (Frz.os Frz.int) b7 hO
 have h0 := h0.sub d4
 have h1 := h1.sub d4
 have hK := e1
 obtain ⟨o38, e3, hs⟩ := bind_some hs
 refine wp_block (zW (id := 0) (numbers.length : Int) (I := fun k36 s34 a a0 => ∃ (σ : Nat → Value) (a1 : Nat → Prop) (a3 : Option Addr) (a4 : Nat) (a5 : Nat) (b3 : List Nat), a = fr 25 (ovl σ [(0, (.slice pa0 pn0 pc0)), (1, (.slice pa1 pn1 pc1)), (5, (.slice a3 a4 a5)), (6, (iv k36))]) ∧ Chg [] w a0 ∧ Own (Nw w []) a1 a0 (b3 ++ []) ∧ Keeps w M a1 ∧ (RT.rs rl).val a1 a0 (.slice pa0 pn0 pc0) line ([]) ∧ rl.val a1 a0 (.slice pa1 pn1 pc1) numbers ([]) ∧ (RT.os 43 rl).val a1 a0 (.slice a3 a4 a5) s34 b3) (J := fun s34 a a0 => ∃ (σ : Nat → Value) (a6 : Nat → Prop) (a7 : Option Addr) (a8 : Nat) (a9 : Nat) (b9 : List Nat), a = fr 25 (ovl σ [(5, (.slice a7 a8 a9))]) ∧ Chg [] w a0 ∧ Own (Nw w []) a6 a0 (b9 ++ []) ∧ Keeps w M a6 ∧ (RT.rs rl).val a6 a0 (.slice pa0 pn0 pc0) line ([]) ∧ rl.val a6 a0 (.slice pa1 pn1 pc1) numbers ([]) ∧ (RT.os 43 rl).val a6 a0 (.slice a7 a8 a9) s34 b9) (K := (wa M w)) ?_ ?_ 0 ([]) o38 _ _ ?_ e3 ?_)
 ·rintro k36 s34 a a0 ⟨σ, a1, a3, a4, a5, b3, rfl, hC, hO, hK, h0, h1, b0⟩ hlt
  refine zd (c_sr (mi rfl (ms rfl (za _ (zn Sl43 (zu h1) rfl) (za _ (zx rfl rfl) (zb (zh (cb (decide_eq_false hlt)) (wp_exit ?_))))))))
  exact ⟨rfl, _, a1, a3, a4, a5, b3, fr_m 25 rfl, hC, hO, hK, h0, h1, b0⟩
 ·rintro k36 s34 o38 a a0 ⟨σ, a1, a3, a4, a5, b3, rfl, hC, hO, hK, h0, h1, b0⟩ hlt hw hs
  refine zd (c_sr (mi rfl (ms rfl (za _ (zn Sl43 (zu h1) rfl) (za _ (zx rfl rfl) (zb (zg (cb (decide_eq_true hlt)) (wp_skip (zd (wp_block (ze (ms rfl (ms rfl (ms rfl (mi rfl ?_)))))))))))))))
  obtain ⟨x46, e4, hs⟩ := bind_some hs
  obtain ⟨e5, e6, e7, c0⟩ := zN Sl43 Sz3 h1 e4
  refine za _ (e7 _ _ _ _ _ _ _ _ _ rfl rfl) (za (iv x46) (zo rfl ((zz Ag3 Sz3 c0) _ (Chg.refl _ _))) ?_)
  obtain ⟨x48, e8, hs⟩ := bind_some hs
  obtain ⟨e9, f0, f1, c1⟩ := zN Sl25 Sz43 h0 e8
  refine za _ (f1 _ _ _ _ _ _ _ _ _ rfl rfl) ?_
  obtain ⟨g3, f2, b1⟩ := Zj Ag43 Sz43 (fun _ => rfl) c1
  obtain ⟨c2, c3, c4, rfl⟩ := yd b1
  refine za (.slice c2 c3 c4) (zo rfl (f2 _ (Chg.refl _ _))) ?_
  obtain ⟨d5, c5, f3, d6, a2, d7⟩ := zi a0 [(.slice c2 c3 c4)] 43
  refine za (w' := d5) (.slice (some ⟨c5, 0, none⟩) 1 1) (zG rfl (by rw [f3, d6]; kernel_rfl)) ?_
  obtain ⟨h0, h1, b0, b1, c0, c1, hC⟩ := xt7 a2 h0 h1 b0 b1 c0 c1 hC
  have hO := hO.new1 a2 d6 d7.lt
  have c6 := zT (r := rl) (M := a1) (css := [[(.slice c2 c3 c4)]]) (fps := [([] : List Nat)]) (xs := ([x48] : List (List Int))) d7 ⟨(yq b1), trivial⟩ (Nat.le_of_ble_eq_true rfl) (List.nodup_cons.2 ⟨(fun h => nomatch h), List.nodup_nil⟩)
  have c6 : (RT.os 43 rl).val a1 d5 (.slice (some ⟨c5, 0, none⟩) 1 1) [x48] [c5] := c6
  obtain ⟨y55, f4, hs⟩ := bind_some hs
  have hO := hO.fr1
  obtain ⟨c7, c8, c9, f5, f6, f7, b4, f8, d0⟩ := Yc Rw25 f4 b0 c6 hO.inM (fun g hg hq => hO.apart g hq (zm hg))
  have b6 := zA b0
  refine za (w' := f5) (.slice c7 c8 c9) (zU rfl rfl (f7 _)) ?_
  have hO := hO.fr1.fr1
  have h0 := h0.mt b4 hO b6
  have h1 := h1.mt b4 hO b6
  have b1 := b1.mt b4 hO b6
  have hC := hC.st b4 hO b6
  have hO := hO.eat b4 f8 (zw d0) d0.fpl
  refine ax rfl (zb (ze (mi rfl (za _ (yad rfl rfl) (ai rfl (zb ?_))))))
  cases hs
  exact ⟨_, a1, c7, c8, c9, f6, zD 25 ⟨rfl, rfl, rfl, congrArg (Value.int .i64) hw, trivial⟩, hC, hO, hK, h0, h1, d0⟩
 ·skip
  exact ⟨_, b8, (some ⟨b2, 0, none⟩), 0, 0, e0, fr_m 25 rfl, hC, hO, hK, h0, h1, e2⟩
 cases o38 with
 | nx _ => exact True.intro
 | rt r_ =>
  have hs := zp hs
  intro f9 d8 hK
  cases hs
  exact hK
 | br s34 =>
  have hs := zq hs
  rintro f9 a0 ⟨σ, a6, a7, a8, a9, b9, rfl, hC, hO, hK, h0, h1, g0⟩
  refine c_sr (ms rfl (ax rfl (zb (wp_ret ?_))))
  cases hs
  obtain ⟨g4, g5, g6, g1, hO, g2⟩ := xx (Frz.os (Frz.rs Frz.int)) g0 hO
  have hK := hK.trans g1
  exact ⟨_, a7, a8, a9, fr_m 25 rfl, hC, (Keeps.out hK g2)⟩

theorem Bd54 : zC Try.prog 54 := zI Try.func54 (by kernel_rfl) rfl

def wN (M : Nat → Prop) (w0 : World) (r : (List Int) × Bool) (a : Act) (w : World) : Prop :=
  ∃ (σ : Nat → Value) (ra0 : Option Addr) (rn0 rc0 : Nat) (rf0 : List Nat), a = fr 37 (ovl σ [(4, (.slice ra0 rn0 rc0)), (5, (.bool r.2))]) ∧ Chg [] w0 w ∧ (RT.os 3 (RT.int .i64)).val M w (.slice ra0 rn0 rc0) r.1 rf0 ∧ Own (Nw w0 []) (fun _ => True) w (rf0 ++ ([]))
def zK (list : List Int) (n : Int) : Option ((List Int) × Bool) :=
  (yR list).bind fun r3 =>
  (iter (S := Int × (List Int)) (R := (List Int) × Bool) (fun s30 =>
  (bif (decide (0 ≤ s30.1)) then (idx s30.2 s30.1).bind fun x39 =>
  (bif (decide (x39 < (w64 (n - 1)))) then (idx s30.2 s30.1).bind fun x42 =>
  (idx s30.2 s30.1).bind fun x44 =>
  some (.rt (List.set s30.2 (Int.toNat s30.1) (w64 (x42 + 1)), true)) else (idx s30.2 s30.1).bind fun x47 =>
  some (.nx (w64 (s30.1 - 1), List.set s30.2 (Int.toNat s30.1) 0))) else some (.br (s30.1, s30.2)))) FU (w64 ((r3.length : Int) - 1), r3)).bind fun o34 => after o34 (fun r_ => some r_) (fun s30 =>
  some (s30.2, false))
set_option maxHeartbeats 4000000 in
theorem Xm {M : Nat → Prop} {w : World} {pa0 : Option Addr} {pn0 pc0 : Nat} (list : List Int) (n : Int) (h0 : rl.val M w (.slice pa0 pn0 pc0) list ([])) (hM : ∀ g, w.heap.size ≤ g → M g) {r : (List Int) × Bool} (hs : zK list n = some r) :
    Gives Try.prog 74 [(.slice pa0 pn0 pc0), (iv n)] w (fun v w' => ∃ (ra0 : Option Addr) (rn0 rc0 : Nat) (rf0 : List Nat), v = (.tuple #[(.slice ra0 rn0 rc0), (.bool r.2)]) ∧ Chg [] w w' ∧ (RT.os 3 ri).val M w' (.slice ra0 rn0 rc0) r.1 rf0 ∧ Own (Nw w []) (fun _ => True) w' (rf0 ++ ([]))) := by
 refine zr Try.func74 rfl Try.ntmps74 (Nat.le_of_ble_eq_true rfl) ?_
 have hO := Own.start (N := Nw w []) hM Nw.fut
 have hC := Chg.refl [] w
 unfold zK at hs
 refine wp_k (K := (wN M w r)) (by rintro _ _ ⟨σ, ra0, rn0, rc0, rf0, rfl, hrest⟩; exact wE Try.results74 (zB rfl) (zB rfl) ⟨ra0, rn0, rc0, rf0, rfl, hrest⟩) (c_sr (ax rfl (ab rfl (zb (c_sr (ms rfl ?_))))))
 obtain ⟨r3, c1, hs⟩ := bind_some hs
 refine zy Bd54 rfl (XT (M := M) list h0 hO.fut c1) ?_
 rintro _ f0 ⟨a0, a1, a2, b2, rfl, a7, b3, c2⟩
 obtain ⟨h0, hC⟩ := xt2 a7 h0 hC
 have hO := Own.join0 hO a7 c2
 have hO := hO.perm (R := b2 ++ ([])) (by simp)
 refine ax rfl (zb (zd (c_sr (ms rfl (za _ (zn Sl43 (ZV b3) rfl) (za _ (ysu rfl rfl) (ai rfl (zb ?_))))))))
 obtain ⟨o34, c3, hs⟩ := bind_some hs
 refine wp_block (Zt (id := 0) (I := fun s30 a a4 => ∃ (σ : Nat → Value) (a5 : List Nat), a = fr 37 (ovl σ [(1, (iv n)), (6, (.slice a0 a1 a2)), (7, (iv s30.1))]) ∧ Chg [] w a4 ∧ Own (Nw w []) M a4 (a5 ++ []) ∧ (RT.os 3 ri).val M a4 (.slice a0 a1 a2) s30.2 a5) (J := fun s30 a a4 => ∃ (σ : Nat → Value) (a6 : List Nat), a = fr 37 (ovl σ [(6, (.slice a0 a1 a2))]) ∧ Chg [] w a4 ∧ Own (Nw w []) M a4 (a6 ++ []) ∧ (RT.os 3 ri).val M a4 (.slice a0 a1 a2) s30.2 a6) (K := (wN M w)) ?_ FU (w64 ((r3.length : Int) - 1), r3) o34 _ _ ?_ c3 ?_)
 ·rintro s30 o34 a a4 ⟨σ, a5, rfl, hC, hO, a3⟩ hs
  refine zd (c_sr (mi rfl (za _ (wb rfl rfl) (zb ?_))))
  rcases zf hs with ⟨a8, hs⟩ | ⟨a8, hs⟩
  ·refine zg (cb a8) (wp_skip (zd (wp_block (zd (c_sr (ms rfl (mi rfl ?_)))))))
   obtain ⟨x39, c4, hs⟩ := bind_some hs
   obtain ⟨c5, f1, f2, f3, c6, c7, f4⟩ := zR Sl43 Sz3 a3 c4
   refine za _ (c6 _ _ _ _ _ _ _ _ _ rfl rfl) (za (iv x39) (zo rfl ((zz Ag3 Sz3 c7) _ (Chg.refl _ _))) (mi rfl (za _ (ysu rfl rfl) (za _ (zx rfl rfl) (zb ?_)))))
   rcases zf hs with ⟨a9, hs⟩ | ⟨a9, hs⟩
   ·refine zg (cb a9) (c_sr (ms rfl (mi rfl (ms rfl (mi rfl ?_)))))
    obtain ⟨x42, c8, hs⟩ := bind_some hs
    obtain ⟨c9, f5, f6, f7, d0, d1, f8⟩ := zR Sl43 Sz3 a3 c8
    refine za _ (d0 _ _ _ _ _ _ _ _ _ rfl rfl) (za (iv x42) (zo rfl ((zz Ag3 Sz3 d1) _ (Chg.refl _ _))) (za _ (yad rfl rfl) ?_))
    obtain ⟨x44, d2, hs⟩ := bind_some hs
    obtain ⟨b4, f9, b5, d3, d4, g0, g1⟩ := zR Sl43 Sz3 a3 d2
    refine za _ (d4 _ _ _ _ _ _ _ _ _ rfl rfl) ?_
    obtain ⟨d5, d6, d7, b6, d8, b0⟩ := yn (P := Try.prog) (c' := [(iv (w64 (x42 + 1)))]) b5 a3 d3 (fun g hg => hO.inM g (zA a3 g (by simpa using hg))) ⟨rfl, rfl⟩ List.nodup_nil (fun _ h => nomatch h) (fun _ h => .inl h)
    have d9 : ∀ q ∈ [b4], q ∈ a5 := fun q hq => zA a3 q (by rw [b5]; exact hq)
    refine Zk (w' := d5) (zV rfl rfl (d7 _ _ rfl Sz3)) ?_
    have hC := hC.st b6 hO d9
    have hO := hO.grow b6 (fun q hq => .inl ((d8 q hq).resolve_right (fun h => nomatch h))) (zw b0) b0.fpl
    refine zb (c_sr (ms rfl (ax rfl (ab rfl (zb (wp_ret ?_))))))
    cases hs
    exact ⟨_, a0, a1, a2, d6, fr_m 37 rfl, hC, b0, hO.top⟩
   refine zh (cb a9) (wp_skip (ze (ms rfl (mi rfl ?_))))
   obtain ⟨x47, e0, hs⟩ := bind_some hs
   obtain ⟨b7, g2, b8, e1, e2, g3, g4⟩ := zR Sl43 Sz3 a3 e0
   refine za _ (e2 _ _ _ _ _ _ _ _ _ rfl rfl) ?_
   obtain ⟨e3, e4, e5, b9, e6, b1⟩ := yn (P := Try.prog) (c' := [(iv 0)]) b8 a3 e1 (fun g hg => hO.inM g (zA a3 g (by simpa using hg))) ⟨rfl, rfl⟩ List.nodup_nil (fun _ h => nomatch h) (fun _ h => .inl h)
   have e7 : ∀ q ∈ [b7], q ∈ a5 := fun q hq => zA a3 q (by rw [b8]; exact hq)
   refine Zk (w' := e3) (zV rfl rfl (e5 _ _ rfl Sz3)) ?_
   have hC := hC.st b9 hO e7
   have hO := hO.grow b9 (fun q hq => .inl ((e6 q hq).resolve_right (fun h => nomatch h))) (zw b1) b1.fpl
   refine zb (ze (mi rfl (za _ (ysu rfl rfl) (ai rfl (zb ?_)))))
   cases hs
   exact ⟨_, e4, fr_m 37 rfl, hC, hO, b1⟩
  refine zh (cb a8) (wp_exit ?_)
  cases hs
  exact ⟨rfl, _, a5, fr_m 37 rfl, hC, hO, a3⟩
 ·skip
  exact ⟨_, b2, fr_m 37 rfl, hC, hO, b3⟩
 cases o34 with
 | nx _ => exact True.intro
 | rt r_ =>
  have hs := zp hs
  intro e8 c0 hK
  cases hs
  exact hK
 | br s30 =>
  have hs := zq hs
  rintro e8 a4 ⟨σ, a6, rfl, hC, hO, e9⟩
  refine c_sr (ms rfl (ax rfl (ab rfl (zb (wp_ret ?_)))))
  cases hs
  exact ⟨_, a0, a1, a2, a6, fr_m 37 rfl, hC, e9, hO.top⟩

theorem Bd69 : zC Try.prog 69 := zI Try.func69 (by kernel_rfl) rfl

theorem Bd70 : zC Try.prog 70 := zI Try.func70 (by kernel_rfl) rfl

theorem Bd71 : zC Try.prog 71 := zI Try.func71 (by kernel_rfl) rfl

theorem Bd72 : zC Try.prog 72 := zI Try.func72 (by kernel_rfl) rfl

def xI (M : Nat → Prop) (w0 : World) (r : (List (List Int))) (a : Act) (w : World) : Prop :=
  ∃ (σ : Nat → Value) (ra0 : Option Addr) (rn0 rc0 : Nat), a = fr 25 (ovl σ [(4, (.slice ra0 rn0 rc0))]) ∧ Chg [] w0 w ∧ (RT.rs (RT.rs (RT.int .i64))).val (Past M w0 w) w (.slice ra0 rn0 rc0) r []
def Zm (line : List (List Int)) (numbers : List Int) : Option ((List (List Int))) :=
  (forC (S := (List (List Int))) (R := (List (List Int))) (fun k36 s34 =>
  (idx numbers k36).bind fun x46 =>
  (idx line x46).bind fun x48 =>
  (app s34 ([x48])).bind fun y55 =>
  some (.nx y55)) 0 (numbers.length : Int) ([])).bind fun o38 => after o38 (fun r_ => some r_) (fun s34 =>
  some s34)
set_option maxHeartbeats 4000000 in
theorem wC {M : Nat → Prop} {w : World} {pa0 : Option Addr} {pn0 pc0 : Nat} {pf0 : List Nat} {pa1 : Option Addr} {pn1 pc1 : Nat} (line : List (List Int)) (numbers : List Int) (h0 : (RT.os 43 rl).val M w (.slice pa0 pn0 pc0) line pf0) (h1 : rl.val M w (.slice pa1 pn1 pc1) numbers ([])) (hM : ∀ g, w.heap.size ≤ g → M g) {r : (List (List Int))} (hs : Zm line numbers = some r) :
    Gives Try.prog 73 [(.slice pa0 pn0 pc0), (.slice pa1 pn1 pc1)] w (fun v w' => ∃ (ra0 : Option Addr) (rn0 rc0 : Nat), v = (.slice ra0 rn0 rc0) ∧ Chg [] w w' ∧ (RT.rs rl).val (Past M w w') w' (.slice ra0 rn0 rc0) r []) := by
 refine zr Try.func73 rfl Try.ntmps73 (Nat.le_of_ble_eq_true rfl) ?_
 have hO := Own.start (N := Nw w []) hM Nw.fut
 have d7 := h0.fpl
 have hC := Chg.refl [] w
 unfold Zm at hs
 refine wp_k (K := (xI M w r)) (by rintro _ _ ⟨σ, ra0, rn0, rc0, rfl, hrest⟩; exact Zh Try.results73 (zB rfl) ⟨ra0, rn0, rc0, rfl, hrest⟩) (c_sr (ax rfl (zb (c_sr ?_))))
 obtain ⟨d0, b2, d9, d1, b6, d2⟩ := zi w [] 43
 refine za (w' := d0) (.slice (some ⟨b2, 0, none⟩) 0 0) (zG rfl (by rw [d9, d1]; kernel_rfl)) ?_
 obtain ⟨h0, h1, hC⟩ := xt3 b6 h0 h1 hC
 have hO := hO.new1 b6 d1 d2.lt
 have b7 := os0 (r := (RT.os 3 ri)) (M := M) d2
 refine ax rfl (zb (zd (c_sr (ai rfl (zb ?_)))))
 obtain ⟨b8, e0, d3, e1, hO, e2⟩ := xA (Frz.os Frz.int) b7 hO
 have h0 := h0.sub d3
 have h1 := h1.sub d3
 have hK := e1
 obtain ⟨o38, e3, hs⟩ := bind_some hs
 refine wp_block (zW (id := 0) (numbers.length : Int) (I := fun k36 s34 a a0 => ∃ (σ : Nat → Value) (a1 : Nat → Prop) (a3 : Option Addr) (a4 : Nat) (a5 : Nat) (b3 : List Nat), a = fr 25 (ovl σ [(0, (.slice pa0 pn0 pc0)), (1, (.slice pa1 pn1 pc1)), (5, (.slice a3 a4 a5)), (6, (iv k36))]) ∧ Chg [] w a0 ∧ Own (Nw w []) a1 a0 (b3 ++ []) ∧ Keeps w M a1 ∧ (RT.os 43 rl).val a1 a0 (.slice pa0 pn0 pc0) line pf0 ∧ rl.val a1 a0 (.slice pa1 pn1 pc1) numbers ([]) ∧ (RT.os 43 rl).val a1 a0 (.slice a3 a4 a5) s34 b3) (J := fun s34 a a0 => ∃ (σ : Nat → Value) (a6 : Nat → Prop) (a7 : Option Addr) (a8 : Nat) (a9 : Nat) (b9 : List Nat), a = fr 25 (ovl σ [(5, (.slice a7 a8 a9))]) ∧ Chg [] w a0 ∧ Own (Nw w []) a6 a0 (b9 ++ []) ∧ Keeps w M a6 ∧ (RT.os 43 rl).val a6 a0 (.slice pa0 pn0 pc0) line pf0 ∧ rl.val a6 a0 (.slice pa1 pn1 pc1) numbers ([]) ∧ (RT.os 43 rl).val a6 a0 (.slice a7 a8 a9) s34 b9) (K := (xI M w)) ?_ ?_ 0 ([]) o38 _ _ ?_ e3 ?_)
 ·rintro k36 s34 a a0 ⟨σ, a1, a3, a4, a5, b3, rfl, hC, hO, hK, h0, h1, b0⟩ hlt
  refine zd (c_sr (mi rfl (ms rfl (za _ (zn Sl43 (zu h1) rfl) (za _ (zx rfl rfl) (zb (zh (cb (decide_eq_false hlt)) (wp_exit ?_))))))))
  exact ⟨rfl, _, a1, a3, a4, a5, b3, fr_m 25 rfl, hC, hO, hK, h0, h1, b0⟩
 ·rintro k36 s34 o38 a a0 ⟨σ, a1, a3, a4, a5, b3, rfl, hC, hO, hK, h0, h1, b0⟩ hlt hw hs
  refine zd (c_sr (mi rfl (ms rfl (za _ (zn Sl43 (zu h1) rfl) (za _ (zx rfl rfl) (zb (zg (cb (decide_eq_true hlt)) (wp_skip (zd (wp_block (ze (ms rfl (ms rfl (ms rfl (mi rfl ?_)))))))))))))))
  obtain ⟨x46, e4, hs⟩ := bind_some hs
  obtain ⟨e5, e6, e7, c0⟩ := zN Sl43 Sz3 h1 e4
  refine za _ (e7 _ _ _ _ _ _ _ _ _ rfl rfl) (za (iv x46) (zo rfl ((zz Ag3 Sz3 c0) _ (Chg.refl _ _))) ?_)
  obtain ⟨x48, e8, hs⟩ := bind_some hs
  obtain ⟨e9, g4, g5, g6, f0, f1, g7⟩ := zR Sl25 Sz43 h0 e8
  have f2 := uV Rd.rs f1
  refine za _ (f0 _ _ _ _ _ _ _ _ _ rfl rfl) ?_
  obtain ⟨g8, f3, b1⟩ := Zj Ag43 Sz43 (fun _ => rfl) f2
  obtain ⟨c1, c2, c3, rfl⟩ := yd b1
  refine za (.slice c1 c2 c3) (zo rfl (f3 _ (Chg.refl _ _))) ?_
  obtain ⟨d4, c4, f4, d5, a2, d6⟩ := zi a0 [(.slice c1 c2 c3)] 43
  refine za (w' := d4) (.slice (some ⟨c4, 0, none⟩) 1 1) (zG rfl (by rw [f4, d5]; kernel_rfl)) ?_
  obtain ⟨h0, h1, b0, b1, c0, hC⟩ := xt6 a2 h0 h1 b0 b1 c0 hC
  have hO := hO.new1 a2 d5 d6.lt
  have c5 := zT (r := rl) (M := a1) (css := [[(.slice c1 c2 c3)]]) (fps := [([] : List Nat)]) (xs := ([x48] : List (List Int))) d6 ⟨(yq b1), trivial⟩ (Nat.le_of_ble_eq_true rfl) (List.nodup_cons.2 ⟨(fun h => nomatch h), List.nodup_nil⟩)
  have c5 : (RT.os 43 rl).val a1 d4 (.slice (some ⟨c4, 0, none⟩) 1 1) [x48] [c4] := c5
  obtain ⟨y55, f5, hs⟩ := bind_some hs
  have hO := hO.fr1
  obtain ⟨c6, c7, c8, f6, f7, f8, b4, f9, c9⟩ := Yc Rw25 f5 b0 c5 hO.inM (fun g hg hq => hO.apart g hq (zm hg))
  have b5 := zA b0
  refine za (w' := f6) (.slice c6 c7 c8) (zU rfl rfl (f8 _)) ?_
  have hO := hO.fr1.fr1
  have h0 := h0.mut b4 (fun g hg => hO.inM g (b5 g hg)) (fun g hg e => Nat.lt_irrefl _ (Nat.lt_of_lt_of_le (d7 g e) ((hO.inN g (b5 g hg)).resolve_left (fun h => nomatch h))))
  have h1 := h1.mt b4 hO b5
  have b1 := b1.mt b4 hO b5
  have hC := hC.st b4 hO b5
  have hO := hO.eat b4 f9 (zw c9) c9.fpl
  refine ax rfl (zb (ze (mi rfl (za _ (yad rfl rfl) (ai rfl (zb ?_))))))
  cases hs
  exact ⟨_, a1, c6, c7, c8, f7, zD 25 ⟨rfl, rfl, rfl, congrArg (Value.int .i64) hw, trivial⟩, hC, hO, hK, h0, h1, c9⟩
 ·skip
  exact ⟨_, b8, (some ⟨b2, 0, none⟩), 0, 0, e0, fr_m 25 rfl, hC, hO, hK, h0, h1, e2⟩
 cases o38 with
 | nx _ => exact True.intro
 | rt r_ =>
  have hs := zp hs
  intro g0 d8 hK
  cases hs
  exact hK
 | br s34 =>
  have hs := zq hs
  rintro g0 a0 ⟨σ, a6, a7, a8, a9, b9, rfl, hC, hO, hK, h0, h1, g1⟩
  refine c_sr (ms rfl (ax rfl (zb (wp_ret ?_))))
  cases hs
  obtain ⟨g9, h2, h3, g2, hO, g3⟩ := xx (Frz.os (Frz.rs Frz.int)) g1 hO
  have hK := hK.trans g2
  exact ⟨_, a7, a8, a9, fr_m 25 rfl, hC, (Keeps.out hK g3)⟩

theorem Bd73 : zC Try.prog 73 := zI Try.func73 (by kernel_rfl) rfl

theorem Bd74 : zC Try.prog 74 := zI Try.func74 (by kernel_rfl) rfl

end Go.Proofs
